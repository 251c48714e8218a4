/-
  Drawn marks.
-/
import Derived.Test.YtphakidbddamfaaGreatZDj
import Derived.Test.YtphakidbddamfaaGreatZSa
import Derived.Test.YtphakidbddamfaaGreatZIu
import Derived.Test.YtphakidbddamfaaGreatZTk
import Derived.Test.YtphakidbddamfaaGreatZMh
set_option linter.unusedSimpArgs false
set_option linter.unusedVariables false
set_option maxHeartbeats 2000000
set_option maxRecDepth 100000
namespace Go.Proofs.YtphakidbddamfaaGreat
open Go.RowKit
def ze (n j:Nat) (m:MarksD):Prop:=(m.grades.length = n∧∀ x ∈ m.grades,x.length = j)∧m.components.length = 3∧∀ x ∈ m.components,x.length = j
def mkB2 (n:Nat) (m:MarksD):Prop:=∃ j,3≤j∧j≤9∧ze n j m
theorem mc {k:Nat} {cs:List D} {n:Nat} (hC:Cur k cs) (hk:k≤1000000000) (hn:n≤16):FnC Tryz.prog 176 3 [.int .i64 (n:Int)] cs (dd (k + 500) (mkB2 n) fun m=>[.deep 23 1 (m.grades.map (ax 1 aa)),.deep 23 1 (m.components.map (ax 1 aa))]) .agg:=by
 refine cq ae Tryz.func176 rfl rfl hC.len fun ty=>?_;simp only [Tryz.ntmps176,aP,aK,Nat.reduceAdd,Nat.reduceSub,aH,aG,ao,aV]
 repeat' (first|with_reducible refine bs (id:=1) ?_|with_reducible refine br (id:=1) ?_|((with_reducible first|(apply hK;clear hK K)|refine ah fun U O=>?_|apply ag|(apply Z<;>(intro hc;try simp at hc;try omega)))<;>try simp only [go_sem])|(with_reducible first|apply aj|(apply O;clear O U)|refine kN eK fun K hK=>?_|refine kO fun K hK=>?_|refine aI ?_)|apply iB)
 unfold eu
 refine cM (cI ?_)
 refine dH 23 1 23 1 rfl (ae _ _ gL) rfl ?_
 refine bw ae ?_
 simp only [go_sem]
 refine bw ae ?_
 simp only [go_sem,gc,fz]
 refine aZ ?_
 repeat' (first|((with_reducible first|(apply hK;clear hK K)|refine ah fun U O=>?_|apply ag|(apply Z<;>(intro hc;try simp at hc;try omega)))<;>try simp only [go_sem])|(with_reducible first|apply aj|(apply O;clear O U)|refine kN eK fun K hK=>?_|refine kO fun K hK=>?_|refine aI ?_)|((first|refine CallK.cur (some 0) (n9 hC (by omega)) rfl rfl rfl rfl rfl rfl ?_);rintro c2 _ ⟨x,hx,rfl,hC⟩;try simp only [aU,go_sem])|((first|refine CallK.cur (some 0) (n9 hC (by omega)) rfl rfl rfl rfl rfl rfl ?_);rintro c2 _ ⟨x,hx,rfl,hC⟩;try simp only [aU,go_sem])|apply iB)
 obtain ⟨j,rfl⟩:∃ j:Nat,x = (j:Int):=⟨x.toNat,by omega⟩
 have hj3:3≤j:=by omega
 have hj9:j≤9:=by omega
 replace hC:Cur (k + 2) c2:=hC
 clear hx
 refine cS 2 rfl (by intro e he;cases he) ?_
 simp only [go_sem]
 refine cS 3 rfl (by intro e he;cases he) ?_
 simp only [go_sem]
 refine aA [7,8,14,15,16,17,18,19,20,21,22,23,24,25,26,27,28,29,30,31,32,33,34,35,36,37,38,39,40,41] (fun q:List (List Int) × List D=>[(0,.bptr 0 0),(4,.bptr 1 0),(5,.bptr 2 0),(11,.und)]) (fun q=>[(0,.pbox 0 ty (q.2.map .d)),(1,.box 45 [.d (.lst 1 []),.d (.lst 1 [])]),(2,.box 45 [.row 3 q.1.length,.row 4 0]),(3,.deep 0 23 1 (q.1.map (ax 1 aa))),(4,.deep 0 23 1 [])]) 5 (fun q=>q.1.length≤n∧(∀ x ∈ q.1,x.length = j)∧Cur (k + 2 + 22 * q.1.length) q.2) (fun q=>n - q.1.length) ([],c2) ⟨by simp,by simp,hC.mono (by simp)⟩ (an [(3,2),(4,3)] (by simp [lk,ab]<;>omega)) ?_
 clear hC
 rintro ⟨g,c0⟩ ⟨hg,hgj,hC0⟩;simp only [bc,wipe,wl,bb,bx,rm,if_true,if_false,Nat.reduceEqDiff,Bool.false_eq_true,reduceCtorEq]
 simp only at hg hgj hC0
 by_cases hlt:g.length < n
 ·have hlt':(g.length:Int) < (n:Int):=by omega
  repeat' (first|((with_reducible first|(apply hK;clear hK K)|refine ah fun U O=>?_|apply ag|(apply Z<;>(intro hc;try simp at hc;try omega)))<;>try simp only [go_sem,hlt',ao])|(with_reducible first|apply aj|(apply O;clear O U)|refine kN eK fun K hK=>?_|refine kO fun K hK=>?_|refine aI ?_)|((first|refine CallK.cur (some 0) (a_ hC0 (by omega)) rfl rfl rfl rfl rfl rfl ?_);rintro c2 _ ⟨x,hx,rfl,hC⟩;try simp only [aU,go_sem,hlt',ao])|((first|refine CallK.cur (some 0) (a_ hC0 (by omega)) rfl rfl rfl rfl rfl rfl ?_);rintro c2 _ ⟨x,hx,rfl,hC⟩;try simp only [aU,go_sem,hlt',ao])|apply iB)
  all_goals first
   |(exfalso;omega)
   |skip
  obtain ⟨mid,hmid⟩:∃ mid,x - 3 = mid:=⟨_,rfl⟩
  have hm:-3≤mid∧mid≤3:=by omega
  rw [hmid]
  replace hC:Cur (k + 2 + 22 * g.length + 2) c2:=hC
  clear hx hC0 hmid
  refine aA [8,22,23,24,25,26,27,28,29,30,31,32,33,34,35] (fun q:List Int × List D=>[(0,.bptr 0 0),(4,.bptr 1 0),(5,.bptr 2 0),(8,.row 5 q.1.length)]) (fun q=>[(0,.pbox 0 ty (q.2.map .d)),(1,.box 45 [.d (.lst 1 []),.d (.lst 1 [])]),(2,.box 45 [.row 3 g.length,.row 4 0]),(3,.deep 0 23 1 (g.map (ax 1 aa))),(4,.deep 0 23 1 []),(5,.row 3 1 (q.1.map aa))]) 6 (fun q=>q.1.length≤j∧Cur (k + 2 + 22 * g.length + 2 + 2 * q.1.length) q.2) (fun q=>j - q.1.length) ([],c2) ⟨by simp,hC.mono (by simp)⟩ (an [] (by simp [lk,ab]<;>omega)) ?_
  rintro ⟨l,c0⟩ ⟨hl,hC0⟩;simp only [bc,wipe,wl,bb,bx,rm,if_true,if_false,Nat.reduceEqDiff,Bool.false_eq_true,reduceCtorEq]
  simp only at hl hC0
  by_cases hlt2:l.length < j
  ·have hlt2':(l.length:Int) < (j:Int):=by omega
   repeat' (first|((with_reducible first|(apply hK;clear hK K)|refine ah fun U O=>?_|apply ag|(apply Z<;>(intro hc;try simp at hc;try omega)))<;>try simp only [go_sem,hlt2',ao])|(with_reducible first|apply aj|(apply O;clear O U)|refine kN eK fun K hK=>?_|refine kO fun K hK=>?_|refine aI ?_)|((with_reducible apply CallK.eq);(· with_reducible first|exact ea _ _|exact gC _ _);(· simp [RV.flat,D.sc,aa]);try simp only [go_sem,hlt2',ao])|((first|refine CallK.cur (some 0) (a_ hC0 (by omega)) rfl rfl rfl rfl rfl rfl ?_);rintro c2 _ ⟨x,hx,rfl,hC⟩;try simp only [aU,go_sem,hlt2',ao])|apply iB)
   all_goals first
    |(exfalso;omega)
    |exact ⟨(l++[max (-5) (min 5 (mid + x - 1))],c2),⟨by simp;omega,Cur.mono (by assumption) (by simp;omega)⟩,by simp;omega,(an [] (by simp [lk,ab,aa]<;>omega))⟩
  ·have hlt2':¬ (l.length:Int) < (j:Int):=by omega
   have hlj:l.length = j:=by omega
   have hdl:ax 1 aa l = [.lst 1 (l.map aa)]:=rfl
   repeat' (first|((with_reducible first|(apply hK;clear hK K)|refine ah fun U O=>?_|apply ag|(apply Z<;>(intro hc;try simp at hc;try omega)))<;>try simp only [go_sem,hlt2',ao])|(with_reducible first|apply aj|(apply O;clear O U)|refine kN eK fun K hK=>?_|refine kO fun K hK=>?_|refine aI ?_)|apply iB)
   all_goals first
    |(exfalso;omega)
    |skip
   refine bq (cs:=[.row 5 l.length]) (ds:=ax 1 aa l) rfl (ae _ _ gK) (by decide) rfl (by rw [hdl];simp [dm,dA,ab,D.scB]) (by simp [a9]) (by simp only [cD,cr,ab,if_true,if_false,Nat.reduceEqDiff];exact ⟨bU _,trivial⟩) ?_
   repeat' (first|((with_reducible first|(apply hK;clear hK K)|refine ah fun U O=>?_|apply ag|(apply Z<;>(intro hc;try simp at hc;try omega)))<;>try simp only [go_sem])|(with_reducible first|apply aj|(apply O;clear O U)|refine kN eK fun K hK=>?_|refine kO fun K hK=>?_|refine aI ?_)|apply iB)
   refine bG (es:=g.map (ax 1 aa)) (fs:=[ax 1 aa l]) (n:=g.length) (n2:=1) rfl (ae _ _ gK) rfl rfl rfl rfl (by decide) (by simp) rfl (by exact True.intro) (by exact True.intro) (by simp<;>omega) ?_
   repeat' (first|((with_reducible first|(apply hK;clear hK K)|refine ah fun U O=>?_|apply ag|(apply Z<;>(intro hc;try simp at hc;try omega)))<;>try simp only [go_sem])|(with_reducible first|apply aj|(apply O;clear O U)|refine kN eK fun K hK=>?_|refine kO fun K hK=>?_|refine aI ?_)|apply iB)
   exact ⟨(g++[l],c0),⟨by simp;omega,cl hgj hlj,hC0.mono (by simp;omega)⟩,by simp;omega,(an [(3,7)] (by simp [lk,ab]<;>omega))⟩
 ·have hlt':¬ (g.length:Int) < (n:Int):=by omega
  have hgn:g.length = n:=by omega
  replace hC0:Cur (k + 354) c0:=hC0.mono (by omega)
  repeat' (first|((with_reducible first|(apply hK;clear hK K)|refine ah fun U O=>?_|apply ag|(apply Z<;>(intro hc;try simp at hc;try omega)))<;>try simp only [go_sem,hlt',ao])|(with_reducible first|apply aj|(apply O;clear O U)|refine kN eK fun K hK=>?_|refine kO fun K hK=>?_|refine aI ?_)|apply iB)
  refine aA [9,10,42,43,44,45,46,47,48,49,50,51,52,53,54,55,56,57,58,59,60,61,62,63,64,65] (fun q:List (List Int) × List D=>[(0,.bptr 0 0),(4,.bptr 1 0),(5,.bptr 2 0)]) (fun q=>[(0,.pbox 0 ty (q.2.map .d)),(1,.box 45 [.d (.lst 1 []),.d (.lst 1 [])]),(2,.box 45 [.row 3 g.length,.row 4 q.1.length]),(3,.deep 0 23 1 (g.map (ax 1 aa))),(4,.deep 0 23 1 (q.1.map (ax 1 aa)))]) 5 (fun q=>q.1.length≤3∧(∀ x ∈ q.1,x.length = j)∧Cur (k + 354 + 22 * q.1.length) q.2) (fun q=>3 - q.1.length) ([],c0) ⟨by simp,by simp,hC0.mono (by simp)⟩ (an [] (by simp [lk,ab]<;>omega)) ?_
  clear hC0
  rintro ⟨p,c0⟩ ⟨hp,hpj,hC0⟩;simp only [bc,wipe,wl,bb,bx,rm,if_true,if_false,Nat.reduceEqDiff,Bool.false_eq_true,reduceCtorEq]
  simp only at hp hpj hC0
  by_cases hlt3:p.length < 3
  ·have hlt3':(p.length:Int) < 3:=by omega
   repeat' (first|((with_reducible first|(apply hK;clear hK K)|refine ah fun U O=>?_|apply ag|(apply Z<;>(intro hc;try simp at hc;try omega)))<;>try simp only [go_sem,hlt3',ao])|(with_reducible first|apply aj|(apply O;clear O U)|refine kN eK fun K hK=>?_|refine kO fun K hK=>?_|refine aI ?_)|((first|refine CallK.cur (some 0) (a_ hC0 (by omega)) rfl rfl rfl rfl rfl rfl ?_);rintro c2 _ ⟨x,hx,rfl,hC⟩;try simp only [aU,go_sem,hlt3',ao])|((first|refine CallK.cur (some 0) (a_ hC0 (by omega)) rfl rfl rfl rfl rfl rfl ?_);rintro c2 _ ⟨x,hx,rfl,hC⟩;try simp only [aU,go_sem,hlt3',ao])|apply iB)
   all_goals first
    |(exfalso;omega)
    |skip
   replace hC:Cur (k + 354 + 22 * p.length + 2) c2:=hC
   clear hC0
   refine aA [10,48,49,50,51,52,53,54,55,56,57,58,59] (fun q:List Int × List D=>[(0,.bptr 0 0),(4,.bptr 1 0),(5,.bptr 2 0),(10,.row 5 q.1.length)]) (fun q=>[(0,.pbox 0 ty (q.2.map .d)),(1,.box 45 [.d (.lst 1 []),.d (.lst 1 [])]),(2,.box 45 [.row 3 g.length,.row 4 p.length]),(3,.deep 0 23 1 (g.map (ax 1 aa))),(4,.deep 0 23 1 (p.map (ax 1 aa))),(5,.row 3 1 (q.1.map aa))]) 6 (fun q=>q.1.length≤j∧Cur (k + 354 + 22 * p.length + 2 + 2 * q.1.length) q.2) (fun q=>j - q.1.length) ([],c2) ⟨by simp,hC.mono (by simp)⟩ (an [] (by simp [lk,ab]<;>omega)) ?_
   clear hC
   obtain ⟨mid,hmid⟩:∃ mid,mid = x:=⟨_,rfl⟩
   have hm:0≤mid∧mid≤37:=by omega
   rw [←hmid]
   clear hx hmid
   rintro ⟨l,c0⟩ ⟨hl,hC0⟩;simp only [bc,wipe,wl,bb,bx,rm,if_true,if_false,Nat.reduceEqDiff,Bool.false_eq_true,reduceCtorEq]
   simp only at hl hC0
   by_cases hlt2:l.length < j
   ·have hlt2':(l.length:Int) < (j:Int):=by omega
    repeat' (first|((with_reducible first|(apply hK;clear hK K)|refine ah fun U O=>?_|apply ag|(apply Z<;>(intro hc;try simp at hc;try omega)))<;>try simp only [go_sem,hlt2',ao])|(with_reducible first|apply aj|(apply O;clear O U)|refine kN eK fun K hK=>?_|refine kO fun K hK=>?_|refine aI ?_)|((first|refine CallK.cur (some 0) (a_ hC0 (by omega)) rfl rfl rfl rfl rfl rfl ?_);rintro c2 _ ⟨x,hx,rfl,hC⟩;try simp only [aU,go_sem,hlt2',ao])|((first|refine CallK.cur (some 0) (a_ hC0 (by omega)) rfl rfl rfl rfl rfl rfl ?_);rintro c2 _ ⟨x,hx,rfl,hC⟩;try simp only [aU,go_sem,hlt2',ao])|apply iB)
    all_goals first
     |(exfalso;omega)
     |exact ⟨(l++[25 * (mid + x)],c2),⟨by simp;omega,Cur.mono (by assumption) (by simp;omega)⟩,by simp;omega,(an [] (by simp [lk,ab,aa]<;>omega))⟩
   ·have hlt2':¬ (l.length:Int) < (j:Int):=by omega
    have hlj:l.length = j:=by omega
    have hdl:ax 1 aa l = [.lst 1 (l.map aa)]:=rfl
    repeat' (first|((with_reducible first|(apply hK;clear hK K)|refine ah fun U O=>?_|apply ag|(apply Z<;>(intro hc;try simp at hc;try omega)))<;>try simp only [go_sem,hlt2',ao])|(with_reducible first|apply aj|(apply O;clear O U)|refine kN eK fun K hK=>?_|refine kO fun K hK=>?_|refine aI ?_)|apply iB)
    all_goals first
     |(exfalso;omega)
     |skip
    refine bq (cs:=[.row 5 l.length]) (ds:=ax 1 aa l) rfl (ae _ _ gK) (by decide) rfl (by rw [hdl];simp [dm,dA,ab,D.scB]) (by simp [a9]) (by simp only [cD,cr,ab,if_true,if_false,Nat.reduceEqDiff];exact ⟨bU _,trivial⟩) ?_
    repeat' (first|((with_reducible first|(apply hK;clear hK K)|refine ah fun U O=>?_|apply ag|(apply Z<;>(intro hc;try simp at hc;try omega)))<;>try simp only [go_sem])|(with_reducible first|apply aj|(apply O;clear O U)|refine kN eK fun K hK=>?_|refine kO fun K hK=>?_|refine aI ?_)|apply iB)
    refine bG (es:=p.map (ax 1 aa)) (fs:=[ax 1 aa l]) (n:=p.length) (n2:=1) rfl (ae _ _ gK) rfl rfl rfl rfl (by decide) (by simp) rfl (by exact True.intro) (by exact True.intro) (by simp<;>omega) ?_
    repeat' (first|((with_reducible first|(apply hK;clear hK K)|refine ah fun U O=>?_|apply ag|(apply Z<;>(intro hc;try simp at hc;try omega)))<;>try simp only [go_sem])|(with_reducible first|apply aj|(apply O;clear O U)|refine kN eK fun K hK=>?_|refine kO fun K hK=>?_|refine aI ?_)|apply iB)
    exact ⟨(p++[l],c0),⟨by simp;omega,cl hpj hlj,hC0.mono (by simp;omega)⟩,by simp;omega,(an [(4,7)] (by simp [lk,ab]<;>omega))⟩
  ·have hlt3':¬ (p.length:Int) < 3:=by omega
   have hp3:p.length = 3:=by omega
   repeat' (first|((with_reducible first|(apply hK;clear hK K)|refine ah fun U O=>?_|apply ag|(apply Z<;>(intro hc;try simp at hc;try omega)))<;>try simp only [go_sem,hlt3',ao])|(with_reducible first|apply aj|(apply O;clear O U)|refine kN eK fun K hK=>?_|refine kO fun K hK=>?_|refine aI ?_)|apply iB)
   refine cG (id:=0) (xs:=[.row _ _,.row _ _]) _ rfl (by simp only [bj,bn,ab,lk,ao,if_true,if_false,Nat.reduceEqDiff,Nat.reduceBEq,Bool.false_eq_true,Option.some.injEq]<;>rfl) (by simp [am,lk]) rfl (Cur.len (by assumption)) ⟨⟨g,p⟩,⟨j,hj3,hj9,⟨hgn,hgj⟩,hp3,hpj⟩,rfl,Cur.mono (by assumption) (by omega)⟩
end Go.Proofs.YtphakidbddamfaaGreat
namespace Go.Proofs.YtphakidbddamfaaGreat
open Go.RowKit
theorem lm {P:Program} {o:Oper} {s:AS} {K:AS→Prop} {x y:Operand} {t e:TypeId} {sz bytes id n ty:Nat} {z:List D} {es fs:List (List D)} (ho:o.op = .call {callee:=.builtin .append,args:=#[x,y],argTypes:=#[t,t]}) (ht:cm P t (.slc e sz bytes z) = true)
  (hx:s.get x = .row id n) (hg:ab s.hp id = some (.row ty sz es)) (hn:es.length = n) (hy:iM s.hp (s.get y) = some (sz,fs)) (hlen:es.length + fs.length≤16777216)
  (hK:∀ ty2:TypeId,K (AS.put ⟨s.fr,(s.nx,.row ty2 sz (es++fs))::dJ s.hp id,s.nx + 1⟩ o.dst (.row s.nx (n + fs.length)))):PO P o s K:=
 PO.mk fun X0 w0 m a w hs=>by
  have h1:=hs.get x
  rw [hx] at h1
  obtain ⟨l,xs,h2,h3,h4⟩:=lZ hs hg hn h1
  have hsrc:=hs.src hy (hs.get y)
  obtain ⟨A,c',news,h5,h6,h7,h8,h9,h10⟩:=hsrc.news
  obtain ⟨g1,⟨i,v,g2,g3,g4,g5,g6⟩,g7,g8,g9,_⟩:=dO ht
  have hzs:v.cells.size = sz:=by rw [(jC g6).1,g7]
  have hbig:(n + fs.length) * bytes≤140737488355328:=Nat.le_trans (Nat.mul_le_mul (show n + fs.length≤16777216 by omega) g9) (by decide)
  obtain ⟨v',w',l',e1,r1,r2,r3,r4,r5,r6,r7,r8⟩:=rc (P:=P) (ty:=o.type) (c':=c') g1 g2 g5 g3 g4 hzs h3 h6 h7 h8 h9 (by unfold maxLen;omega) hbig
  have hnone:ab (dJ s.hp id) s.nx = none:=by rw [cR];split<;>simp [hs.hget_nx]
  have hbe:∀ b c,l = .blk b c→(w0.w.heap.size≤b∨w0.chg b)∧b < w.heap.size:=fun b c e=>hs.owns hg (by rw [h2,e])
  refine ⟨v',w',bT m s.nx l',⟨s.fr,(s.nx,.row e1 sz (es++fs))::dJ s.hp id,s.nx + 1⟩,.row s.nx (n + fs.length),?_,?_,qk r2 (bt _ _ _),hK e1⟩
  ·have ex1:(execOp a.eval o) = (do let r←Builtin.append_ #[t,t] o.type #[a.eval x,a.eval y];pure (Next.value r)):=by
    simp [execOp,ho,resolve,invoke,builtin]
   rw [ex1,Sem.run_bind,h5,r1]
   rfl
  ·refine hs.change (i:=s.nx) (blk':=.row e1 sz (es++fs)) (l':=l') (fun k=>∃ c,l = .blk k c) (.inl hs.hnx) (by simp [ab]) rfl (fun id' hne blk hb=>?_) (fun id' q ty' sz' es' hd=>?_) (by omega) (by omega) ⟨r3,r4,r5,r6.1,fun k hk hn=>r7 k (by have:=hs.below.size;omega) (fun c e=>by rcases (hbe k c e).1 with h|h;omega;exact hn h),.of_le r6.2⟩ (fun k hk hne=>r7 k hk (fun c e=>hne ⟨c,e⟩)) ?_ ?_ ?_
   ·rw [ab,if_neg hne,cR] at hb
    split at hb
    ·cases hb
    ·exact hb
   ·have hne:id'≠id:=fun e=>by subst e;rw [hg] at hd;cases hd
    have hne2:id'≠s.nx:=fun e=>by subst e;rw [hs.hget_nx] at hd;cases hd
    exact ⟨hne2,by rw [ab,if_neg hne2,cR,if_neg hne]⟩
   ·rintro k ⟨c,e⟩
    refine ⟨id,_,hg,⟨c,by rw [h2,e]⟩,?_⟩
    by_cases e2:id = s.nx
    ·exact .inl e2
    ·refine .inr ?_
     rw [ab,if_neg e2,cR,if_pos rfl]
   ·intro b c e
    obtain ⟨q1,q2⟩:=r8 b c e
    rcases q2 with q2|q2
    ·exact ⟨.inl (Nat.le_trans hs.below.size q2),q1,.inl q2⟩
    ·exact ⟨(hbe b c q2).1,q1,.inr ⟨c,q2⟩⟩
   ·intro hst
    refine rP r2 (by simp [hn]) (fun e' he'=>?_) (fun k e' j d u he' hd hu=>?_)
    ·rcases List.mem_append.1 he' with h|h
     ·obtain ⟨lb,hlb,hok⟩:=hs.hp id _ hg
      cases lb with
      |nil=>have:es = []:=hok;rw [this] at h;simp at h
      |blk b c=>obtain ⟨arr,_,hc⟩:=hok;exact hc.2.2.2.1 e' h
     ·exact hsrc.1 e' h
    ·have hxl:xs.length = n * sz:=h3.len
     by_cases hk:k < es.length
     ·rw [List.getElem?_append_left hk] at he'
      have hj:j < sz:=by
       have:=(List.getElem?_eq_some_iff.1 hd).1
       obtain ⟨lb,hlb,hok⟩:=hs.hp id _ hg
       cases lb with
       |nil=>have h0:es = []:=hok;rw [h0] at hk;simp at hk
       |blk b c=>obtain ⟨arr,_,hc⟩:=hok;rw [hc.2.2.2.1 e' (List.mem_of_getElem? he')] at this;exact this
      rw [List.getElem?_append_left (by rw [hxl];exact cz (by omega) hj)] at hu
      exact (h4 k e' j d u he' hd hu).mono hst
     ·rw [List.getElem?_append_right (by omega)] at he'
      have e3:n * sz≤k * sz + j:=by
       have:n * sz≤k * sz:=Nat.mul_le_mul_right _ (by omega)
       omega
      rw [List.getElem?_append_right (by rw [hxl];exact e3),hxl] at hu
      have e4:k * sz + j - n * sz = (k - es.length) * sz + j:=by
       rw [Nat.sub_mul,hn]
       have:n * sz≤k * sz:=Nat.mul_le_mul_right _ (by omega)
       omega
      rw [e4] at hu
      exact (h10 (k - es.length) e' j d u he' hd hu).mono hst
end Go.Proofs.YtphakidbddamfaaGreat
