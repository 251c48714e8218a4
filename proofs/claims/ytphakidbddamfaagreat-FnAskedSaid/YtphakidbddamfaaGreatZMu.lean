/-
  Drawn marks.
-/
import Derived.Test.YtphakidbddamfaaGreatZDj
import Derived.Test.YtphakidbddamfaaGreatZSa
import Derived.Test.YtphakidbddamfaaGreatZTkg
import Derived.Test.YtphakidbddamfaaGreatZMc
import Derived.Test.YtphakidbddamfaaGreatZOrd
set_option linter.unusedSimpArgs false
set_option linter.unusedVariables false
set_option maxHeartbeats 2000000
set_option maxRecDepth 100000
namespace Go.Proofs.YtphakidbddamfaaGreat
open Go.RowKit
def y0 (n j:Nat) (m:MarksD):Prop:=(m.grades.length = n∧∀ x ∈ m.grades,x.length = j)∧m.components.length = 3∧∀ x ∈ m.components,x.length = j
def mkB2 (n:Nat) (m:MarksD):Prop:=∃ j,3≤j∧j≤9∧y0 n j m
theorem p9 {k:Nat} {cs:List D} {n:Nat} (hC:Cur k cs) (hk:k≤1000000000) (hn:n≤16):FnC Tryz.prog 176 3 [.int .i64 (n:Int)] cs (dn (k + 500) (mkB2 n) fun m=>[.deep 23 1 (m.grades.map (aF 1 ab)),.deep 23 1 (m.components.map (aF 1 ab))]) .agg:=by
 refine co aa Tryz.func176 rfl rfl hC.len fun ty=>?_;simp only [Tryz.ntmps176,aR,aM,Nat.reduceAdd,Nat.reduceSub,aJ,aH,an,aW]
 repeat' (first|with_reducible refine bs (id:=1) ?_|with_reducible refine br (id:=1) ?_|((with_reducible first|(refine hK _ ?_;clear hK K)|refine aj fun U O=>?_|apply ah|(apply Z<;>(intro hc;try simp at hc;try omega)))<;>try simp only [go_sem])|(with_reducible first|apply ag|(refine O _ ?_;clear O U)|refine kN eM fun K hK=>?_|refine kO fun K hK=>?_|refine aI ?_)|apply iB)
 unfold eF
 refine cm (ck ?_)
 refine dJ 23 1 23 1 rfl (aa _ _ fT) rfl ?_
 refine a9 aa ?_
 simp only [go_sem]
 refine a9 aa ?_
 simp only [go_sem,ge,fC]
 refine ba ?_
 repeat' (first|((with_reducible first|(refine hK _ ?_;clear hK K)|refine aj fun U O=>?_|apply ah|(apply Z<;>(intro hc;try simp at hc;try omega)))<;>try simp only [go_sem])|(with_reducible first|apply ag|(refine O _ ?_;clear O U)|refine kN eM fun K hK=>?_|refine kO fun K hK=>?_|refine aI ?_)|((first|refine CallK.cur (some 0) (ow hC (by omega)) rfl rfl rfl rfl rfl rfl ?_);rintro c2 _ ⟨x,hx,rfl,hC⟩;try simp only [a_,go_sem])|((first|refine CallK.cur (some 0) (ow hC (by omega)) rfl rfl rfl rfl rfl rfl ?_);rintro c2 _ ⟨x,hx,rfl,hC⟩;try simp only [a_,go_sem])|apply iB)
 obtain ⟨j,rfl⟩:∃ j:Nat,x = (j:Int):=⟨x.toNat,by omega⟩
 have hj3:3≤j:=by omega
 have hj9:j≤9:=by omega
 replace hC:Cur (k + 2) c2:=hC
 clear hx
 refine dP 2 rfl (by intro e he;cases he) ?_
 simp only [go_sem]
 refine dP 3 rfl (by intro e he;cases he) ?_
 simp only [go_sem]
 refine aD [7,8,14,15,16,17,18,19,20,21,22,23,24,25,26,27,28,29,30,31,32,33,34,35,36,37,38,39,40,41] (fun q:List (List Int) × List D=>[(0,.bptr 0 0),(4,.bptr 1 0),(5,.bptr 2 0),(11,.und)]) (fun q=>[(0,.pbox 0 ty (q.2.map .d)),(1,.box 45 [.d (.lst 1 []),.d (.lst 1 [])]),(2,.box 45 [.row 3 q.1.length,.row 4 0]),(3,.deep 0 23 1 (q.1.map (aF 1 ab))),(4,.deep 0 23 1 [])]) 5 (fun q=>q.1.length≤n∧(∀ x ∈ q.1,x.length = j)∧Cur (k + 2 + 22 * q.1.length) q.2) (fun q=>n - q.1.length) ([],c2) ⟨by simp,by simp,hC.mono (by simp)⟩ (ao [(3,2),(4,3)] (by simp [lk,ae]<;>omega)) ?_
 clear hC
 rintro ⟨g,c0⟩ ⟨hg,hgj,hC0⟩;simp only [bi,wipe,wl,bh,bw,rm,if_true,if_false,Nat.reduceEqDiff,Bool.false_eq_true,reduceCtorEq]
 simp only at hg hgj hC0
 by_cases hlt:g.length < n
 ·have hlt':(g.length:Int) < (n:Int):=by omega
  repeat' (first|((with_reducible first|(refine hK _ ?_;clear hK K)|refine aj fun U O=>?_|apply ah|(apply Z<;>(intro hc;try simp at hc;try omega)))<;>try simp only [go_sem,hlt',an])|(with_reducible first|apply ag|(refine O _ ?_;clear O U)|refine kN eM fun K hK=>?_|refine kO fun K hK=>?_|refine aI ?_)|((first|refine CallK.cur (some 0) (be hC0 (by omega)) rfl rfl rfl rfl rfl rfl ?_);rintro c2 _ ⟨x,hx,rfl,hC⟩;try simp only [a_,go_sem,hlt',an])|((first|refine CallK.cur (some 0) (be hC0 (by omega)) rfl rfl rfl rfl rfl rfl ?_);rintro c2 _ ⟨x,hx,rfl,hC⟩;try simp only [a_,go_sem,hlt',an])|apply iB)
  all_goals first
   |(exfalso;omega)
   |skip
  obtain ⟨mid,hmid⟩:∃ mid,x - 3 = mid:=⟨_,rfl⟩
  have hm:-3≤mid∧mid≤3:=by omega
  rw [hmid]
  replace hC:Cur (k + 2 + 22 * g.length + 2) c2:=hC
  clear hx hC0 hmid
  refine aD [8,22,23,24,25,26,27,28,29,30,31,32,33,34,35] (fun q:List Int × List D=>[(0,.bptr 0 0),(4,.bptr 1 0),(5,.bptr 2 0),(8,.row 5 q.1.length)]) (fun q=>[(0,.pbox 0 ty (q.2.map .d)),(1,.box 45 [.d (.lst 1 []),.d (.lst 1 [])]),(2,.box 45 [.row 3 g.length,.row 4 0]),(3,.deep 0 23 1 (g.map (aF 1 ab))),(4,.deep 0 23 1 []),(5,.row 3 1 (q.1.map ab))]) 6 (fun q=>q.1.length≤j∧Cur (k + 2 + 22 * g.length + 2 + 2 * q.1.length) q.2) (fun q=>j - q.1.length) ([],c2) ⟨by simp,hC.mono (by simp)⟩ (ao [] (by simp [lk,ae]<;>omega)) ?_
  rintro ⟨l,c0⟩ ⟨hl,hC0⟩;simp only [bi,wipe,wl,bh,bw,rm,if_true,if_false,Nat.reduceEqDiff,Bool.false_eq_true,reduceCtorEq]
  simp only at hl hC0
  by_cases hlt2:l.length < j
  ·have hlt2':(l.length:Int) < (j:Int):=by omega
   repeat' (first|((with_reducible first|(refine hK _ ?_;clear hK K)|refine aj fun U O=>?_|apply ah|(apply Z<;>(intro hc;try simp at hc;try omega)))<;>try simp only [go_sem,hlt2',an])|(with_reducible first|apply ag|(refine O _ ?_;clear O U)|refine kN eM fun K hK=>?_|refine kO fun K hK=>?_|refine aI ?_)|((with_reducible apply CallK.eq);(· with_reducible first|exact ff _ _|exact ks _ _);(· simp [RV.flat,D.sc,ab]);try simp only [go_sem,hlt2',an])|((first|refine CallK.cur (some 0) (be hC0 (by omega)) rfl rfl rfl rfl rfl rfl ?_);rintro c2 _ ⟨x,hx,rfl,hC⟩;try simp only [a_,go_sem,hlt2',an])|apply iB)
   all_goals first
    |(exfalso;omega)
    |exact ⟨(l++[max (-5) (min 5 (mid + x - 1))],c2),⟨by simp;omega,Cur.mono (by assumption) (by simp;omega)⟩,by simp;omega,(ao [] (by simp [lk,ae,ab]<;>omega))⟩
  ·have hlt2':¬ (l.length:Int) < (j:Int):=by omega
   have hlj:l.length = j:=by omega
   have hdl:aF 1 ab l = [.lst 1 (l.map ab)]:=rfl
   repeat' (first|((with_reducible first|(refine hK _ ?_;clear hK K)|refine aj fun U O=>?_|apply ah|(apply Z<;>(intro hc;try simp at hc;try omega)))<;>try simp only [go_sem,hlt2',an])|(with_reducible first|apply ag|(refine O _ ?_;clear O U)|refine kN eM fun K hK=>?_|refine kO fun K hK=>?_|refine aI ?_)|apply iB)
   all_goals first
    |(exfalso;omega)
    |skip
   refine bA (cs:=[.row 5 l.length]) (ds:=aF 1 ab l) rfl (aa _ _ jU) (by decide) rfl (by rw [hdl];simp [dE,dL,ae,D.scB]) (by simp [bb]) (by simp only [cY,cy,ae,if_true,if_false,Nat.reduceEqDiff];exact ⟨bT _,trivial⟩) ?_
   repeat' (first|((with_reducible first|(refine hK _ ?_;clear hK K)|refine aj fun U O=>?_|apply ah|(apply Z<;>(intro hc;try simp at hc;try omega)))<;>try simp only [go_sem])|(with_reducible first|apply ag|(refine O _ ?_;clear O U)|refine kN eM fun K hK=>?_|refine kO fun K hK=>?_|refine aI ?_)|apply iB)
   refine bM (es:=g.map (aF 1 ab)) (fs:=[aF 1 ab l]) (n:=g.length) (n2:=1) rfl (aa _ _ jU) rfl rfl rfl rfl (by decide) (by simp) rfl (by exact True.intro) (by exact True.intro) (by simp<;>omega) ?_
   repeat' (first|((with_reducible first|(refine hK _ ?_;clear hK K)|refine aj fun U O=>?_|apply ah|(apply Z<;>(intro hc;try simp at hc;try omega)))<;>try simp only [go_sem])|(with_reducible first|apply ag|(refine O _ ?_;clear O U)|refine kN eM fun K hK=>?_|refine kO fun K hK=>?_|refine aI ?_)|apply iB)
   exact ⟨(g++[l],c0),⟨by simp;omega,cg hgj hlj,hC0.mono (by simp;omega)⟩,by simp;omega,(ao [(3,7)] (by simp [lk,ae]<;>omega))⟩
 ·have hlt':¬ (g.length:Int) < (n:Int):=by omega
  have hgn:g.length = n:=by omega
  replace hC0:Cur (k + 354) c0:=hC0.mono (by omega)
  repeat' (first|((with_reducible first|(refine hK _ ?_;clear hK K)|refine aj fun U O=>?_|apply ah|(apply Z<;>(intro hc;try simp at hc;try omega)))<;>try simp only [go_sem,hlt',an])|(with_reducible first|apply ag|(refine O _ ?_;clear O U)|refine kN eM fun K hK=>?_|refine kO fun K hK=>?_|refine aI ?_)|apply iB)
  refine aD [9,10,42,43,44,45,46,47,48,49,50,51,52,53,54,55,56,57,58,59,60,61,62,63,64,65] (fun q:List (List Int) × List D=>[(0,.bptr 0 0),(4,.bptr 1 0),(5,.bptr 2 0)]) (fun q=>[(0,.pbox 0 ty (q.2.map .d)),(1,.box 45 [.d (.lst 1 []),.d (.lst 1 [])]),(2,.box 45 [.row 3 g.length,.row 4 q.1.length]),(3,.deep 0 23 1 (g.map (aF 1 ab))),(4,.deep 0 23 1 (q.1.map (aF 1 ab)))]) 5 (fun q=>q.1.length≤3∧(∀ x ∈ q.1,x.length = j)∧Cur (k + 354 + 22 * q.1.length) q.2) (fun q=>3 - q.1.length) ([],c0) ⟨by simp,by simp,hC0.mono (by simp)⟩ (ao [] (by simp [lk,ae]<;>omega)) ?_
  clear hC0
  rintro ⟨p,c0⟩ ⟨hp,hpj,hC0⟩;simp only [bi,wipe,wl,bh,bw,rm,if_true,if_false,Nat.reduceEqDiff,Bool.false_eq_true,reduceCtorEq]
  simp only at hp hpj hC0
  by_cases hlt3:p.length < 3
  ·have hlt3':(p.length:Int) < 3:=by omega
   repeat' (first|((with_reducible first|(refine hK _ ?_;clear hK K)|refine aj fun U O=>?_|apply ah|(apply Z<;>(intro hc;try simp at hc;try omega)))<;>try simp only [go_sem,hlt3',an])|(with_reducible first|apply ag|(refine O _ ?_;clear O U)|refine kN eM fun K hK=>?_|refine kO fun K hK=>?_|refine aI ?_)|((first|refine CallK.cur (some 0) (be hC0 (by omega)) rfl rfl rfl rfl rfl rfl ?_);rintro c2 _ ⟨x,hx,rfl,hC⟩;try simp only [a_,go_sem,hlt3',an])|((first|refine CallK.cur (some 0) (be hC0 (by omega)) rfl rfl rfl rfl rfl rfl ?_);rintro c2 _ ⟨x,hx,rfl,hC⟩;try simp only [a_,go_sem,hlt3',an])|apply iB)
   all_goals first
    |(exfalso;omega)
    |skip
   replace hC:Cur (k + 354 + 22 * p.length + 2) c2:=hC
   clear hC0
   refine aD [10,48,49,50,51,52,53,54,55,56,57,58,59] (fun q:List Int × List D=>[(0,.bptr 0 0),(4,.bptr 1 0),(5,.bptr 2 0),(10,.row 5 q.1.length)]) (fun q=>[(0,.pbox 0 ty (q.2.map .d)),(1,.box 45 [.d (.lst 1 []),.d (.lst 1 [])]),(2,.box 45 [.row 3 g.length,.row 4 p.length]),(3,.deep 0 23 1 (g.map (aF 1 ab))),(4,.deep 0 23 1 (p.map (aF 1 ab))),(5,.row 3 1 (q.1.map ab))]) 6 (fun q=>q.1.length≤j∧Cur (k + 354 + 22 * p.length + 2 + 2 * q.1.length) q.2) (fun q=>j - q.1.length) ([],c2) ⟨by simp,hC.mono (by simp)⟩ (ao [] (by simp [lk,ae]<;>omega)) ?_
   clear hC
   obtain ⟨mid,hmid⟩:∃ mid,mid = x:=⟨_,rfl⟩
   have hm:0≤mid∧mid≤37:=by omega
   rw [←hmid]
   clear hx hmid
   rintro ⟨l,c0⟩ ⟨hl,hC0⟩;simp only [bi,wipe,wl,bh,bw,rm,if_true,if_false,Nat.reduceEqDiff,Bool.false_eq_true,reduceCtorEq]
   simp only at hl hC0
   by_cases hlt2:l.length < j
   ·have hlt2':(l.length:Int) < (j:Int):=by omega
    repeat' (first|((with_reducible first|(refine hK _ ?_;clear hK K)|refine aj fun U O=>?_|apply ah|(apply Z<;>(intro hc;try simp at hc;try omega)))<;>try simp only [go_sem,hlt2',an])|(with_reducible first|apply ag|(refine O _ ?_;clear O U)|refine kN eM fun K hK=>?_|refine kO fun K hK=>?_|refine aI ?_)|((first|refine CallK.cur (some 0) (be hC0 (by omega)) rfl rfl rfl rfl rfl rfl ?_);rintro c2 _ ⟨x,hx,rfl,hC⟩;try simp only [a_,go_sem,hlt2',an])|((first|refine CallK.cur (some 0) (be hC0 (by omega)) rfl rfl rfl rfl rfl rfl ?_);rintro c2 _ ⟨x,hx,rfl,hC⟩;try simp only [a_,go_sem,hlt2',an])|apply iB)
    all_goals first
     |(exfalso;omega)
     |exact ⟨(l++[25 * (mid + x)],c2),⟨by simp;omega,Cur.mono (by assumption) (by simp;omega)⟩,by simp;omega,(ao [] (by simp [lk,ae,ab]<;>omega))⟩
   ·have hlt2':¬ (l.length:Int) < (j:Int):=by omega
    have hlj:l.length = j:=by omega
    have hdl:aF 1 ab l = [.lst 1 (l.map ab)]:=rfl
    repeat' (first|((with_reducible first|(refine hK _ ?_;clear hK K)|refine aj fun U O=>?_|apply ah|(apply Z<;>(intro hc;try simp at hc;try omega)))<;>try simp only [go_sem,hlt2',an])|(with_reducible first|apply ag|(refine O _ ?_;clear O U)|refine kN eM fun K hK=>?_|refine kO fun K hK=>?_|refine aI ?_)|apply iB)
    all_goals first
     |(exfalso;omega)
     |skip
    refine bA (cs:=[.row 5 l.length]) (ds:=aF 1 ab l) rfl (aa _ _ jU) (by decide) rfl (by rw [hdl];simp [dE,dL,ae,D.scB]) (by simp [bb]) (by simp only [cY,cy,ae,if_true,if_false,Nat.reduceEqDiff];exact ⟨bT _,trivial⟩) ?_
    repeat' (first|((with_reducible first|(refine hK _ ?_;clear hK K)|refine aj fun U O=>?_|apply ah|(apply Z<;>(intro hc;try simp at hc;try omega)))<;>try simp only [go_sem])|(with_reducible first|apply ag|(refine O _ ?_;clear O U)|refine kN eM fun K hK=>?_|refine kO fun K hK=>?_|refine aI ?_)|apply iB)
    refine bM (es:=p.map (aF 1 ab)) (fs:=[aF 1 ab l]) (n:=p.length) (n2:=1) rfl (aa _ _ jU) rfl rfl rfl rfl (by decide) (by simp) rfl (by exact True.intro) (by exact True.intro) (by simp<;>omega) ?_
    repeat' (first|((with_reducible first|(refine hK _ ?_;clear hK K)|refine aj fun U O=>?_|apply ah|(apply Z<;>(intro hc;try simp at hc;try omega)))<;>try simp only [go_sem])|(with_reducible first|apply ag|(refine O _ ?_;clear O U)|refine kN eM fun K hK=>?_|refine kO fun K hK=>?_|refine aI ?_)|apply iB)
    exact ⟨(p++[l],c0),⟨by simp;omega,cg hpj hlj,hC0.mono (by simp;omega)⟩,by simp;omega,(ao [(4,7)] (by simp [lk,ae]<;>omega))⟩
  ·have hlt3':¬ (p.length:Int) < 3:=by omega
   have hp3:p.length = 3:=by omega
   repeat' (first|((with_reducible first|(refine hK _ ?_;clear hK K)|refine aj fun U O=>?_|apply ah|(apply Z<;>(intro hc;try simp at hc;try omega)))<;>try simp only [go_sem,hlt3',an])|(with_reducible first|apply ag|(refine O _ ?_;clear O U)|refine kN eM fun K hK=>?_|refine kO fun K hK=>?_|refine aI ?_)|apply iB)
   refine cE (id:=0) (xs:=[.row _ _,.row _ _]) _ rfl (by simp only [bl,bn,ae,lk,an,if_true,if_false,Nat.reduceEqDiff,Nat.reduceBEq,Bool.false_eq_true,Option.some.injEq]<;>rfl) (by simp [am,lk]) rfl (Cur.len (by assumption)) ⟨⟨g,p⟩,⟨j,hj3,hj9,⟨hgn,hgj⟩,hp3,hpj⟩,rfl,Cur.mono (by assumption) (by omega)⟩
end Go.Proofs.YtphakidbddamfaaGreat
namespace Go.Proofs.YtphakidbddamfaaGreat
open Go.RowKit
def io (id par k j:Nat):List (Nat × Blk)→Prop
 |[]=>True
 |(i,.al p k' j')::r=>(i = id∨¬ (p = par∧k' = k∧j' = j))∧io id par k j r
 |_::r=>io id par k j r
theorem mH {id par k j:Nat}:∀ {hp:List (Nat × Blk)},io id par k j hp→∀ id',ae hp id' = some (.al par k j)→id' = id
 |[],_,id',h=>by cases h
 |(i,b)::r,hs,id',h=>by
  simp only [ae] at h
  split at h
  ·rename_i e
   cases h
   rcases hs.1 with h1|h1
   ·omega
   ·exact (h1 ⟨rfl,rfl,rfl⟩).elim
  ·refine mH (hp:=r) ?_ id' h
   cases b<;>first|exact hs.2|exact hs
section
variable {X0:Nat→Prop} {w0:Base} {m:Mp} {s:AS} {a:Act} {w:World}
theorem Sim.takePart (hs:Sim X0 w0 m s a w) {id par k j q sz szp:Nat} {ty:TypeId} {es ei:List (List D)} (hg:ae s.hp id = some (.al par k j)) (hgp:ae s.hp par = some (.deep q ty szp es)) (hal:dd es k j = some (sz,ei)) (hsole:io id par k j s.hp):
  ∃ ty2 m',Sim X0 w0 m' ⟨s.fr,bj (bj s.hp par (.deep q ty szp (ce es k j .hole))) id (.deep 0 ty2 sz ei),s.nx⟩ a w:=by
 obtain ⟨e,k1,k2⟩:=rZ hal
 obtain ⟨q0,ty0,sz0,es0,e0,sz2,es2,b,c,arr,a1,a2,a3,a4,a5,a6⟩:=hs.al id par k j hg
 rw [hgp] at a1
 cases a1
 rw [k1] at a2
 cases a2
 rw [k2] at a3
 cases a3
 have hdp:=hs.dp par q ty szp es hgp
 rw [a4] at hdp
 obtain ⟨g1,arr_,hh,hsz,hec,hcm,hes,Fpp,f1,f2,f3⟩:=hdp
 rw [a5] at hh
 cases hh
 obtain ⟨l,v,hl,hv,hvl⟩:∃ l v,m.loc id = some l∧arr[k * szp + j]? = some v∧((l = .nil∧v = .slice none 0 0)∨∃ b' c',l = .blk b' c'∧v = .slice (some ⟨b',0,none⟩) ei.length c'):=by
  rcases a6 with ⟨h1,h2⟩|⟨b',c',h1,h2⟩
  ·exact ⟨_,_,h1,h2,.inl ⟨rfl,rfl⟩⟩
  ·exact ⟨_,_,h1,h2,.inr ⟨b',c',rfl,rfl⟩⟩
 have htr:=f3 k e j _ _ k1 k2 hv
 have hone:=htr.one
 have hcells:=htr.any.cells
 let F:Nat→Prop:=fun x=>l≠.nil∧Fpp k j x∧¬ l.at x
 have hroot:∃ ty2,DpOk w F ty2 sz ei (some l)∧∀ x,l.at x→Fpp k j x:=by
  rcases hvl with ⟨rfl,rfl⟩|⟨b',c',rfl,rfl⟩
  ·exact ⟨0,⟨htr.nil_inv,fun x h=>h.1 rfl⟩,fun x ⟨c,h⟩=>by cases h⟩
  ·generalize hD:D.lst sz ei = D0 at htr
   generalize hV:Value.slice (some ⟨b',0,none⟩) ei.length c' = V0 at htr
   cases htr with
   |int=>cases hD
   |bool=>cases hD
   |str=>cases hD
   |hole=>cases hD
   |nil=>cases hV
   |lst _ sz_ es_ b_ c_ arr2 ty2 Fp2 q1 q2 q3 q4 q5 q6 q7 q8 q9=>
    cases hD
    cases hV
    refine ⟨ty2,⟨fun h=>h.2.2 ⟨c',rfl⟩,arr2,q2,q3,q4,q5,q6,Fp2,fun k' j' x hx=>⟨(by simp),(q7 k' j' x hx).1,fun ⟨cc,hc⟩=>(q7 k' j' x hx).2 (by cases hc;rfl)⟩,q8,q9⟩,?_⟩
    rintro x ⟨cc,hc⟩
    cases hc
    exact q1
 obtain ⟨ty2,hdp2,hatF⟩:=hroot
 have hFpp:∀ x,F x∨l.at x→Fpp k j x:=fun x h=>h.elim (fun h=>h.2.1) (hatF x)
 have hft:∀ x,F x∨l.at x→m.ft par x:=fun x h=>f1 _ _ _ (hFpp x h)
 have hne:id≠par:=fun e=>by subst e;rw [hg] at hgp;cases hgp
 let np:Blk:=.deep q ty szp (ce es k j .hole)
 let ni:Blk:=.deep 0 ty2 sz ei
 let hp':=bj (bj s.hp par np) id ni
 have e_id:ae hp' id = some ni:=by rw [bq,if_pos rfl,bq,if_neg hne,hg];rfl
 have e_par:ae hp' par = some np:=by rw [bq,if_neg (Ne.symm hne),bq,if_pos rfl,hgp];rfl
 have e_oth:∀ i,i≠id→i≠par→ae hp' i = ae s.hp i:=fun i h1 h2=>by rw [bq,if_neg h1,bq,if_neg h2]
 let m':Mp:=⟨m.loc,fun i=>if i = id then F else if i = par then (fun y=>m.ft par y∧¬ (F y∨l.at y)) else m.ft i⟩
 have ft_id:m'.ft id = F:=if_pos rfl
 have ft_par:m'.ft par = fun y=>m.ft par y∧¬ (F y∨l.at y):=by show (if par = id then _ else _) = _;rw [if_neg (Ne.symm hne),if_pos rfl]
 have ft_oth:∀ i,i≠id→i≠par→m'.ft i = m.ft i:=fun i h1 h2=>by show (if i = id then _ else _) = _;rw [if_neg h1,if_neg h2]
 have has_id:∀ x,ni.has m' id x→F x∨l.at x:=by
  rintro x (⟨cc,h⟩|h)
  ·have h':m.loc id = some (.blk x cc):=h
   rw [hl] at h'
   exact .inr ⟨cc,Option.some.inj h'⟩
  ·rw [ft_id] at h;exact .inl h
 have has_par:∀ x,np.has m' par x→x = b∨(m.ft par x∧¬ (F x∨l.at x)):=by
  rintro x (⟨cc,h⟩|h)
  ·have h':m.loc par = some (.blk x cc):=h
   rw [a4] at h'
   cases h'
   exact .inl rfl
  ·rw [ft_par] at h;exact .inr h
 have has_oth:∀ (i:Nat) (blk:Blk) (x:Nat),i≠id→i≠par→(blk.has m' i x↔blk.has m i x):=fun i blk x h1 h2=>Blk.has_congr (m:=m) (m':=m') rfl (ft_oth i h1 h2)
 have old:∀ (i:Nat) (blk:Blk) (x:Nat),ae hp' i = some blk→blk.has m' i x→∃ blk0,ae s.hp (if i = id then par else i) = some blk0∧blk0.has m (if i = id then par else i) x:=by
  intro i blk x h1 h2
  by_cases c1:i = id
  ·subst c1
   rw [if_pos rfl]
   rw [e_id] at h1
   cases h1
   exact ⟨_,hgp,.inr (hft x (has_id x h2))⟩
  ·rw [if_neg c1]
   by_cases c2:i = par
   ·subst c2
    rw [e_par] at h1
    cases h1
    rcases has_par x h2 with h3|h3
    ·exact ⟨_,hgp,.inl ⟨c,by rw [h3];exact a4⟩⟩
    ·exact ⟨_,hgp,.inr h3.1⟩
   ·rw [e_oth i c1 c2] at h1
    exact ⟨_,h1,(has_oth i blk x c1 c2).1 h2⟩
 have hst:Stay w w (aU X0 m s.hp) (aU X0 m' hp'):=by
  intro y _ hb2
  refine ⟨rfl,?_⟩
  rintro (hx|⟨i,blk,h1,h2⟩)
  ·exact hb2 (.inl hx)
  ·obtain ⟨blk0,h3,h4⟩:=old i blk y h1 h2
   exact hb2 (.inr ⟨_,blk0,h3,h4⟩)
 refine ⟨ty2,m',hs.step (m':=m') (hp':=hp') (fun _ _ h=>h) (KeepB.refl _ _) hst (fun i blk h=>?_) (fun i p t z es' h=>?_) (fun i par' k' j' h=>?_) (fun i blk p h hpo=>?_) (fun i i' blk blk' x h h' h1 h2=>?_) (fun i blk x h hb=>?_) hs.nx⟩
 ·by_cases c1:i = id
  ·subst c1;rw [e_id] at h;cases h;exact ⟨l,hl,trivial⟩
  ·by_cases c2:i = par
   ·subst c2;rw [e_par] at h;cases h;exact ⟨_,a4,trivial⟩
   ·rw [e_oth i c1 c2] at h
    obtain ⟨l',h1,h2⟩:=hs.hp i blk h
    exact ⟨l',h1,h2.mono (fun _ _ h=>h) hst fun _ _ _ _=>rfl⟩
 ·by_cases c1:i = id
  ·subst c1
   rw [e_id] at h
   have h2:Blk.deep p t z es' = .deep 0 ty2 sz ei:=(Option.some.inj h).symm
   cases h2
   rw [ft_id]
   show DpOk w F ty2 sz ei (m.loc i)
   rw [hl]
   exact hdp2
  ·by_cases c2:i = par
   ·subst c2
    rw [e_par] at h
    have h2:Blk.deep p t z es' = .deep q ty szp (ce es k j .hole):=(Option.some.inj h).symm
    cases h2
    rw [ft_par]
    show DpOk w _ ty szp _ (m.loc i)
    rw [a4]
    refine ⟨fun h=>g1 h.1,arr,a5,hsz,by rw [pn];exact hec,hcm,pI hes,fun k' j' y=>¬ (k' = k∧j' = j)∧Fpp k' j' y,fun k' j' y hy=>⟨f1 _ _ _ hy.2,fun h=>hy.1 (f2 _ _ _ _ _ hy.2 (hFpp y h))⟩,fun k' j' k3 j3 y h1 h2=>f2 _ _ _ _ _ h1.2 h2.2,fun k' e' j' d u he' hd2 hu=>?_⟩
    rcases pk k1 he' hd2 with ⟨rfl,rfl,rfl⟩|⟨hne2,e0,h7,h8⟩
    ·rw [hv] at hu
     cases hu
     exact .hole _ _ hone hcells
    ·exact (f3 k' e0 j' d u h7 h8 hu).sub fun y hy=>⟨hne2,hy⟩
   ·rw [e_oth i c1 c2] at h
    rw [ft_oth i c1 c2]
    exact hs.dp i p t z es' h
 ·have c1:i≠id:=fun e=>by subst e;rw [e_id] at h;have h2:Blk.al par' k' j' = .deep 0 ty2 sz ei:=(Option.some.inj h).symm;cases h2
  have c2:i≠par:=fun e=>by subst e;rw [e_par] at h;have h2:Blk.al par' k' j' = .deep q ty szp (ce es k j .hole):=(Option.some.inj h).symm;cases h2
  rw [e_oth i c1 c2] at h
  obtain ⟨q',ty',sz',es3,e0,sz3,es4,b3,c3,arr',r1,r2,r3,r4,r5,r6⟩:=hs.al i par' k' j' h
  by_cases c3':par' = par
  ·subst c3'
   rw [hgp] at r1
   cases r1
   rw [a4] at r4
   cases r4
   rw [a5] at r5
   cases r5
   have hkj:¬ (k' = k∧j' = j):=by
    rintro ⟨rfl,rfl⟩
    exact c1 (mH hsole i h)
   obtain ⟨e',s1,s2⟩:=mn (d:=.hole) k1 hkj r2 r3
   exact ⟨q,ty,szp,_,e',sz3,es4,b,c,arr,e_par,s1,s2,a4,a5,r6⟩
  ·have c4:par'≠id:=fun e=>by subst e;rw [hg] at r1;cases r1
   exact ⟨q',ty',sz',es3,e0,sz3,es4,b3,c3,arr',by rw [e_oth par' c4 c3'];exact r1,r2,r3,r4,r5,r6⟩
 ·by_cases c1:i = id
  ·subst c1;rw [e_id] at h;cases h;cases hpo
  ·by_cases c2:i = par
   ·subst c2
    rw [e_par] at h
    cases h
    exact hs.pin i _ p hgp (gL hpo)
   ·rw [e_oth i c1 c2] at h
    exact hs.pin i blk p h hpo
 ·obtain ⟨b1,o1,o2⟩:=old i blk x h h1
  obtain ⟨b2,o3,o4⟩:=old i' blk' x h' h2
  have hij:=hs.inj _ _ b1 b2 x o1 o3 o2 o4
  have clash:∀ x,ni.has m' id x→np.has m' par x→False:=by
   intro x h3 h4
   have h5:=has_id x h3
   rcases has_par x h4 with h6|h6
   ·subst h6;exact g1 (hft _ h5)
   ·exact h6.2 h5
  by_cases c1:i = id
  ·by_cases c1':i' = id
   ·rw [c1,c1']
   ·rw [if_pos c1,if_neg c1'] at hij
    subst c1
    rw [←hij] at h' h2
    rw [e_id] at h
    rw [e_par] at h'
    cases h
    cases h'
    exact (clash x h1 h2).elim
  ·by_cases c1':i' = id
   ·rw [if_neg c1,if_pos c1'] at hij
    subst c1'
    rw [hij] at h h1
    rw [e_id] at h'
    rw [e_par] at h
    cases h
    cases h'
    exact (clash x h2 h1).elim
   ·rw [if_neg c1,if_neg c1'] at hij
    exact hij
 ·obtain ⟨b1,o1,o2⟩:=old i blk x h hb
  exact hs.own _ b1 x o1 o2
end
theorem rF {P:Program} {o:Oper} {s:AS} {K:AS→Prop} {id par k j q sz szp:Nat} {ty:TypeId} {es ei:List (List D)} (hg:ae s.hp id = some (.al par k j)) (hgp:ae s.hp par = some (.deep q ty szp es)) (hal:dd es k j = some (sz,ei)) (hsole:io id par k j s.hp)
  (h:∀ ty2,PO P o ⟨s.fr,bj (bj s.hp par (.deep q ty szp (ce es k j .hole))) id (.deep 0 ty2 sz ei),s.nx⟩ K):PO P o s K:=fun X0 w0 _ a w Q hs=>
 let ⟨ty2,m',hs'⟩:=hs.takePart hg hgp hal hsole
 h ty2 X0 w0 m' a w Q hs'
end Go.Proofs.YtphakidbddamfaaGreat
namespace Go.Proofs.YtphakidbddamfaaGreat
open Go.RowKit
theorem ln {P:Program} {o:Oper} {s:AS} {K:AS→Prop} {x y:Operand} {t e:TypeId} {sz bytes id n ty:Nat} {z:List D} {es fs:List (List D)} (ho:o.op = .call {callee:=.builtin .append,args:=#[x,y],argTypes:=#[t,t]}) (ht:cd P t (.slc e sz bytes z) = true)
  (hx:s.get x = .row id n) (hg:ae s.hp id = some (.row ty sz es)) (hn:es.length = n) (hy:hH s.hp (s.get y) = some (sz,fs)) (hlen:es.length + fs.length≤16777216)
  (hK:∀ ty2:TypeId,K (AS.put ⟨s.fr,(s.nx,.row ty2 sz (es++fs))::dH s.hp id,s.nx + 1⟩ o.dst (.row s.nx (n + fs.length)))):PO P o s K:=
 PO.mk fun X0 w0 m a w hs=>by
  have h1:=hs.get x
  rw [hx] at h1
  obtain ⟨l,xs,h2,h3,h4⟩:=l3 hs hg hn h1
  have hsrc:=hs.src hy (hs.get y)
  obtain ⟨A,c',news,h5,h6,h7,h8,h9,h10⟩:=hsrc.news
  obtain ⟨g1,⟨i,v,g2,g3,g4,g5,g6⟩,g7,g8,g9,_⟩:=dS ht
  have hzs:v.cells.size = sz:=by rw [(iG g6).1,g7]
  have hbig:(n + fs.length) * bytes≤140737488355328:=Nat.le_trans (Nat.mul_le_mul (show n + fs.length≤16777216 by omega) g9) (by decide)
  obtain ⟨v',w',l',e1,r1,r2,r3,r4,r5,r6,r7,r8⟩:=qM (P:=P) (ty:=o.type) (c':=c') g1 g2 g5 g3 g4 hzs h3 h6 h7 h8 h9 (by unfold maxLen;omega) hbig
  have hnone:ae (dH s.hp id) s.nx = none:=by rw [cR];split<;>simp [hs.hget_nx]
  have hbe:∀ b c,l = .blk b c→(w0.w.heap.size≤b∨w0.chg b)∧b < w.heap.size:=fun b c e=>hs.owns hg (by rw [h2,e])
  refine ⟨v',w',bN m s.nx l',⟨s.fr,(s.nx,.row e1 sz (es++fs))::dH s.hp id,s.nx + 1⟩,.row s.nx (n + fs.length),?_,?_,pC r2 (bp _ _ _),hK e1⟩
  ·have ex1:(execOp a.eval o) = (do let r←Builtin.append_ #[t,t] o.type #[a.eval x,a.eval y];pure (Next.value r)):=by
    simp [execOp,ho,resolve,invoke,builtin]
   rw [ex1,Sem.run_bind,h5,r1]
   rfl
  ·refine hs.change (i:=s.nx) (blk':=.row e1 sz (es++fs)) (l':=l') (fun k=>∃ c,l = .blk k c) (.inl hs.hnx) (by simp [ae]) rfl (fun id' hne blk hb=>?_) (fun id' q ty' sz' es' hd=>?_) (by omega) (by omega) ⟨r3,r4,r5,r6.1,fun k hk hn=>r7 k (by have:=hs.below.size;omega) (fun c e=>by rcases (hbe k c e).1 with h|h;omega;exact hn h),.of_le r6.2⟩ (fun k hk hne=>r7 k hk (fun c e=>hne ⟨c,e⟩)) ?_ ?_ ?_
   ·rw [ae,if_neg hne,cR] at hb
    split at hb
    ·cases hb
    ·exact hb
   ·have hne:id'≠id:=fun e=>by subst e;rw [hg] at hd;cases hd
    have hne2:id'≠s.nx:=fun e=>by subst e;rw [hs.hget_nx] at hd;cases hd
    exact ⟨hne2,by rw [ae,if_neg hne2,cR,if_neg hne]⟩
   ·rintro k ⟨c,e⟩
    refine ⟨id,_,hg,⟨c,by rw [h2,e]⟩,?_⟩
    by_cases e2:id = s.nx
    ·exact .inl e2
    ·refine .inr ?_
     rw [ae,if_neg e2,cR,if_pos rfl]
   ·intro b c e
    obtain ⟨q1,q2⟩:=r8 b c e
    rcases q2 with q2|q2
    ·exact ⟨.inl (Nat.le_trans hs.below.size q2),q1,.inl q2⟩
    ·exact ⟨(hbe b c q2).1,q1,.inr ⟨c,q2⟩⟩
   ·intro hst
    refine rU r2 (by simp [hn]) (fun e' he'=>?_) (fun k e' j d u he' hd hu=>?_)
    ·rcases List.mem_append.1 he' with h|h
     ·obtain ⟨lb,hlb,hok⟩:=hs.hp id _ hg
      cases lb with
      |nil=>have:es = []:=hok;rw [this] at h;simp at h
      |blk b c=>obtain ⟨arr,_,hc⟩:=hok;exact hc.2.2.2.1 e' h
     ·exact hsrc.1 e' h
    ·have hxl:xs.length = n * sz:=h3.len
     by_cases hk:k < es.length
     ·rw [List.getElem?_append_left hk] at he'
      have hj:j < sz:=by
       have:=(List.getElem?_eq_some_iff.1 hd).1
       obtain ⟨lb,hlb,hok⟩:=hs.hp id _ hg
       cases lb with
       |nil=>have h0:es = []:=hok;rw [h0] at hk;simp at hk
       |blk b c=>obtain ⟨arr,_,hc⟩:=hok;rw [hc.2.2.2.1 e' (List.mem_of_getElem? he')] at this;exact this
      rw [List.getElem?_append_left (by rw [hxl];exact cr (by omega) hj)] at hu
      exact (h4 k e' j d u he' hd hu).mono hst
     ·rw [List.getElem?_append_right (by omega)] at he'
      have e3:n * sz≤k * sz + j:=by
       have:n * sz≤k * sz:=Nat.mul_le_mul_right _ (by omega)
       omega
      rw [List.getElem?_append_right (by rw [hxl];exact e3),hxl] at hu
      have e4:k * sz + j - n * sz = (k - es.length) * sz + j:=by
       rw [Nat.sub_mul,hn]
       have:n * sz≤k * sz:=Nat.mul_le_mul_right _ (by omega)
       omega
      rw [e4] at hu
      exact (h10 (k - es.length) e' j d u he' hd hu).mono hst
end Go.Proofs.YtphakidbddamfaaGreat
