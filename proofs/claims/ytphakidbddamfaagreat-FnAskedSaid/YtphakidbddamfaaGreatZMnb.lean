/-
  Drawn items.
-/
import Derived.Test.YtphakidbddamfaaGreatZDa
import Derived.Test.YtphakidbddamfaaGreatZDh
set_option linter.unusedSimpArgs false
set_option linter.unusedVariables false
set_option maxHeartbeats 2000000
set_option maxRecDepth 100000
namespace Go.Proofs.YtphakidbddamfaaGreat
open Go.RowKit
theorem cg {α:Type} {l:List α} {x:α} {p:α→Prop} (h:∀ y ∈ l,p y) (hx:p x):∀ y ∈ l++[x],p y:=by
 intro y hy
 rcases List.mem_append.1 hy with h1|h1
 ·exact h y h1
 ·rw [List.mem_singleton.1 h1];exact hx
def yW (nm:List ByteArray) (x:ItemD):Prop:=1≤x.names.length∧x.names.length≤3∧(∀ s ∈ x.names,s ∈ nm)∧x.marks.length = x.names.length∧∀ m ∈ x.marks,0≤m∧m≤3
theorem ue {k:Nat} {cs:List D} {nm:List ByteArray} (hC:Cur k cs) (hk:k≤1000000000) (h0:0 < nm.length) (hl:nm.length≤1048576):FnC Tryz.prog 196 3 [.lst 1 (nm.map aZ)] cs (dn (k + 40) (yW nm) fun x=>[.row 9 1 (x.names.map aZ),.row 3 1 (x.marks.map ab),.d (.bool x.late)]) .agg:=by
 refine co aa Tryz.func196 rfl rfl hC.len fun ty=>?_;simp only [Tryz.ntmps196,aR,aM,Nat.reduceAdd,Nat.reduceSub,aJ,aH,an,aW]
 repeat' (first|with_reducible refine bs (id:=1) ?_|with_reducible refine br (id:=1) ?_|((with_reducible first|(refine hK _ ?_;clear hK K)|refine aj fun U O=>?_|apply ah|(apply Z<;>(intro hc;try simp at hc;try omega)))<;>try simp only [go_sem])|(with_reducible first|apply ag|(refine O _ ?_;clear O U)|refine kN fB fun K hK=>?_|refine kO fun K hK=>?_|refine aI ?_)|apply iB)
 unfold eF
 refine cm (ck ?_)
 refine a9 aa ?_
 simp only [go_sem]
 refine a9 aa ?_
 simp only [go_sem]
 refine CallK.cur (some 0) (bI (by assumption) (by omega)) rfl rfl rfl rfl rfl rfl ?_;rintro c2 _ ⟨x,hx,rfl,hC⟩;try simp only [a_,go_sem]
 generalize x = late
 refine dJ 9 1 3 1 rfl (aa _ _ d3) rfl ?_
 refine a9 aa ?_
 simp only [go_sem]
 refine a9 aa ?_
 simp only [go_sem,ge,fC]
 refine ba ?_
 repeat' (first|((with_reducible first|(refine hK _ ?_;clear hK K)|refine aj fun U O=>?_|apply ah|(apply Z<;>(intro hc;try simp at hc;try omega)))<;>try simp only [go_sem])|(with_reducible first|apply ag|(refine O _ ?_;clear O U)|refine kN fB fun K hK=>?_|refine kO fun K hK=>?_|refine aI ?_)|apply iB)
 refine CallK.cur (some 0) (be (by assumption) (by omega)) rfl rfl rfl rfl rfl rfl ?_;rintro c2 _ ⟨x,hx,rfl,hC⟩;try simp only [a_,go_sem]
 have hd:x.tdiv 3 = x / 3:=Int.tdiv_eq_ediv_of_nonneg (by omega)
 have hd2:0≤x.tdiv 3∧x.tdiv 3≤1:=by rw [hd];omega
 repeat' (first|((with_reducible first|(refine hK _ ?_;clear hK K)|refine aj fun U O=>?_|apply ah|(apply Z<;>(intro hc;try simp at hc;try omega)))<;>try simp only [go_sem])|(with_reducible first|apply ag|(refine O _ ?_;clear O U)|refine kN fB fun K hK=>?_|refine kO fun K hK=>?_|refine aI ?_)|apply iB)
 obtain ⟨n,hn⟩:∃ n:Nat,1 + x.tdiv 3 = (n:Int):=⟨(1 + x.tdiv 3).toNat,by omega⟩
 have hn2:1≤n∧n≤2:=by omega
 rw [hn]
 refine aD [6,14,15,16,17,18,19,20,21,22,23,24,25,26,27,28,29,30,31,32,33] (fun q:Nat × List ByteArray × List Int × List D=>[(0,.bptr 0 0),(4,.bptr 1 0),(5,.bptr 2 0),(7,.und),(9,.und),(6,.d (.int .i64 (q.1:Int)))]) (fun q=>[(0,.pbox 0 ty (q.2.2.2.map .d)),(1,.box 143 [.d (.lst 1 []),.d (.lst 1 []),.d (.bool false)]),(2,.box 143 [.row 3 q.2.1.length,.row 4 q.2.2.1.length,.d (.bool late)]),(3,.row 9 1 (q.2.1.map aZ)),(4,.row 3 1 (q.2.2.1.map ab))]) 5 (fun q=>q.1 + q.2.1.length = n∧q.2.2.1.length = q.2.1.length∧Cur (k + 4 + 4 * q.2.1.length) q.2.2.2∧(∀ s ∈ q.2.1,s ∈ nm)∧∀ m ∈ q.2.2.1,0≤m∧m≤3) (fun q=>q.1) (n,[],[],c2) ⟨by simp,rfl,hC.mono (by simp),by simp,by simp⟩ (ao [(3,6),(4,7)] (by simp [lk,ae]<;>omega)) ?_
 rintro ⟨j,l,g,c⟩ ⟨h1,h2,hC,h4,h5⟩;simp only [bi,wipe,wl,bh,bw,rm,if_true,if_false,Nat.reduceEqDiff,Bool.false_eq_true,reduceCtorEq]
 simp only at h1 h2 hC h4 h5
 by_cases hj:0 < j
 ·obtain ⟨i,rfl⟩:∃ i,j = i + 1:=⟨j - 1,by omega⟩
  have hj':(0:Int) < ((i + 1:Nat):Int):=by omega
  repeat' (first|((with_reducible first|(refine hK _ ?_;clear hK K)|refine aj fun U O=>?_|apply ah|(apply Z<;>(intro hc;try simp at hc;try omega)))<;>try simp only [go_sem,hj'])|(with_reducible first|apply ag|(refine O _ ?_;clear O U)|refine kN fB fun K hK=>?_|refine kO fun K hK=>?_|refine aI ?_)|apply iB)
  all_goals first
   |(exfalso;omega)
   |skip
  refine bJ 9 fB ax rfl (fun K hK=>?_)
  refine aT 0 rfl rfl rfl (aY rfl (aa _ _ d3) rfl rfl) ?_
  try simp only [go_sem,aA,aB,aC,an]
  refine aT 2 rfl rfl rfl (aL (.inl rfl)) ?_
  try simp only [go_sem,aA,aB,aC,an]
  refine aT 3 rfl rfl rfl (aL (.inl rfl)) ?_
  try simp only [go_sem,aA,aB,aC,an]
  repeat' (first
   |((with_reducible refine O _ ?_);clear O U;try simp only [go_sem,aA,aB,aC,an])
   |((with_reducible refine bB ?_);first
    |(refine aT 7 rfl rfl rfl (aY rfl (aa _ _ d3) rfl rfl) ?_;try simp only [go_sem,aA,aB,aC,an])
    |((first|((with_reducible first|refine aS (fuel:=5) [1,4] ?_|refine aS (fuel:=4) [1,5] ?_);refine ⟨⟨_,rfl,fun U O=>?_⟩,⟨_,rfl,fun U O=>?_⟩,trivial⟩)|((with_reducible first|refine aS (fuel:=4) [4] ?_|refine aS (fuel:=3) [5] ?_|refine aS (fuel:=3) [1] ?_|refine aS (fuel:=2) [6] ?_|refine aS (fuel:=0) [8] ?_);refine ⟨⟨_,rfl,fun U O=>?_⟩,trivial⟩))<;>((first|with_reducible refine aX rfl ?_|refine aP rfl ?_);simp only [go_sem,aA,aB,aC,an]))
    |(refine bk (by decide +kernel) (hK _ ?_);clear hK K;try simp only [go_sem,aA,aB,aC,an]))
   |((refine CallK.cur (some 0) (mD (l:=nm) (by assumption) (by omega) h0 hl) rfl rfl rfl rfl rfl rfl ?_);(rintro c2 _ ⟨u,hu,rfl,hC⟩);(try simp only [a_,go_sem]);(refine O _ ?_);(clear O U);(try simp only [go_sem]))
   |with_reducible refine aI ?_)
  all_goals
   skip
  all_goals
   repeat' (first|((with_reducible first|(refine hK _ ?_;clear hK K)|refine aj fun U O=>?_|apply ah|(apply Z<;>(intro hc;try simp at hc;try omega)))<;>try simp only [go_sem])|(with_reducible first|apply ag|(refine O _ ?_;clear O U)|refine kN fB fun K hK=>?_|refine kO fun K hK=>?_|refine aI ?_)|apply iB)
   refine bF 9 ax rfl (fun K hK=>?_)
   refine aT 0 rfl rfl rfl (aY rfl (aa _ _ d3) rfl rfl) ?_
   try simp only [go_sem,aA,aB,aC,an,aJ,aH]
   refine aT 2 rfl rfl rfl (aL (.inl rfl)) ?_
   try simp only [go_sem,aA,aB,aC,an,aJ,aH]
   repeat' (first
    |((with_reducible refine O _ ?_);clear O U;try simp only [go_sem,aA,aB,aC,an,aJ,aH])
    |((with_reducible refine bB ?_);first
     |(refine aT 7 rfl rfl rfl (aY rfl (aa _ _ d3) rfl rfl) ?_;try simp only [go_sem,aA,aB,aC,an,aJ,aH])
     |((first|((with_reducible first|refine aS (fuel:=6) [1,3] ?_|refine aS (fuel:=5) [1,4] ?_|refine aS (fuel:=4) [1,5] ?_);refine ⟨⟨_,rfl,fun U O=>?_⟩,⟨_,rfl,fun U O=>?_⟩,trivial⟩)|((with_reducible first|refine aS (fuel:=5) [3] ?_|refine aS (fuel:=4) [4] ?_|refine aS (fuel:=3) [5] ?_|refine aS (fuel:=3) [1] ?_|refine aS (fuel:=2) [6] ?_|refine aS (fuel:=0) [8] ?_);refine ⟨⟨_,rfl,fun U O=>?_⟩,trivial⟩))<;>((first|with_reducible refine aX rfl ?_|refine aP rfl ?_);simp only [go_sem,aA,aB,aC,an,aJ,aH]))
     |(refine bk (by decide +kernel) (hK _ ?_);clear hK K;try simp only [go_sem,aA,aB,aC,an,aJ,aH]))
    |((refine CallK.cur (some 0) (bu (l:=[0,0,0,1,2,3]) (by assumption) (by omega) (by simp) (by simp)) rfl rfl rfl rfl rfl rfl ?_);(rintro c2 _ ⟨x,hx,rfl,hC⟩);(try simp only [a_,go_sem]);(refine O _ ?_);(clear O U);(try simp only [go_sem]))
    |with_reducible refine aI ?_
    |with_reducible refine ba ?_|with_reducible refine bm ?_|with_reducible refine bc ?_)
   all_goals
    skip
  all_goals
   repeat' (first|((with_reducible first|(refine hK _ ?_;clear hK K)|refine aj fun U O=>?_|apply ah|(apply Z<;>(intro hc;try simp at hc;try omega)))<;>try simp only [go_sem])|(with_reducible first|apply ag|(refine O _ ?_;clear O U)|refine kN fB fun K hK=>?_|refine kO fun K hK=>?_|refine aI ?_)|apply iB)
   simp at hx
   have hm3:0≤x∧x≤3:=by omega
   refine ⟨(i,l++[u],g++[x],c2),⟨by simp;omega,by simp;omega,hC.mono (by simp;omega),cg h4 hu,cg h5 hm3⟩,by simp,(ao [(3,10),(4,17)] (by simp [lk,ae,ab,aZ]<;>omega))⟩
 ·have hj0:j = 0:=by omega
  subst hj0
  repeat' (first|((with_reducible first|(refine hK _ ?_;clear hK K)|refine aj fun U O=>?_|apply ah|(apply Z<;>(intro hc;try simp at hc;try omega)))<;>try simp only [go_sem])|(with_reducible first|apply ag|(refine O _ ?_;clear O U)|refine kN fB fun K hK=>?_|refine kO fun K hK=>?_|refine aI ?_)|apply iB)
  all_goals first
   |(exfalso;omega)
   |skip
  refine CallK.cur (some 0) (bI (by assumption) (by omega)) rfl rfl rfl rfl rfl rfl ?_;rintro c2 _ ⟨x,hx,rfl,hC⟩;try simp only [a_,go_sem]
  cases x
  ·repeat' (first|((with_reducible first|(refine hK _ ?_;clear hK K)|refine aj fun U O=>?_|apply ah|(apply Z<;>(intro hc;try simp at hc;try omega)))<;>try simp only [go_sem])|(with_reducible first|apply ag|(refine O _ ?_;clear O U)|refine kN fB fun K hK=>?_|refine kO fun K hK=>?_|refine aI ?_)|apply iB)
   refine cE (id:=0) (xs:=[.row _ _,.row _ _,.d (.bool late)]) _ rfl (by simp only [bl,bn,ae,lk,an,List.length_append,aR,aM,if_true,if_false,Nat.reduceEqDiff,Nat.reduceBEq,Nat.reduceAdd,Bool.false_eq_true,Option.some.injEq]<;>rfl) (by simp [am,lk]) rfl (Cur.len (by assumption)) ⟨⟨l,g,late⟩,⟨by simp only;omega,by simp only;omega,h4,h2,h5⟩,rfl,Cur.mono (by assumption) (by omega)⟩
  ·repeat' (first|((with_reducible first|(refine hK _ ?_;clear hK K)|refine aj fun U O=>?_|apply ah|(apply Z<;>(intro hc;try simp at hc;try omega)))<;>try simp only [go_sem])|(with_reducible first|apply ag|(refine O _ ?_;clear O U)|refine kN fB fun K hK=>?_|refine kO fun K hK=>?_|refine aI ?_)|apply iB)
   refine bJ 9 fB ax rfl (fun K hK=>?_)
   refine aT 0 rfl rfl rfl (aY rfl (aa _ _ d3) rfl rfl) ?_
   try simp only [go_sem,aA,aB,aC,an]
   refine aT 2 rfl rfl rfl (aL (.inl rfl)) ?_
   try simp only [go_sem,aA,aB,aC,an]
   refine aT 3 rfl rfl rfl (aL (.inl rfl)) ?_
   try simp only [go_sem,aA,aB,aC,an]
   repeat' (first
    |((with_reducible refine O _ ?_);clear O U;try simp only [go_sem,aA,aB,aC,an])
    |((with_reducible refine bB ?_);first
     |(refine aT 7 rfl rfl rfl (aY rfl (aa _ _ d3) rfl rfl) ?_;try simp only [go_sem,aA,aB,aC,an])
     |((first|((with_reducible first|refine aS (fuel:=5) [1,4] ?_|refine aS (fuel:=4) [1,5] ?_);refine ⟨⟨_,rfl,fun U O=>?_⟩,⟨_,rfl,fun U O=>?_⟩,trivial⟩)|((with_reducible first|refine aS (fuel:=4) [4] ?_|refine aS (fuel:=3) [5] ?_|refine aS (fuel:=3) [1] ?_|refine aS (fuel:=2) [6] ?_|refine aS (fuel:=0) [8] ?_);refine ⟨⟨_,rfl,fun U O=>?_⟩,trivial⟩))<;>((first|with_reducible refine aX rfl ?_|refine aP rfl ?_);simp only [go_sem,aA,aB,aC,an]))
     |(refine bk (by decide +kernel) (hK _ ?_);clear hK K;try simp only [go_sem,aA,aB,aC,an]))
    |((refine CallK.cur (some 0) (mD (l:=nm) (by assumption) (by omega) h0 hl) rfl rfl rfl rfl rfl rfl ?_);(rintro c2 _ ⟨u,hu,rfl,hC⟩);(try simp only [a_,go_sem]);(refine O _ ?_);(clear O U);(try simp only [go_sem]))
    |with_reducible refine aI ?_)
   all_goals
    skip
   all_goals
    repeat' (first|((with_reducible first|(refine hK _ ?_;clear hK K)|refine aj fun U O=>?_|apply ah|(apply Z<;>(intro hc;try simp at hc;try omega)))<;>try simp only [go_sem,an])|(with_reducible first|apply ag|(refine O _ ?_;clear O U)|refine kN fB fun K hK=>?_|refine kO fun K hK=>?_|refine aI ?_)|apply iB)
    refine cE (id:=0) (xs:=[.row _ _,.row _ _,.d (.bool late)]) _ rfl (by simp only [bl,bn,ae,lk,an,List.length_append,aR,aM,if_true,if_false,Nat.reduceEqDiff,Nat.reduceBEq,Nat.reduceAdd,Bool.false_eq_true,Option.some.injEq]<;>rfl) (by simp [am,lk]) rfl (Cur.len (by assumption)) ⟨⟨l++[u],g++[0],late⟩,⟨by simp,by simp;omega,cg h4 hu,by simp;omega,cg h5 (by omega)⟩,by simp [aZ,ab],Cur.mono (by assumption) (by omega)⟩
end Go.Proofs.YtphakidbddamfaaGreat
namespace Go.Proofs.YtphakidbddamfaaGreat
open Go.RowKit
theorem fA {P:Program} {o:Oper} {s:AS} {K:AS→Prop} {t:TypeId} {p:Operand} {ti:TI} {id off:Nat} {ty:TypeId} {cs:List PV} (ty2:TypeId) (sz2:Nat) (ho:o.op = .store t p (.const (.slice none 0 0))) (ht:cd P t ti = true) (hp:s.get p = .bptr id off) (hg:ae s.hp id = some (.box ty cs))
  (hn:1 = ti.size) (hl:off + ti.size≤cs.length)
  (hK:K (AS.put ⟨s.fr,(s.nx,.row ty2 sz2 [])::bj s.hp id (.box ty (bx cs off [.row s.nx 0])),s.nx + 1⟩ o.dst .und)):PO P o s K:=
 PO.skip fun X0 w0 m0 a w hs0=>by
  have hs:=hs0.ghost ty2 sz2
  have hne:id≠s.nx:=fun e=>by
   obtain ⟨l,h1,_⟩:=hs0.hp id _ hg
   have:=hs0.lt_nx h1
   omega
  have hg1:ae ((s.nx,Blk.row ty2 sz2 [])::s.hp) id = some (.box ty cs):=by rw [ae,if_neg hne];exact hg
  have hset1:bj ((s.nx,Blk.row ty2 sz2 [])::s.hp) id (.box ty (bx cs off [.row s.nx 0])) = (s.nx,.row ty2 sz2 [])::bj s.hp id (.box ty (bx cs off [.row s.nx 0])):=by rw [bj,if_neg hne]
  rw [←hset1] at hK
  have hR:R (bN m0 s.nx .nil).loc (aU X0 (bN m0 s.nx .nil) ((s.nx,Blk.row ty2 sz2 [])::s.hp)) w (.row s.nx 0) (.slice none 0 0):=.rowN _ (bp _ _ _)
  have h2:=hR.cellsOf (by intro y hy;simp [bg] at hy;subst hy;rfl)
  have h3:=hs.get p
  have hp1:AS.get ⟨s.fr,(s.nx,Blk.row ty2 sz2 [])::s.hp,s.nx + 1⟩ p = .bptr id off:=by rw [←hp];cases p<;>rfl
  rw [hp1] at h3
  obtain ⟨b,c,hm,he⟩:=h3.bptr_inv
  obtain ⟨arr,hh,ha,hc⟩:=hs.blk hg1 hm
  obtain ⟨i,hi,hisz⟩:=fH ht
  have hb:=hs.owns hg1 hm
  have hcl:(bg (.row s.nx 0)).length = 1:=rfl
  have hvl:off + (Value.slice none 0 0).cells.size≤arr.size:=by rw [h2.1,hcl,ha,hn];exact hl
  have h6:∀ u ∈ (Value.slice none 0 0).cells.toList,u.oneCell' = true:=by
   intro u hu
   obtain ⟨j,hj⟩:=List.getElem?_of_mem hu
   have hj':(Value.slice none 0 0).cells[j]? = some u:=by simpa using hj
   have hlt:j < (bg (.row s.nx 0)).length:=by rw [←h2.1];exact (Array.getElem?_eq_some_iff.1 hj').1
   exact (h2.2 j _ u (List.getElem?_eq_getElem hlt) hj').2
  have hrun:=eW (P:=P) (t:=t) hi (by rw [h2.1,hcl,hisz,hn]) hh hvl h6
  refine ⟨w.setRow b (bx arr.toList off (Value.slice none 0 0).cells.toList).toArray,bN (bN m0 s.nx .nil) id (.blk b c),⟨s.fr,bj ((s.nx,Blk.row ty2 sz2 [])::s.hp) id (.box ty (bx cs off [.row s.nx 0])),s.nx + 1⟩,?_,?_,hK⟩
  ·have hce:a.eval (.const (.slice none 0 0)) = .slice none 0 0:=rfl
   simp only [execOp,ho,he,hce,Sem.run_bind,hrun,Result.andThen_ok,Sem.run_pure]
  ·refine hs.restore hg1 hm (blk':=.box ty (bx cs off [.row s.nx 0])) rfl hh fun m' X' w' hmm hst=>?_
   have hl1:off + [PV.row s.nx 0].length≤cs.length:=by rw [←hn] at hl;exact hl
   refine ⟨by rw [List.size_toArray,dr (by simpa using hvl),dr hl1];simpa using ha,fun j y u hy hu=>?_⟩
   have hu':(bx arr.toList off (Value.slice none 0 0).cells.toList)[j]? = some u:=by simpa using hu
   rw [dg (by simpa using hvl)] at hu'
   rw [dg hl1] at hy
   have e1:(Value.slice none 0 0).cells.toList.length = [PV.row s.nx 0].length:=rfl
   rw [e1] at hu'
   split at hy
   ·rename_i hin
    rw [if_pos hin] at hu'
    have:=h2.2 (j - off) y u hy (by simpa using hu')
    exact ⟨this.1.mono hmm hst,this.2⟩
   ·rename_i hin
    rw [if_neg hin] at hu'
    have:=hc j y u hy (by simpa using hu')
    exact ⟨this.1.mono hmm hst,this.2⟩
end Go.Proofs.YtphakidbddamfaaGreat
