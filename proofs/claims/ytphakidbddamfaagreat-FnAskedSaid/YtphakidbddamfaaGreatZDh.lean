/-
  A change made to one of the two states that stateOf keeps: (*historyState).apply inside stateOf's state, in the abstract machine.
-/
import Derived.Test.YtphakidbddamfaaGreatZMif
import Derived.Test.YtphakidbddamfaaGreatZTkg
import Derived.Test.YtphakidbddamfaaGreatZMst
import Derived.Test.YtphakidbddamfaaGreatZIq
import Derived.Test.YtphakidbddamfaaGreatZOrd
set_option linter.unusedSimpArgs false
set_option linter.unusedVariables false
set_option maxHeartbeats 2000000
set_option maxRecDepth 100000
namespace Go.Proofs.YtphakidbddamfaaGreat
open Go.RowKit
theorem rJ (i j:Int) (w:World):(Instr.checkKey true 10000 214 (.agg #[.int .i64 i,.int .i64 j])).run Tryz.prog w = .ok () w:=wM (e:=3) rfl rfl rfl rfl i j w
abbrev fM (cs:List D) (A B:List (List D)) (n:Nat):List (Nat × Blk):=[(4,.pbox 4 131 (cs.map .d)),(0,.deep 0 143 3 A),(1,.pbox 1 184 [.row 0 n,.d .emap]),(2,.deep 0 143 3 B),(3,.pbox 3 184 [.row 2 n,.d .emap])]
def oX (L:List ItemD) (x:ChangeD):Prop:=(0≤x.tick∧x.tick≤100000)∧(1≤x.caller∧x.caller≤9)∧HasNm L x.item x.name∧(0≤x.mark∧x.mark≤3)∧x.review = false
set_option maxHeartbeats 8000000 in
theorem cI {c:Code} (hb:Tryz.f183.body = some c) {Q:Exit→AS→Prop} {cs:List D} {A:List (List D)} {L L':List ItemD} {n:Nat} {x:ChangeD} {b:ItemD} {m:Int} (hn:L.length = n) (hL:L.length≤1048576) (hs:∀ r ∈ L,ItFit 9223372036854775807 r) (hx:oX L x) (hbi:L[x.item.toNat]? = some b) (hm:b.marks[x.name.toNat]? = some m)
  (bj:(L.map ItemD.dat).set x.item.toNat [.lst 1 (b.names.map aZ),.lst 1 ((b.marks.map ab).set x.name.toNat [.int .i64 x.mark]),.bool b.late] = L'.map ItemD.dat)
  (hQ:Q .ret ⟨⟨92,[(4,.d (.bool true))]⟩,fM cs A (L'.map ItemD.dat) n,5⟩):PW Tryz.prog c Q ⟨⟨92,[(0,.bptr 3 0),(1,.agg [.d (.int .i64 x.tick),.d (.int .i64 x.caller),.d (.int .i64 x.item),.d (.int .i64 x.name),.d (.int .i64 x.mark),.d (.bool x.review)])]⟩,fM cs A (L.map ItemD.dat) n,5⟩:=by
 obtain ⟨hx1,hx2,hx3,hx4,hx5⟩:=hx
 have h1:=eC x.tick
 rw [show (decide (0≤x.tick) && decide (x.tick≤100000)) = true by simp;omega] at h1
 have h2:=bE x.caller 1 9
 rw [show (decide (1≤x.caller) && decide (x.caller≤9)) = true by simp;omega] at h2
 have h3:=dV L x.item x.name (by omega) hs
 rw [aQ hx3] at h3
 have h4:=e9 x.mark
 rw [show (decide (0≤x.mark) && decide (x.mark≤3)) = true by simp;omega] at h4
 have hi0:=hx3.1
 have hj0:=hx3.2.1
 have hilt:x.item.toNat < n:=hn ▸ (List.getElem?_eq_some_iff.1 hbi).1
 have hjlt:x.name.toNat < b.marks.length:=(List.getElem?_eq_some_iff.1 hm).1
 refine nB ?_
 have hc:=Option.some.inj (show some _ = some c from hb);subst hc;clear hb
 unfold fM at hQ ⊢
 rw [hx5]
 repeat' (first|with_reducible refine bs (id:=3) ?_|with_reducible refine br (id:=3) ?_|((with_reducible first|(refine hK _ ?_;clear hK K)|refine aj fun U O=>?_|apply ah|(apply Z<;>(intro hc;try simp at hc;try omega)))<;>try simp only [go_sem,hn,an])|(with_reducible first|apply ag|(refine O _ ?_;clear O U)|refine kN cH fun K hK=>?_|refine kO fun K hK=>?_|refine aI ?_)|(refine xS rfl fun U O=>?_;simp only [go_sem,hn,an])|(refine qS rfl fun U O=>?_;simp only [go_sem,hn,an])|((with_reducible first|apply CallK.eq|apply CallQ.eqs);(· with_reducible first|exact h1|exact h2|exact h3|exact h4);(· first|exact rfl|(simp [RV.flat,D.sc,ab];done));try simp only [go_sem,hn,an])|(with_reducible refine az (id:=1) cH aa ax (by kernel_rfl) (fun K hK=>?_))|(with_reducible refine aN (id:=1) aa ax (by kernel_rfl) ?_)|fail)
 unfold eF
 refine cm (ck ?_)
 refine a9 aa ?_
 simp only [go_sem]
 refine a9 aa ?_
 simp only [go_sem]
 refine a9 aa ?_
 simp only [go_sem]
 refine a9 aa ?_
 simp only [go_sem]
 refine PQ.po (i8 rfl (aa _ _ w8) rfl ?_)
 simp only [go_sem]
 refine a9 aa ?_
 simp only [go_sem]
 refine a9 aa ?_
 simp only [go_sem]
 refine ba ?_
 repeat' (first|((with_reducible first|(refine hK _ ?_;clear hK K)|refine aj fun U O=>?_|apply ah|(apply Z<;>(intro hc;try simp at hc;try omega)))<;>try simp only [go_sem])|(with_reducible first|apply ag|(refine O _ ?_;clear O U)|refine kN cH fun K hK=>?_|refine kO fun K hK=>?_|refine aI ?_)|(refine xS rfl fun U O=>?_;simp only [go_sem])|fail)
 refine mb (id:=2) (k:=x.item.toNat) (off:=1) (es':=b.marks.map ab) rfl (by simp [dd,hbi,ItemD.dat];rfl) ?_
 refine cm (dW aa 0 14 ax (by decide +kernel) ?_)
 simp only [List.take_succ_cons,List.take_zero,List.drop_succ_cons,List.drop_zero]
 repeat' (first|((with_reducible first|(refine hK _ ?_;clear hK K)|refine aj fun U O=>?_|apply ah|(apply Z<;>(intro hc;try simp at hc;try omega)))<;>try simp only [go_sem,ap,hbi,aq,ItemD.dat,hn,hilt,hjlt,hm,ab,an,hi0,hj0])|(with_reducible first|apply ag|(refine O _ ?_;clear O U)|refine kN cH fun K hK=>?_|refine kO fun K hK=>?_|refine aI ?_)|(refine xS rfl fun U O=>?_;simp only [go_sem,ap,hbi,aq,ItemD.dat,hn,hilt,hjlt,hm,ab,an,hi0,hj0])|(refine qS rfl fun U O=>?_;simp only [go_sem,ap,hbi,aq,ItemD.dat,hn,hilt,hjlt,hm,ab,an,hi0,hj0])|(with_reducible refine az (id:=99) cH aa ax (by kernel_rfl) (fun K hK=>?_))|(with_reducible refine aN (id:=99) aa ax (by kernel_rfl) ?_)|fail)
 refine gS (i':=7) (k:=x.item.toNat) (off:=1) (es':=b.marks.map ab) (ti:=.slc 3 1 8 [.int .i64 0]) rfl (aa _ _ jR) rfl rfl rfl (by simp [dd,hbi,ItemD.dat];rfl) rfl ?_
 repeat' (first|((with_reducible first|(refine hK _ ?_;clear hK K)|refine aj fun U O=>?_|apply ah|(apply Z<;>(intro hc;try simp at hc;try omega)))<;>try simp only [go_sem,ap,hbi,aq,ItemD.dat,hn,hilt,hjlt,hm,ab,an,hi0,hj0])|(with_reducible first|apply ag|(refine O _ ?_;clear O U)|refine kN cH fun K hK=>?_|refine kO fun K hK=>?_|refine aI ?_)|(refine xS rfl fun U O=>?_;simp only [go_sem,ap,hbi,aq,ItemD.dat,hn,hilt,hjlt,hm,ab,an,hi0,hj0])|(refine qS rfl fun U O=>?_;simp only [go_sem,ap,hbi,aq,ItemD.dat,hn,hilt,hjlt,hm,ab,an,hi0,hj0])|(with_reducible refine az (id:=99) cH aa ax (by kernel_rfl) (fun K hK=>?_))|(with_reducible refine aN (id:=99) aa ax (by kernel_rfl) ?_)|fail)
 refine cU (es':=b.marks.map ab) (e1:=ab m) (ds:=[.int .i64 x.mark]) rfl (aa _ _ G3) rfl rfl rfl (by simp [dd,hbi,ItemD.dat]) (by rw [ap,hm];rfl) rfl rfl rfl (Nat.le_refl _) ?_
 simp only [go_sem,ce,ap,hbi,aq,ItemD.dat,List.set_cons_succ,List.set_cons_zero,bx,ab,bj]
 repeat' (first|((with_reducible first|(refine hK _ ?_;clear hK K)|refine aj fun U O=>?_|apply ah|(apply Z<;>(intro hc;try simp at hc;try omega)))<;>try simp only [go_sem])|(with_reducible first|apply ag|(refine O _ ?_;clear O U)|refine kN cH fun K hK=>?_|refine kO fun K hK=>?_|refine aI ?_)|(refine xS rfl fun U O=>?_;simp only [go_sem])|(refine qS rfl fun U O=>?_;simp only [go_sem])|(with_reducible refine az (id:=99) cH aa ax (by kernel_rfl) (fun K hK=>?_))|(with_reducible refine aN (id:=99) aa ax (by kernel_rfl) ?_)|fail)
 refine cm (dW aa 0 5 ax (by decide +kernel) ?_)
 simp only [List.take_succ_cons,List.take_zero,List.drop_succ_cons,List.drop_zero]
 repeat' (first|((with_reducible first|(refine hK _ ?_;clear hK K)|refine aj fun U O=>?_|apply ah|(apply Z<;>(intro hc;try simp at hc;try omega)))<;>try simp only [go_sem])|(with_reducible first|apply ag|(refine O _ ?_;clear O U)|refine kN cH fun K hK=>?_|refine kO fun K hK=>?_|refine aI ?_)|(refine xS rfl fun U O=>?_;simp only [go_sem])|(refine qS rfl fun U O=>?_;simp only [go_sem])|(with_reducible refine az (id:=99) cH aa ax (by kernel_rfl) (fun K hK=>?_))|(with_reducible refine aN (id:=99) aa ax (by kernel_rfl) ?_)|fail)
 refine oe (i:=x.item) (j:=x.name) rfl (k:=214) rfl rfl (fun w=>rJ _ _ w) rfl rfl ?_
 repeat' (first|((with_reducible first|(refine hK _ ?_;clear hK K)|refine aj fun U O=>?_|apply ah|(apply Z<;>(intro hc;try simp at hc;try omega)))<;>try simp only [go_sem])|(with_reducible first|apply ag|(refine O _ ?_;clear O U)|refine kN cH fun K hK=>?_|refine kO fun K hK=>?_|refine aI ?_)|(refine xS rfl fun U O=>?_;simp only [go_sem])|(refine qS rfl fun U O=>?_;simp only [go_sem])|(with_reducible refine az (id:=99) cH aa ax (by kernel_rfl) (fun K hK=>?_))|(with_reducible refine aN (id:=99) aa ax (by kernel_rfl) ?_)|fail)
 exact ⟨_,(ao [] (by simp [lk,ae]<;>omega)),hQ⟩
set_option maxHeartbeats 8000000 in
theorem lr {c:Code} (hb:Tryz.f183.body = some c) {Q:Exit→AS→Prop} {cs:List D} {A:List (List D)} {L L':List ItemD} {n:Nat} {x:ChangeD} {b:ItemD} {m:Int} (hn:L.length = n) (hL:L.length≤1048576) (hs:∀ r ∈ L,ItFit 9223372036854775807 r) (hx:oX L x) (hbi:L[x.item.toNat]? = some b) (hm:b.marks[x.name.toNat]? = some m)
  (bj:(L.map ItemD.dat).set x.item.toNat [.lst 1 (b.names.map aZ),.lst 1 ((b.marks.map ab).set x.name.toNat [.int .i64 x.mark]),.bool b.late] = L'.map ItemD.dat)
  (hQ:Q .ret ⟨⟨92,[(4,.d (.bool true))]⟩,fM cs (L'.map ItemD.dat) A n,5⟩):PW Tryz.prog c Q ⟨⟨92,[(0,.bptr 1 0),(1,.agg [.d (.int .i64 x.tick),.d (.int .i64 x.caller),.d (.int .i64 x.item),.d (.int .i64 x.name),.d (.int .i64 x.mark),.d (.bool x.review)])]⟩,fM cs (L.map ItemD.dat) A n,5⟩:=by
 obtain ⟨hx1,hx2,hx3,hx4,hx5⟩:=hx
 have h1:=eC x.tick
 rw [show (decide (0≤x.tick) && decide (x.tick≤100000)) = true by simp;omega] at h1
 have h2:=bE x.caller 1 9
 rw [show (decide (1≤x.caller) && decide (x.caller≤9)) = true by simp;omega] at h2
 have h3:=dV L x.item x.name (by omega) hs
 rw [aQ hx3] at h3
 have h4:=e9 x.mark
 rw [show (decide (0≤x.mark) && decide (x.mark≤3)) = true by simp;omega] at h4
 have hi0:=hx3.1
 have hj0:=hx3.2.1
 have hilt:x.item.toNat < n:=hn ▸ (List.getElem?_eq_some_iff.1 hbi).1
 have hjlt:x.name.toNat < b.marks.length:=(List.getElem?_eq_some_iff.1 hm).1
 refine nB ?_
 have hc:=Option.some.inj (show some _ = some c from hb);subst hc;clear hb
 unfold fM at hQ ⊢
 rw [hx5]
 repeat' (first|with_reducible refine bs (id:=3) ?_|with_reducible refine br (id:=3) ?_|((with_reducible first|(refine hK _ ?_;clear hK K)|refine aj fun U O=>?_|apply ah|(apply Z<;>(intro hc;try simp at hc;try omega)))<;>try simp only [go_sem,hn,an])|(with_reducible first|apply ag|(refine O _ ?_;clear O U)|refine kN cH fun K hK=>?_|refine kO fun K hK=>?_|refine aI ?_)|(refine xS rfl fun U O=>?_;simp only [go_sem,hn,an])|(refine qS rfl fun U O=>?_;simp only [go_sem,hn,an])|((with_reducible first|apply CallK.eq|apply CallQ.eqs);(· with_reducible first|exact h1|exact h2|exact h3|exact h4);(· first|exact rfl|(simp [RV.flat,D.sc,ab];done));try simp only [go_sem,hn,an])|(with_reducible refine az (id:=1) cH aa ax (by kernel_rfl) (fun K hK=>?_))|(with_reducible refine aN (id:=1) aa ax (by kernel_rfl) ?_)|fail)
 unfold eF
 refine cm (ck ?_)
 refine a9 aa ?_
 simp only [go_sem]
 refine a9 aa ?_
 simp only [go_sem]
 refine a9 aa ?_
 simp only [go_sem]
 refine a9 aa ?_
 simp only [go_sem]
 refine PQ.po (i8 rfl (aa _ _ w8) rfl ?_)
 simp only [go_sem]
 refine a9 aa ?_
 simp only [go_sem]
 refine a9 aa ?_
 simp only [go_sem]
 refine ba ?_
 repeat' (first|((with_reducible first|(refine hK _ ?_;clear hK K)|refine aj fun U O=>?_|apply ah|(apply Z<;>(intro hc;try simp at hc;try omega)))<;>try simp only [go_sem])|(with_reducible first|apply ag|(refine O _ ?_;clear O U)|refine kN cH fun K hK=>?_|refine kO fun K hK=>?_|refine aI ?_)|(refine xS rfl fun U O=>?_;simp only [go_sem])|fail)
 refine mb (id:=0) (k:=x.item.toNat) (off:=1) (es':=b.marks.map ab) rfl (by simp [dd,hbi,ItemD.dat];rfl) ?_
 refine cm (dW aa 0 14 ax (by decide +kernel) ?_)
 simp only [List.take_succ_cons,List.take_zero,List.drop_succ_cons,List.drop_zero]
 repeat' (first|((with_reducible first|(refine hK _ ?_;clear hK K)|refine aj fun U O=>?_|apply ah|(apply Z<;>(intro hc;try simp at hc;try omega)))<;>try simp only [go_sem,ap,hbi,aq,ItemD.dat,hn,hilt,hjlt,hm,ab,an,hi0,hj0])|(with_reducible first|apply ag|(refine O _ ?_;clear O U)|refine kN cH fun K hK=>?_|refine kO fun K hK=>?_|refine aI ?_)|(refine xS rfl fun U O=>?_;simp only [go_sem,ap,hbi,aq,ItemD.dat,hn,hilt,hjlt,hm,ab,an,hi0,hj0])|(refine qS rfl fun U O=>?_;simp only [go_sem,ap,hbi,aq,ItemD.dat,hn,hilt,hjlt,hm,ab,an,hi0,hj0])|(with_reducible refine az (id:=99) cH aa ax (by kernel_rfl) (fun K hK=>?_))|(with_reducible refine aN (id:=99) aa ax (by kernel_rfl) ?_)|fail)
 refine gS (i':=7) (k:=x.item.toNat) (off:=1) (es':=b.marks.map ab) (ti:=.slc 3 1 8 [.int .i64 0]) rfl (aa _ _ jR) rfl rfl rfl (by simp [dd,hbi,ItemD.dat];rfl) rfl ?_
 repeat' (first|((with_reducible first|(refine hK _ ?_;clear hK K)|refine aj fun U O=>?_|apply ah|(apply Z<;>(intro hc;try simp at hc;try omega)))<;>try simp only [go_sem,ap,hbi,aq,ItemD.dat,hn,hilt,hjlt,hm,ab,an,hi0,hj0])|(with_reducible first|apply ag|(refine O _ ?_;clear O U)|refine kN cH fun K hK=>?_|refine kO fun K hK=>?_|refine aI ?_)|(refine xS rfl fun U O=>?_;simp only [go_sem,ap,hbi,aq,ItemD.dat,hn,hilt,hjlt,hm,ab,an,hi0,hj0])|(refine qS rfl fun U O=>?_;simp only [go_sem,ap,hbi,aq,ItemD.dat,hn,hilt,hjlt,hm,ab,an,hi0,hj0])|(with_reducible refine az (id:=99) cH aa ax (by kernel_rfl) (fun K hK=>?_))|(with_reducible refine aN (id:=99) aa ax (by kernel_rfl) ?_)|fail)
 refine cU (es':=b.marks.map ab) (e1:=ab m) (ds:=[.int .i64 x.mark]) rfl (aa _ _ G3) rfl rfl rfl (by simp [dd,hbi,ItemD.dat]) (by rw [ap,hm];rfl) rfl rfl rfl (Nat.le_refl _) ?_
 simp only [go_sem,ce,ap,hbi,aq,ItemD.dat,List.set_cons_succ,List.set_cons_zero,bx,ab,bj]
 repeat' (first|((with_reducible first|(refine hK _ ?_;clear hK K)|refine aj fun U O=>?_|apply ah|(apply Z<;>(intro hc;try simp at hc;try omega)))<;>try simp only [go_sem])|(with_reducible first|apply ag|(refine O _ ?_;clear O U)|refine kN cH fun K hK=>?_|refine kO fun K hK=>?_|refine aI ?_)|(refine xS rfl fun U O=>?_;simp only [go_sem])|(refine qS rfl fun U O=>?_;simp only [go_sem])|(with_reducible refine az (id:=99) cH aa ax (by kernel_rfl) (fun K hK=>?_))|(with_reducible refine aN (id:=99) aa ax (by kernel_rfl) ?_)|fail)
 refine cm (dW aa 0 5 ax (by decide +kernel) ?_)
 simp only [List.take_succ_cons,List.take_zero,List.drop_succ_cons,List.drop_zero]
 repeat' (first|((with_reducible first|(refine hK _ ?_;clear hK K)|refine aj fun U O=>?_|apply ah|(apply Z<;>(intro hc;try simp at hc;try omega)))<;>try simp only [go_sem])|(with_reducible first|apply ag|(refine O _ ?_;clear O U)|refine kN cH fun K hK=>?_|refine kO fun K hK=>?_|refine aI ?_)|(refine xS rfl fun U O=>?_;simp only [go_sem])|(refine qS rfl fun U O=>?_;simp only [go_sem])|(with_reducible refine az (id:=99) cH aa ax (by kernel_rfl) (fun K hK=>?_))|(with_reducible refine aN (id:=99) aa ax (by kernel_rfl) ?_)|fail)
 refine oe (i:=x.item) (j:=x.name) rfl (k:=214) rfl rfl (fun w=>rJ _ _ w) rfl rfl ?_
 repeat' (first|((with_reducible first|(refine hK _ ?_;clear hK K)|refine aj fun U O=>?_|apply ah|(apply Z<;>(intro hc;try simp at hc;try omega)))<;>try simp only [go_sem])|(with_reducible first|apply ag|(refine O _ ?_;clear O U)|refine kN cH fun K hK=>?_|refine kO fun K hK=>?_|refine aI ?_)|(refine xS rfl fun U O=>?_;simp only [go_sem])|(refine qS rfl fun U O=>?_;simp only [go_sem])|(with_reducible refine az (id:=99) cH aa ax (by kernel_rfl) (fun K hK=>?_))|(with_reducible refine aN (id:=99) aa ax (by kernel_rfl) ?_)|fail)
 exact ⟨_,(ao [] (by simp [lk,ae]<;>omega)),hQ⟩
end Go.Proofs.YtphakidbddamfaaGreat
namespace Go.Proofs.YtphakidbddamfaaGreat
open Go.RowKit
def fC (i i':Nat):List D→List PV
 |[]=>[]
 |.lst _ []::r=>.row i 0::r.map (ge i')
 |d::r=>.d d::fC i i' r
theorem nZ (i i':Nat) (d:D) (r:List D):(∃ sz,d = .lst sz []∧fC i i' (d::r) = .row i 0::r.map (ge i'))∨fC i i' (d::r) = .d d::fC i i' r:=by
 rcases d with _|_|_|⟨sz,es⟩|_|_
 ·exact .inr rfl
 ·exact .inr rfl
 ·exact .inr rfl
 ·cases es with
  |nil=>exact .inl ⟨sz,rfl,rfl⟩
  |cons e es=>exact .inr rfl
 ·exact .inr rfl
 ·exact .inr rfl
theorem pT (i i':Nat):∀ z:List D,(fC i i' z).length = z.length
 |[]=>rfl
 |d::r=>by
  rcases nZ i i' d r with ⟨sz,_,h⟩|h
  ·rw [h];simp
  ·rw [h,aR,pT i i' r,aR]
theorem qI {i i':Nat} {m:Nat→Option Loc} {X:Nat→Prop} {w:World} (hm:m i = some .nil) (hm':m i' = some .nil):∀ {z:List D} {j:Nat} {x:PV},(fC i i' z)[j]? = some x→∃ d,z[j]? = some d∧∀ u,lz d u = true→R m X w x u
 |[],j,x,h=>by simp [fC] at h
 |d::r,j,x,h=>by
  rcases nZ i i' d r with ⟨sz,rfl,e⟩|e
  ·rw [e] at h
   cases j with
   |zero=>cases h;exact ⟨_,rfl,fun u hu=>by rw [sb hu];exact .rowN _ hm⟩
   |succ j=>
    rw [List.getElem?_cons_succ,ap] at h
    cases hj:r[j]? with
    |none=>rw [hj] at h;cases h
    |some d=>rw [hj] at h;cases h;exact ⟨d,by simpa using hj,fun u hu=>rN hu hm'⟩
  ·rw [e] at h
   cases j with
   |zero=>cases h;exact ⟨_,rfl,fun u hu=>.d _ _ (jV hu w X)⟩
   |succ j=>obtain ⟨d',h1,h2⟩:=qI hm hm' (z:=r) (j:=j) h;exact ⟨d',by simpa using h1,h2⟩
section rules
variable {P:Program} {o:Oper} {s:AS} {K:AS→Prop}
theorem dJ {t:TypeId} {parts:Array (Nat × Operand)} {n:Nat} {fs:List (Nat × Nat)} {z:List D} {cs:List PV} (ty:TypeId) (sz:Nat) (ty':TypeId) (sz':Nat) (ho:o.op = .build t parts) (ht:cd P t (.st n fs z) = true)
  (hf:ef (fs[·]?) (fC s.nx (s.nx + 1) z) (parts.toList.map fun p=>(p.1,s.get p.2)) = some cs) (hK:K (AS.put ⟨s.fr,(s.nx + 1,.row ty' sz' [])::(s.nx,.row ty sz [])::s.hp,s.nx + 2⟩ o.dst (.agg cs))):PO P o s K:=
 PO.mk fun X0 w0 m a w hs=>by
  have hg:=(hs.ghost ty sz).ghost ty' sz'
  obtain ⟨⟨fields,h1,h2,h3⟩,i,v,h4,h5,h6,h7,h8⟩:=il ht
  obtain ⟨g1,g2⟩:=uH h7
  have hm1:(bN (bN m s.nx .nil) (s.nx + 1) .nil).loc s.nx = some .nil:=by rw [db _ _ (by omega)];exact bp _ _ _
  have hm2:(bN (bN m s.nx .nil) (s.nx + 1) .nil).loc (s.nx + 1) = some .nil:=bp _ _ _
  have hplace:fields.toList.mapM (fun f=>(P.info? f.type).map fun i=>(f.offset,i.size)) = some fs:=by
   refine k4 _ _ (by simpa using h2) fun j f p hf hp=>?_
   obtain ⟨q1,q2,i',q3,q4⟩:=h3 j f p (by simpa using hf) hp
   rw [q3]
   simp [q1,q4]
  obtain ⟨arr',r1,r2,r3,r4⟩:=fE (m:=(bN (bN m s.nx .nil) (s.nx + 1) .nil).loc) (X:=aU X0 (bN (bN m s.nx .nil) (s.nx + 1) .nil) ((s.nx + 1,.row ty' sz' [])::(s.nx,.row ty sz [])::s.hp)) (w:=w) (fs[·]?) _ (parts.toList.map fun p=>(p.1,a.eval p.2)) _ _ v.cells hf (by simp) (fun j x u hx hu=>by
   rw [ap] at hx hu
   cases hj:parts.toList[j]? with
   |none=>rw [hj] at hx;cases hx
   |some p=>
    rw [hj] at hx hu
    cases hx
    cases hu
    have e:AS.get ⟨s.fr,(s.nx + 1,.row ty' sz' [])::(s.nx,.row ty sz [])::s.hp,s.nx + 1 + 1⟩ p.2 = s.get p.2:=by cases p.2<;>rfl
    have h9:=hg.get p.2
    rw [e] at h9
    exact h9) (by rw [pT];exact g1) (fun j x u hx hu=>by
   obtain ⟨d,hd,hR⟩:=qI (X:=aU X0 (bN (bN m s.nx .nil) (s.nx + 1) .nil) ((s.nx + 1,.row ty' sz' [])::(s.nx,.row ty sz [])::s.hp)) (w:=w) hm1 hm2 hx
   have h9:=g2 j d u hd hu
   exact ⟨hR u h9,.inr (jV h9 w (fun _=>False)).one⟩)
  refine ⟨.agg arr',w,_,_,.agg cs,?_,hg,.agg _ _ r2 fun j x u hx hu=>(r4 j x u hx hu).1,hK⟩
  have hbuilt:P.built t (parts.map fun p=>(p.1,a.eval p.2)).toList = some arr':=by
   unfold Program.built
   simp only [h4,h1,h6,hplace]
   simpa using r1
  have hrun:=run_build (P:=P) w t (parts.map fun p=>(p.1,a.eval p.2)) arr' hbuilt
  simp only [execOp,ho,Sem.run_bind]
  rw [hrun]
  rfl
theorem dP {Q:Exit→AS→Prop} {c:Code} {s:AS} (id:Nat) {ty:TypeId} {sz:Nat} {es:List (List D)} (hg:ae s.hp id = some (.row ty sz es)) (hfl:iE es) (h:PW P c Q ⟨s.fr,bj s.hp id (.deep 0 ty sz es),s.nx⟩):PW P c Q s:=by
 intro X0 w0 m a w hs
 obtain ⟨l,hl,hok⟩:=hs.hp id _ hg
 have hdp:DpOk w (fun _=>False) ty sz es (some l):=by
  cases l with
  |nil=>exact ⟨hok,fun _ h=>h⟩
  |blk b c=>
   obtain ⟨arr,hh,hc⟩:=hok
   exact ⟨fun h=>h,arr,hh,hc.1,hc.2.1,hc.2.2.1,hc.2.2.2.1,fun _ _ _=>False,fun _ _ _ h=>h,fun _ _ _ _ _ h=>h.elim,fun k e j d v he hd hv=>(hc.2.2.2.2 k e j d v he hd hv).tr (hfl e (List.mem_of_getElem? he) d (List.mem_of_getElem? hd))⟩
 refine h X0 w0 (bN m id l fun _=>False) a w ?_
 refine hs.changeD (i:=id) (blk':=.deep 0 ty sz es) (F':=fun _=>False) (fun b=>l.at b) (.inr hl) (by rw [bq];simp [hg]) (fun id' hne blk hb=>by rw [bq,if_neg hne] at hb;exact hb) rfl (fun id' par k j hne ha'=>?_) (Nat.le_refl _) (hs.lt_nx hl) (KeepB.refl _ _) (fun _ _ _=>rfl) (fun b ⟨c,hb⟩=>⟨id,_,hg,⟨c,by rw [hl,hb]⟩,.inl rfl⟩) (fun b hb=>?_) (fun p e=>by cases e) (fun p ty' sz' es' e=>?_) fun _=>trivial
 ·rw [bq,if_neg hne] at ha'
  obtain ⟨q,ty',sz',es2,_,_,_,_,_,_,a1,_⟩:=hs.al id' par k j ha'
  have hpar:par≠id:=fun e=>by subst e;rw [hg] at a1;cases a1
  exact .inl ⟨hpar,by rw [bq,if_neg hpar]⟩
 ·rcases hb with ⟨c,hc⟩|hf
  ·rw [bp] at hc
   have hat:l.at b:=⟨c,Option.some.inj hc⟩
   have:=hs.own id _ b hg ⟨c,by rw [hl];exact hc⟩
   exact ⟨this.1,this.2,.inr hat⟩
  ·rw [fN] at hf
   exact hf.elim
 ·cases e
  exact hdp
end rules
end Go.Proofs.YtphakidbddamfaaGreat
namespace Go.Proofs.YtphakidbddamfaaGreat
open Go.RowKit
theorem RR.empty {Y:Nat→Prop} {B:Nat} {w:World} {ty:TypeId} {sz:Nat} {v:Value} {g:Nat→Prop} (h:RR Y B w (.row ty sz []) v g):RR Y B w (.deep ty sz []) v g:=by
 cases h with
 |nil=>exact .dnil ty sz
 |row _ _ _ g c arr hB hh hc=>
  have e:(fun b=>b = g) = fun b=>b = g∨(fun _:Nat=>False) b:=by funext b;simp
  rw [e]
  exact .deep ty sz [] g c (fun _=>False) hB (fun _ h=>h.elim) ⟨fun h=>h,arr,hh,hc.1,hc.2.1,hc.2.2.1,hc.2.2.2.1,fun _ _ _=>False,fun _ _ _ h=>h,fun _ _ _ _ _ h=>h.elim,fun k e j d v he=>by simp at he⟩
theorem FnEq.deepen {P:Program} {f:FuncId} {args:List PV} {ty:TypeId} {sz:Nat} (h:FnEq P f args [.row ty sz []]):FnEq P f args [.deep ty sz []]:=
 ⟨h.1,fun w X vals h0 h1 h2 h3=>(h.2 w X vals h0 h1 h2 h3).mono fun e w' ⟨rs,e1,vs,gs,q1,q2,q3,q4,q5⟩=>by
  subst e1
  refine ⟨_,rfl,vs,gs,q1,q2,q3,q4,fun i r v hr hv=>?_⟩
  cases i with
  |succ i=>cases hr
  |zero=>
   cases hr
   exact (q5 0 _ v rfl hv).empty⟩
theorem ec {P:Program} {x z:Code} {Q:Exit→AS→Prop} {s:AS} {α:Type} (I:α→AS) (J:α→Prop) (h:∀ K:AS→Prop,(∀ a s',J a→iM s' (I a)→K s')→PW P x (ep K Q) s) (h2:∀ a,J a→PW P z Q (I a)):PW P x (ep (PW P z Q) Q) s:=h _ fun a _ hJ hf=>i1 hf (h2 a hJ)
theorem uk {P:Program} {o:Oper} {s:AS} {K:AS→Prop} (id:Nat) {ty:TypeId} {sz:Nat} {es:List (List D)} (hg:ae s.hp id = some (.row ty sz es)) (hfl:iE es) (h:PO P o ⟨s.fr,bj s.hp id (.deep 0 ty sz es),s.nx⟩ K):PO P o s K:=by
 intro X0 w0 m a w Q hs
 obtain ⟨l,hl,hok⟩:=hs.hp id _ hg
 have hdp:DpOk w (fun _=>False) ty sz es (some l):=by
  cases l with
  |nil=>exact ⟨hok,fun _ h=>h⟩
  |blk b c=>
   obtain ⟨arr,hh,hc⟩:=hok
   exact ⟨fun h=>h,arr,hh,hc.1,hc.2.1,hc.2.2.1,hc.2.2.2.1,fun _ _ _=>False,fun _ _ _ h=>h,fun _ _ _ _ _ h=>h.elim,fun k e j d v he hd hv=>(hc.2.2.2.2 k e j d v he hd hv).tr (hfl e (List.mem_of_getElem? he) d (List.mem_of_getElem? hd))⟩
 refine h X0 w0 (bN m id l fun _=>False) a w Q ?_
 refine hs.changeD (i:=id) (blk':=.deep 0 ty sz es) (F':=fun _=>False) (fun b=>l.at b) (.inr hl) (by rw [bq];simp [hg]) (fun id' hne blk hb=>by rw [bq,if_neg hne] at hb;exact hb) rfl (fun id' par k j hne ha'=>?_) (Nat.le_refl _) (hs.lt_nx hl) (KeepB.refl _ _) (fun _ _ _=>rfl) (fun b ⟨c,hb⟩=>⟨id,_,hg,⟨c,by rw [hl,hb]⟩,.inl rfl⟩) (fun b hb=>?_) (fun p e=>by cases e) (fun p ty' sz' es' e=>?_) fun _=>trivial
 ·rw [bq,if_neg hne] at ha'
  obtain ⟨q,ty',sz',es2,_,_,_,_,_,_,a1,_⟩:=hs.al id' par k j ha'
  have hpar:par≠id:=fun e=>by subst e;rw [hg] at a1;cases a1
  exact .inl ⟨hpar,by rw [bq,if_neg hpar]⟩
 ·rcases hb with ⟨c,hc⟩|hf
  ·rw [bp] at hc
   have hat:l.at b:=⟨c,Option.some.inj hc⟩
   have:=hs.own id _ b hg ⟨c,by rw [hl];exact hc⟩
   exact ⟨this.1,this.2,.inr hat⟩
  ·rw [fN] at hf
   exact hf.elim
 ·cases e
  exact hdp
end Go.Proofs.YtphakidbddamfaaGreat
