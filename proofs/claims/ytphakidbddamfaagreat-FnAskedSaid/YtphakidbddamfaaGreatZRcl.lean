/-
  A performance with other calls: the program's and the reference's functions, in the abstract machine.
-/
import Derived.Test.YtphakidbddamfaaGreatZJd
import Derived.Test.YtphakidbddamfaaGreatZTkg
import Derived.Test.YtphakidbddamfaaGreatZDh
import Derived.Test.YtphakidbddamfaaGreatZOrd
set_option linter.unusedSimpArgs false
set_option linter.unusedVariables false
set_option maxHeartbeats 2000000
set_option maxRecDepth 100000
namespace Go.Proofs.YtphakidbddamfaaGreat
open Go.RowKit
def kB (a b:List ItemD):Prop:=a.length = b.length∧∀ (i:Nat) (x y:ItemD),a[i]? = some x→b[i]? = some y→x.names = y.names
theorem rC (l:List ByteArray) (hn:l.length≤1048576):FnEq Tryz.prog 144 [.d (.lst 1 (l.map aZ)),.d (.lst 1 (l.map aZ))] [.d (.bool true)]:=by
 refine aO aa Tryz.func144 rfl rfl ?_;simp only [Tryz.ntmps144,aR,aM,Nat.reduceAdd,Nat.reduceSub,aW]
 repeat' (first|((with_reducible first|(refine hK _ ?_;clear hK K)|refine aj fun U O=>?_|apply ah|(apply Z<;>(intro hc;try simp at hc;try omega)))<;>try simp only [go_sem,an,bne_self_eq_false])|(with_reducible first|apply ag|(refine O _ ?_;clear O U)|refine kN kJ fun K hK=>?_|refine kO fun K hK=>?_|refine aI ?_)|(with_reducible refine az kJ aa ax (by kernel_rfl) (fun K hK=>?_))|(with_reducible refine aN aa ax (by kernel_rfl) ?_)|apply iB)
 refine aD [4,5,13,14,15,16,17,18,19,20,21,22,23,24,25] (fun k:Nat=>[(13,.d (.int .i64 (k:Int)))]) (fun k:Nat=>[]) 0 (fun k:Nat=>k≤l.length) (fun k:Nat=>l.length - k) 0 (Nat.zero_le _) (ao [] (by simp [lk,ae]<;>omega)) ?_
 intro k hk
 simp only [bi,wipe,wl,bh,bw,rm,if_true,if_false,Nat.reduceEqDiff,Bool.false_eq_true,reduceCtorEq]
 by_cases hlt:k < l.length
 ·obtain ⟨x,hx⟩:∃ x,l[k]? = some x:=⟨_,List.getElem?_eq_getElem hlt⟩
  repeat' (first|((with_reducible first|(refine hK _ ?_;clear hK K)|refine aj fun U O=>?_|apply ah|(apply Z<;>(intro hc;try simp at hc;try omega)))<;>try simp only [go_sem,an,ap,hx,aq,aZ,hlt,bne_self_eq_false])|(with_reducible first|apply ag|(refine O _ ?_;clear O U)|refine kN kJ fun K hK=>?_|refine kO fun K hK=>?_|refine aI ?_)|(with_reducible refine az kJ aa ax (by kernel_rfl) (fun K hK=>?_))|(with_reducible refine aN aa ax (by kernel_rfl) ?_)|apply iB)
  exact ⟨k + 1,by omega,by omega,(ao [] (by simp [lk,ae]<;>omega))⟩
 ·repeat' (first|((with_reducible first|(refine hK _ ?_;clear hK K)|refine aj fun U O=>?_|apply ah|(apply Z<;>(intro hc;try simp at hc;try omega)))<;>try simp only [go_sem,hlt])|(with_reducible first|apply ag|(refine O _ ?_;clear O U)|refine kN kJ fun K hK=>?_|refine kO fun K hK=>?_|refine aI ?_)|(with_reducible refine az kJ aa ax (by kernel_rfl) (fun K hK=>?_))|(with_reducible refine aN aa ax (by kernel_rfl) ?_)|apply iB)
  refine ak rfl rfl (by simp [am,lk]) ?_;rfl
theorem py (l:List ByteArray) (hn:l.length≤1048576):FnEq Tryz.prog 149 [.d (.lst 1 (l.map aZ)),.d (.lst 1 (l.map aZ))] [.d (.bool true)]:=by
 refine aO aa Tryz.func149 rfl rfl ?_;simp only [Tryz.ntmps149,aR,aM,Nat.reduceAdd,Nat.reduceSub,aW]
 repeat' (first|((with_reducible first|(refine hK _ ?_;clear hK K)|refine aj fun U O=>?_|apply ah|(apply Z<;>(intro hc;try simp at hc;try omega)))<;>try simp only [go_sem,an,bne_self_eq_false])|(with_reducible first|apply ag|(refine O _ ?_;clear O U)|refine kN kG fun K hK=>?_|refine kO fun K hK=>?_|refine aI ?_)|(with_reducible refine az kG aa ax (by kernel_rfl) (fun K hK=>?_))|(with_reducible refine aN aa ax (by kernel_rfl) ?_)|apply iB)
 refine aD [4,5,13,14,15,16,17,18,19,20,21,22,23,24,25] (fun k:Nat=>[(13,.d (.int .i64 (k:Int)))]) (fun k:Nat=>[]) 0 (fun k:Nat=>k≤l.length) (fun k:Nat=>l.length - k) 0 (Nat.zero_le _) (ao [] (by simp [lk,ae]<;>omega)) ?_
 intro k hk
 simp only [bi,wipe,wl,bh,bw,rm,if_true,if_false,Nat.reduceEqDiff,Bool.false_eq_true,reduceCtorEq]
 by_cases hlt:k < l.length
 ·obtain ⟨x,hx⟩:∃ x,l[k]? = some x:=⟨_,List.getElem?_eq_getElem hlt⟩
  repeat' (first|((with_reducible first|(refine hK _ ?_;clear hK K)|refine aj fun U O=>?_|apply ah|(apply Z<;>(intro hc;try simp at hc;try omega)))<;>try simp only [go_sem,an,ap,hx,aq,aZ,hlt,bne_self_eq_false])|(with_reducible first|apply ag|(refine O _ ?_;clear O U)|refine kN kG fun K hK=>?_|refine kO fun K hK=>?_|refine aI ?_)|(with_reducible refine az kG aa ax (by kernel_rfl) (fun K hK=>?_))|(with_reducible refine aN aa ax (by kernel_rfl) ?_)|apply iB)
  exact ⟨k + 1,by omega,by omega,(ao [] (by simp [lk,ae]<;>omega))⟩
 ·repeat' (first|((with_reducible first|(refine hK _ ?_;clear hK K)|refine aj fun U O=>?_|apply ah|(apply Z<;>(intro hc;try simp at hc;try omega)))<;>try simp only [go_sem,hlt])|(with_reducible first|apply ag|(refine O _ ?_;clear O U)|refine kN kG fun K hK=>?_|refine kO fun K hK=>?_|refine aI ?_)|(with_reducible refine az kG aa ax (by kernel_rfl) (fun K hK=>?_))|(with_reducible refine aN aa ax (by kernel_rfl) ?_)|apply iB)
  refine ak rfl rfl (by simp [am,lk]) ?_;rfl
theorem oG (a b:List ItemD) (hn:a.length≤1048576) (hs:∀ x ∈ a,ItFit 1048576 x) (h:kB a b):FnEq Tryz.prog 99 [.d (.lst 3 (a.map ItemD.dat)),.d (.lst 3 (b.map ItemD.dat))] [.d (.bool true)]:=by
 have hl:=h.1
 refine aO aa Tryz.func99 rfl rfl ?_;simp only [Tryz.ntmps99,aR,aM,Nat.reduceAdd,Nat.reduceSub,aW]
 repeat' (first|((with_reducible first|(refine hK _ ?_;clear hK K)|refine aj fun U O=>?_|apply ah|(apply Z<;>(intro hc;try simp at hc;try omega)))<;>try simp only [go_sem,an,hl,bne_self_eq_false])|(with_reducible first|apply ag|(refine O _ ?_;clear O U)|refine kN ng fun K hK=>?_|refine kO fun K hK=>?_|refine aI ?_)|(with_reducible refine az ng aa ax (by kernel_rfl) (fun K hK=>?_))|(with_reducible refine aN aa ax (by kernel_rfl) ?_)|apply iB)
 refine aD [4,5,13,14,15,16,17,18,19,20,21,22,23,24,25,26,27,28] (fun k:Nat=>[(13,.d (.int .i64 (k:Int)))]) (fun k:Nat=>[]) 0 (fun k:Nat=>k≤b.length) (fun k:Nat=>b.length - k) 0 (Nat.zero_le _) (ao [] (by simp [lk,ae]<;>omega)) ?_
 intro k hk
 simp only [bi,wipe,wl,bh,bw,rm,if_true,if_false,Nat.reduceEqDiff,Bool.false_eq_true,reduceCtorEq]
 by_cases hlt:k < b.length
 ·obtain ⟨y,hy⟩:∃ y,b[k]? = some y:=⟨_,List.getElem?_eq_getElem hlt⟩
  have hlt2:k < a.length:=by omega
  obtain ⟨x,hx⟩:∃ x,a[k]? = some x:=⟨_,List.getElem?_eq_getElem hlt2⟩
  have he:=h.2 k x y hx hy
  have hq:=rC y.names (by rw [←he];exact (hs x (List.mem_of_getElem? hx)).1)
  repeat' (first|((with_reducible first|(refine hK _ ?_;clear hK K)|refine aj fun U O=>?_|apply ah|(apply Z<;>(intro hc;try simp at hc;try omega)))<;>try simp only [go_sem,an,ap,hx,hy,he,aq,ItemD.dat,hlt,hlt2])|(with_reducible first|apply ag|(refine O _ ?_;clear O U)|refine kN ng fun K hK=>?_|refine kO fun K hK=>?_|refine aI ?_)|((with_reducible first|apply CallK.eq|apply CallQ.eqs);(· with_reducible first|exact hq);(· first|exact rfl|(simp [RV.flat,D.sc,ab];done));try simp only [go_sem,an,ap,hx,hy,he,aq,ItemD.dat,hlt,hlt2])|(with_reducible refine az ng aa ax (by kernel_rfl) (fun K hK=>?_))|(with_reducible refine aN aa ax (by kernel_rfl) ?_)|apply iB)
  exact ⟨k + 1,by omega,by omega,(ao [] (by simp [lk,ae]<;>omega))⟩
 ·repeat' (first|((with_reducible first|(refine hK _ ?_;clear hK K)|refine aj fun U O=>?_|apply ah|(apply Z<;>(intro hc;try simp at hc;try omega)))<;>try simp only [go_sem,hlt])|(with_reducible first|apply ag|(refine O _ ?_;clear O U)|refine kN ng fun K hK=>?_|refine kO fun K hK=>?_|refine aI ?_)|(with_reducible refine az ng aa ax (by kernel_rfl) (fun K hK=>?_))|(with_reducible refine aN aa ax (by kernel_rfl) ?_)|apply iB)
  refine ak rfl rfl (by simp [am,lk]) ?_;rfl
theorem s4 (a b:List ItemD) (hn:a.length≤1048576) (hs:∀ x ∈ a,ItFit 1048576 x) (h:kB a b):FnEq Tryz.prog 103 [.d (.lst 3 (a.map ItemD.dat)),.d (.lst 3 (b.map ItemD.dat))] [.d (.bool true)]:=by
 have hl:=h.1
 refine aO aa Tryz.func103 rfl rfl ?_;simp only [Tryz.ntmps103,aR,aM,Nat.reduceAdd,Nat.reduceSub,aW]
 repeat' (first|((with_reducible first|(refine hK _ ?_;clear hK K)|refine aj fun U O=>?_|apply ah|(apply Z<;>(intro hc;try simp at hc;try omega)))<;>try simp only [go_sem,an,hl,bne_self_eq_false])|(with_reducible first|apply ag|(refine O _ ?_;clear O U)|refine kN k5 fun K hK=>?_|refine kO fun K hK=>?_|refine aI ?_)|(with_reducible refine az k5 aa ax (by kernel_rfl) (fun K hK=>?_))|(with_reducible refine aN aa ax (by kernel_rfl) ?_)|apply iB)
 refine aD [4,5,13,14,15,16,17,18,19,20,21,22,23,24,25,26,27,28] (fun k:Nat=>[(13,.d (.int .i64 (k:Int)))]) (fun k:Nat=>[]) 0 (fun k:Nat=>k≤b.length) (fun k:Nat=>b.length - k) 0 (Nat.zero_le _) (ao [] (by simp [lk,ae]<;>omega)) ?_
 intro k hk
 simp only [bi,wipe,wl,bh,bw,rm,if_true,if_false,Nat.reduceEqDiff,Bool.false_eq_true,reduceCtorEq]
 by_cases hlt:k < b.length
 ·obtain ⟨y,hy⟩:∃ y,b[k]? = some y:=⟨_,List.getElem?_eq_getElem hlt⟩
  have hlt2:k < a.length:=by omega
  obtain ⟨x,hx⟩:∃ x,a[k]? = some x:=⟨_,List.getElem?_eq_getElem hlt2⟩
  have he:=h.2 k x y hx hy
  have hq:=py y.names (by rw [←he];exact (hs x (List.mem_of_getElem? hx)).1)
  repeat' (first|((with_reducible first|(refine hK _ ?_;clear hK K)|refine aj fun U O=>?_|apply ah|(apply Z<;>(intro hc;try simp at hc;try omega)))<;>try simp only [go_sem,an,ap,hx,hy,he,aq,ItemD.dat,hlt,hlt2])|(with_reducible first|apply ag|(refine O _ ?_;clear O U)|refine kN k5 fun K hK=>?_|refine kO fun K hK=>?_|refine aI ?_)|((with_reducible first|apply CallK.eq|apply CallQ.eqs);(· with_reducible first|exact hq);(· first|exact rfl|(simp [RV.flat,D.sc,ab];done));try simp only [go_sem,an,ap,hx,hy,he,aq,ItemD.dat,hlt,hlt2])|(with_reducible refine az k5 aa ax (by kernel_rfl) (fun K hK=>?_))|(with_reducible refine aN aa ax (by kernel_rfl) ?_)|apply iB)
  exact ⟨k + 1,by omega,by omega,(ao [] (by simp [lk,ae]<;>omega))⟩
 ·repeat' (first|((with_reducible first|(refine hK _ ?_;clear hK K)|refine aj fun U O=>?_|apply ah|(apply Z<;>(intro hc;try simp at hc;try omega)))<;>try simp only [go_sem,hlt])|(with_reducible first|apply ag|(refine O _ ?_;clear O U)|refine kN k5 fun K hK=>?_|refine kO fun K hK=>?_|refine aI ?_)|(with_reducible refine az k5 aa ax (by kernel_rfl) (fun K hK=>?_))|(with_reducible refine aN aa ax (by kernel_rfl) ?_)|apply iB)
  refine ak rfl rfl (by simp [am,lk]) ?_;rfl
theorem ky (l:List (List Int)) (hn:l.length≤1048576) (hs:∀ x ∈ l,x.length≤1048576):FnEq Tryz.prog 146 [.d (.lst 1 (l.map (aF 1 ab)))] [.deep 23 1 (l.map (aF 1 ab))]:=by
 refine aO aa Tryz.func146 rfl rfl ?_;simp only [Tryz.ntmps146,aR,aM,Nat.reduceAdd,Nat.reduceSub,aW]
 repeat' (first|with_reducible refine bs (id:=2) ?_|with_reducible refine br (id:=2) ?_|((with_reducible first|(refine hK _ ?_;clear hK K)|refine aj fun U O=>?_|apply ah|(apply Z<;>(intro hc;try simp at hc;try omega)))<;>try simp only [go_sem])|(with_reducible first|apply ag|(refine O _ ?_;clear O U)|refine kN kW fun K hK=>?_|refine kO fun K hK=>?_|refine aI ?_)|apply iB)
 refine dP 1 rfl (by intro e he;cases he) ?_
 simp only [go_sem]
 repeat' (first|((with_reducible first|(refine hK _ ?_;clear hK K)|refine aj fun U O=>?_|apply ah|(apply Z<;>(intro hc;try simp at hc;try omega)))<;>try simp only [go_sem,an])|(with_reducible first|apply ag|(refine O _ ?_;clear O U)|refine kN kW fun K hK=>?_|refine kO fun K hK=>?_|refine aI ?_)|apply iB)
 refine aD [2,3,5,9,10,11,12,13,14,15,16,17,18] (fun k:Nat=>[(7,.d (.lst 1 (l.map (aF 1 ab)))),(8,.d (.int .i64 (l.length:Int))),(9,.d (.int .i64 (k:Int))),(3,.row 0 k)]) (fun k=>[(0,.deep 0 23 1 ((l.take k).map (aF 1 ab)))]) 1 (fun k=>k≤l.length) (fun k=>l.length - k) 0 (Nat.zero_le _) (ao [] (by simp [lk,ae]<;>omega)) ?_
 intro k hk;simp only [bi,wipe,wl,bh,bw,rm,if_true,if_false,Nat.reduceEqDiff,Bool.false_eq_true,reduceCtorEq]
 by_cases hlt:k < l.length
 ·obtain ⟨x,hx⟩:∃ x,l[k]? = some x:=⟨_,List.getElem?_eq_getElem hlt⟩
  have hci:=lq x (hs x (List.mem_of_getElem? hx))
  have hyt:=bW hx
  have htl:((l.take k).map (aF 1 ab)).length = k:=by simp;omega
  repeat' (first|((with_reducible first|(refine hK _ ?_;clear hK K)|refine aj fun U O=>?_|apply ah|(apply Z<;>(intro hc;try simp at hc;try omega)))<;>try simp only [go_sem,an,ap,hx,aq,aF,hlt])|(with_reducible first|apply ag|(refine O _ ?_;clear O U)|refine kN kW fun K hK=>?_|refine kO fun K hK=>?_|refine aI ?_)|((with_reducible apply CallK.eq);(· with_reducible first|exact hci);(· simp [RV.flat,D.sc,ab]);try simp only [go_sem,an,ap,hx,aq,aF,hlt])|apply iB)
  refine bA (cs:=[.row 1 x.length]) (ds:=aF 1 ab x) rfl (aa _ _ jU) (by decide) rfl (by simp [dE,dL,ae,D.scB,aF]) (by simp [bb]) (by simp only [cY,cy,ae,if_true,if_false,Nat.reduceEqDiff];exact ⟨bT _,trivial⟩) ?_
  repeat' (first|((with_reducible first|(refine hK _ ?_;clear hK K)|refine aj fun U O=>?_|apply ah|(apply Z<;>(intro hc;try simp at hc;try omega)))<;>try simp only [go_sem])|(with_reducible first|apply ag|(refine O _ ?_;clear O U)|refine kN kW fun K hK=>?_|refine kO fun K hK=>?_|refine aI ?_)|apply iB)
  refine bM (es:=(l.take k).map (aF 1 ab)) (fs:=[aF 1 ab x]) (n:=k) (n2:=1) rfl (aa _ _ jU) rfl rfl rfl rfl (by decide) htl rfl (by exact True.intro) (by exact True.intro) (by simp<;>omega) ?_
  repeat' (first|((with_reducible first|(refine hK _ ?_;clear hK K)|refine aj fun U O=>?_|apply ah|(apply Z<;>(intro hc;try simp at hc;try omega)))<;>try simp only [go_sem])|(with_reducible first|apply ag|(refine O _ ?_;clear O U)|refine kN kW fun K hK=>?_|refine kO fun K hK=>?_|refine aI ?_)|apply iB)
  exact ⟨k + 1,by omega,by omega,(ao [] (by simp [lk,ae,hyt,aF]<;>omega))⟩
 ·have hk2:k = l.length:=by omega
  subst hk2
  rw [List.take_length]
  repeat' (first|((with_reducible first|(refine hK _ ?_;clear hK K)|refine aj fun U O=>?_|apply ah|(apply Z<;>(intro hc;try simp at hc;try omega)))<;>try simp only [go_sem,hlt])|(with_reducible first|apply ag|(refine O _ ?_;clear O U)|refine kN kW fun K hK=>?_|refine kO fun K hK=>?_|refine aI ?_)|apply iB)
  refine ak rfl (by simp only [an,bl,bn,ae,lk,an,aM,List.length_append,List.length_take,if_true,if_false,Nat.reduceEqDiff,Nat.reduceBEq,Bool.false_eq_true,Option.some.injEq];rfl) (by simp [am,lk]) ?_
  rfl
theorem oE (m:MarksD) (hf:MkFit 1048576 m):FnEq Tryz.prog 101 [.agg m.cs] [.agg [.lst 1 (m.grades.map (aF 1 ab)),.lst 1 (m.components.map (aF 1 ab))]]:=by
 have h1:=cf (ky m.grades hf.1.1 hf.1.2)
 have h2:=cf (ky m.components hf.2.1 hf.2.2)
 simp only [aJ,aH,RV.data] at h1 h2
 refine aO aa Tryz.func101 rfl rfl ?_;simp only [Tryz.ntmps101,aR,aM,Nat.reduceAdd,Nat.reduceSub,aW]
 repeat' (first|((with_reducible first|(refine hK _ ?_;clear hK K)|refine aj fun U O=>?_|apply ah|(apply Z<;>(intro hc;try simp at hc;try omega)))<;>try simp only [go_sem])|(with_reducible first|apply ag|(refine O _ ?_;clear O U)|refine kN s_ fun K hK=>?_|refine kO fun K hK=>?_|refine aI ?_)|fail)
 refine bJ 8 s_ ax rfl (fun K hK=>?_)
 refine aT 0 rfl rfl rfl (aY rfl (aa _ _ fT) rfl rfl) ?_
 try simp only [go_sem,aA,aB,aC,aJ,aH]
 refine aT 3 rfl rfl rfl (aY rfl (aa _ _ fT) rfl rfl) ?_
 try simp only [go_sem,aA,aB,aC,aJ,aH]
 repeat' (first
  |((with_reducible refine O _ ?_);clear O U;try simp only [go_sem,aA,aB,aC,aJ,aH])
  |((with_reducible refine bB ?_);first
   |((first|((with_reducible first|refine aS (fuel:=5) [1,4] ?_|refine aS (fuel:=4) [2,4] ?_);refine ⟨⟨_,rfl,fun U O=>?_⟩,⟨_,rfl,fun U O=>?_⟩,trivial⟩)|((with_reducible first|refine aS (fuel:=4) [1] ?_|refine aS (fuel:=3) [4] ?_|refine aS (fuel:=3) [2] ?_|refine aS (fuel:=2) [5] ?_|refine aS (fuel:=1) [6] ?_|refine aS (fuel:=0) [7] ?_);refine ⟨⟨_,rfl,fun U O=>?_⟩,trivial⟩))<;>((first|with_reducible refine aX rfl ?_|refine aP rfl ?_);simp only [go_sem,aA,aB,aC,aJ,aH]))
   |(refine bk (by decide +kernel) (hK _ ?_);clear hK K;try simp only [go_sem,aA,aB,aC,aJ,aH]))
  |((with_reducible apply CallK.eq);(focus (with_reducible first|exact h1|exact h2));(focus (first|exact rfl|(simp [RV.flat,D.sc,ab];done)));try simp only [go_sem,aA,aB,aC,aJ,aH])
  |with_reducible refine aI ?_)
 all_goals
  skip
 all_goals
  repeat' (first|((with_reducible first|(refine hK _ ?_;clear hK K)|refine aj fun U O=>?_|apply ah|(apply Z<;>(intro hc;try simp at hc;try omega)))<;>try simp only [go_sem])|(with_reducible first|apply ag|(refine O _ ?_;clear O U)|refine kN s_ fun K hK=>?_|refine kO fun K hK=>?_|refine aI ?_)|fail)
  refine ak (rs:=[.agg [.lst 1 (m.grades.map (aF 1 ab)),.lst 1 (m.components.map (aF 1 ab))]]) rfl (by simp [bl,bn,cX,dT,ae,lk]) (by simp [am,bb,lk]) ?_
  rfl
theorem k9 (c:CodeD) (p:PerfD) (l:List ItemD) (hcf:CdFit 1048576 c) (hpf:PfFit 1048576 p) (hn:l.length≤1048576) (hs:∀ r ∈ l,ItFit 1048576 r) (hP:cB c p) (hv:ItsOk l) (hN:kB p.items l):FnEq Tryz.prog 42 [.agg c.cs,.agg p.cs,.d (.lst 3 (l.map ItemD.dat))] [.agg [.lst 3 (l.map ItemD.dat),.lst 1 (p.marks.grades.map (aF 1 ab)),.lst 1 (p.marks.components.map (aF 1 ab)),.int .i64 p.slips.falls,.int .i64 p.slips.seconds,.int .i64 p.slips.other],.d (.bool true)]:=by
 have h1:=ip c p hcf hpf
 rw [aQ hP] at h1
 have hs63:∀ r ∈ l,ItFit 9223372036854775807 r:=fun r hr=>(hs r hr).mono (by decide)
 have h2:=cV l (by omega) hs63
 rw [aQ hv] at h2
 have h3:=oG p.items l hpf.1.1 hpf.1.2 hN
 have h4:=cf (fV l hn hs)
 simp only [aJ,aH,ga] at h4
 have h5:=oE p.marks hpf.2
 refine aO aa Tryz.func42 rfl rfl ?_;simp only [Tryz.ntmps42,aR,aM,Nat.reduceAdd,Nat.reduceSub,aW]
 repeat' (first|((with_reducible first|(refine hK _ ?_;clear hK K)|refine aj fun U O=>?_|apply ah|(apply Z<;>(intro hc;try simp at hc;try omega)))<;>try simp only [go_sem])|(with_reducible first|apply ag|(refine O _ ?_;clear O U)|refine kN ve fun K hK=>?_|refine kO fun K hK=>?_|refine aI ?_)|(refine xS rfl fun U O=>?_;simp only [go_sem])|((with_reducible apply CallK.eq);(· with_reducible first|exact h1|exact h2|exact h3);(· simp [RV.flat,D.sc,ab]);try simp only [go_sem])|fail)
 refine bJ 10 ve ax rfl (fun K hK=>?_)
 refine aT 0 rfl rfl rfl (aL (.inl rfl)) ?_
 try simp only [go_sem,aA,aB,aC,aJ,aH]
 refine aT 2 rfl rfl rfl (aY rfl (aa _ _ om) rfl rfl) ?_
 try simp only [go_sem,aA,aB,aC,aJ,aH]
 refine aT 5 rfl rfl rfl (aY rfl (aa _ _ om) rfl rfl) ?_
 try simp only [go_sem,aA,aB,aC,aJ,aH]
 repeat' (first
  |((with_reducible refine O _ ?_);clear O U;try simp only [go_sem,aA,aB,aC,aJ,aH])
  |((with_reducible refine bB ?_);first
   |(refine aT 9 rfl rfl rfl (aL (.inr rfl)) ?_;try simp only [go_sem,aA,aB,aC,aJ,aH])
   |((first|((with_reducible first|refine aS (fuel:=6) [1,3,6] ?_);refine ⟨⟨_,rfl,fun U O=>?_⟩,⟨_,rfl,fun U O=>?_⟩,⟨_,rfl,fun U O=>?_⟩,trivial⟩)|((with_reducible first|refine aS (fuel:=5) [3,6] ?_|refine aS (fuel:=5) [1,6] ?_|refine aS (fuel:=5) [1,3] ?_|refine aS (fuel:=4) [4,6] ?_);refine ⟨⟨_,rfl,fun U O=>?_⟩,⟨_,rfl,fun U O=>?_⟩,trivial⟩)|((with_reducible first|refine aS (fuel:=4) [3] ?_|refine aS (fuel:=4) [1] ?_|refine aS (fuel:=3) [6] ?_|refine aS (fuel:=3) [4] ?_|refine aS (fuel:=2) [7] ?_|refine aS (fuel:=1) [8] ?_);refine ⟨⟨_,rfl,fun U O=>?_⟩,trivial⟩))<;>((first|with_reducible refine aX rfl ?_|refine aP rfl ?_);simp only [go_sem,aA,aB,aC,aJ,aH]))
   |(refine bk (by decide +kernel) (hK _ ?_);clear hK K;try simp only [go_sem,aA,aB,aC,aJ,aH]))
  |((with_reducible apply CallK.eq);(focus (with_reducible first|exact h4|exact h5));(focus (first|exact rfl|(simp [RV.flat,D.sc,ab];done)));try simp only [go_sem,aA,aB,aC,aJ,aH])
  |with_reducible refine aI ?_)
 all_goals
  skip
 all_goals
  repeat' (first|((with_reducible first|(refine hK _ ?_;clear hK K)|refine aj fun U O=>?_|apply ah|(apply Z<;>(intro hc;try simp at hc;try omega)))<;>try simp only [go_sem])|(with_reducible first|apply ag|(refine O _ ?_;clear O U)|refine kN ve fun K hK=>?_|refine kO fun K hK=>?_|refine aI ?_)|(refine xS rfl fun U O=>?_;simp only [go_sem])|fail)
  refine ak (rs:=[.agg [.lst 3 (l.map ItemD.dat),.lst 1 (p.marks.grades.map (aF 1 ab)),.lst 1 (p.marks.components.map (aF 1 ab)),.int .i64 p.slips.falls,.int .i64 p.slips.seconds,.int .i64 p.slips.other],.d (.bool true)]) rfl (by simp [bl,bn,cX,dT,ae,lk]) (by simp [am,bb,lk]) ?_
  rfl
theorem k_ (c:CodeD) (p:PerfD) (l:List ItemD) (hcf:CdFit 1048576 c) (hpf:PfFit 1048576 p) (hn:l.length≤1048576) (hs:∀ r ∈ l,ItFit 1048576 r) (hP:cB c p) (hv:ItsOk l) (hN:kB p.items l) (hP2:cB c (dz p l)):FnEq Tryz.prog 43 [.agg c.cs,.agg p.cs,.d (.lst 3 (l.map ItemD.dat))] [.agg [.lst 3 (l.map ItemD.dat),.lst 1 (p.marks.grades.map (aF 1 ab)),.lst 1 (p.marks.components.map (aF 1 ab)),.int .i64 p.slips.falls,.int .i64 p.slips.seconds,.int .i64 p.slips.other],.d (.bool true)]:=by
 have h1:=kp c p hcf hpf
 rw [aQ hP] at h1
 have hs63:∀ r ∈ l,ItFit 9223372036854775807 r:=fun r hr=>(hs r hr).mono (by decide)
 have h2:=di l (by omega) hs63
 rw [aQ hv] at h2
 have h3:=s4 p.items l hpf.1.1 hpf.1.2 hN
 have h4:=mh p l hpf hn hs
 have h5:=kp c (dz p l) hcf (kq hpf hn hs)
 rw [aQ hP2] at h5
 simp only [dz] at h5
 refine aO aa Tryz.func43 rfl rfl ?_;simp only [Tryz.ntmps43,aR,aM,Nat.reduceAdd,Nat.reduceSub,aW]
 repeat' (first|((with_reducible first|(refine hK _ ?_;clear hK K)|refine aj fun U O=>?_|apply ah|(apply Z<;>(intro hc;try simp at hc;try omega)))<;>try simp only [go_sem])|(with_reducible first|apply ag|(refine O _ ?_;clear O U)|refine kN uY fun K hK=>?_|refine kO fun K hK=>?_|refine aI ?_)|(refine xS rfl fun U O=>?_;simp only [go_sem])|fail)
 refine bJ 24 uY ax rfl (fun K hK=>?_)
 repeat' (first
  |(with_reducible refine O _ ?_;clear O U;try simp only [go_sem,aA,aB,aC,Bool.not_true,Bool.not_false,aJ,aH])|((with_reducible apply CallK.eq);(focus (with_reducible first|exact h1|exact h2|exact h3|exact h4|exact h5));(focus (first|exact rfl|(simp [RV.flat,D.sc,ab];done)));try simp only [go_sem,aA,aB,aC,Bool.not_true,Bool.not_false,aJ,aH])|with_reducible refine aI ?_
  |(refine aT 4 rfl rfl rfl (aL (.inl rfl)) ?_;try simp only [go_sem,aA,aB,aC,Bool.not_true,Bool.not_false,aJ,aH])
  |(refine dA 5 4 rfl rfl rfl (by decide +kernel) rfl (by decide +kernel) (by decide +kernel) (aL (.inl rfl)) ?_;try simp only [go_sem,aA,aB,aC,Bool.not_true,Bool.not_false,aJ,aH])
  |(refine aT 9 rfl rfl rfl (aL (.inl rfl)) ?_;try simp only [go_sem,aA,aB,aC,Bool.not_true,Bool.not_false,aJ,aH])
  |(refine dA 10 9 rfl rfl rfl (by decide +kernel) rfl (by decide +kernel) (by decide +kernel) (aY rfl (aa _ _ om) rfl rfl) ?_;try simp only [go_sem,aA,aB,aC,Bool.not_true,Bool.not_false,aJ,aH])
  |(refine dA 12 9 rfl rfl rfl (by decide +kernel) rfl (by decide +kernel) (by decide +kernel) (aL (.inl rfl)) ?_;try simp only [go_sem,aA,aB,aC,Bool.not_true,Bool.not_false,aJ,aH])
  |(refine aT 16 rfl rfl rfl (aL (.inl rfl)) ?_;try simp only [go_sem,aA,aB,aC,Bool.not_true,Bool.not_false,aJ,aH])
  |(refine dA 19 16 rfl rfl rfl (by decide +kernel) rfl (by decide +kernel) (by decide +kernel) (aL (.inl rfl)) ?_;try simp only [go_sem,aA,aB,aC,Bool.not_true,Bool.not_false,aJ,aH])
  |(refine bf aa [0,1] (by decide +kernel) rfl ⟨⟨_,rfl,fun U O=>?_⟩,⟨_,rfl,fun U O=>?_⟩,trivial⟩<;>((first|with_reducible refine aX rfl ?_|refine aP rfl ?_);simp only [go_sem,aA,aB,aC,Bool.not_true,Bool.not_false,aJ,aH]))
  |(refine bf aa [1] (by decide +kernel) rfl ⟨⟨_,rfl,fun U O=>?_⟩,trivial⟩<;>((first|with_reducible refine aX rfl ?_|refine aP rfl ?_);simp only [go_sem,aA,aB,aC,Bool.not_true,Bool.not_false,aJ,aH]))
  |(refine bf aa [2] (by decide +kernel) rfl ⟨⟨_,rfl,fun U O=>?_⟩,trivial⟩<;>((first|with_reducible refine aX rfl ?_|refine aP rfl ?_);simp only [go_sem,aA,aB,aC,Bool.not_true,Bool.not_false,aJ,aH]))
  |(refine bf aa [3] (by decide +kernel) rfl ⟨⟨_,rfl,fun U O=>?_⟩,trivial⟩<;>((first|with_reducible refine aX rfl ?_|refine aP rfl ?_);simp only [go_sem,aA,aB,aC,Bool.not_true,Bool.not_false,aJ,aH]))
  |(refine bf aa [6] (by decide +kernel) rfl ⟨⟨_,rfl,fun U O=>?_⟩,trivial⟩<;>((first|with_reducible refine aX rfl ?_|refine aP rfl ?_);simp only [go_sem,aA,aB,aC,Bool.not_true,Bool.not_false,aJ,aH]))
  |(refine bf aa [7] (by decide +kernel) rfl ⟨⟨_,rfl,fun U O=>?_⟩,trivial⟩<;>((first|with_reducible refine aX rfl ?_|refine aP rfl ?_);simp only [go_sem,aA,aB,aC,Bool.not_true,Bool.not_false,aJ,aH]))
  |(refine bf aa [8] (by decide +kernel) rfl ⟨⟨_,rfl,fun U O=>?_⟩,trivial⟩<;>((first|with_reducible refine aX rfl ?_|refine aP rfl ?_);simp only [go_sem,aA,aB,aC,Bool.not_true,Bool.not_false,aJ,aH]))
  |(refine bf aa [11] (by decide +kernel) rfl ⟨⟨_,rfl,fun U O=>?_⟩,trivial⟩<;>((first|with_reducible refine aX rfl ?_|refine aP rfl ?_);simp only [go_sem,aA,aB,aC,Bool.not_true,Bool.not_false,aJ,aH]))
  |(refine bf aa [13] (by decide +kernel) rfl ⟨⟨_,rfl,fun U O=>?_⟩,trivial⟩<;>((first|with_reducible refine aX rfl ?_|refine aP rfl ?_);simp only [go_sem,aA,aB,aC,Bool.not_true,Bool.not_false,aJ,aH]))
  |(refine bf aa [14] (by decide +kernel) rfl ⟨⟨_,rfl,fun U O=>?_⟩,trivial⟩<;>((first|with_reducible refine aX rfl ?_|refine aP rfl ?_);simp only [go_sem,aA,aB,aC,Bool.not_true,Bool.not_false,aJ,aH]))
  |(refine bf aa [15] (by decide +kernel) rfl ⟨⟨_,rfl,fun U O=>?_⟩,trivial⟩<;>((first|with_reducible refine aX rfl ?_|refine aP rfl ?_);simp only [go_sem,aA,aB,aC,Bool.not_true,Bool.not_false,aJ,aH]))
  |(refine bf aa [17,18] (by decide +kernel) rfl ⟨⟨_,rfl,fun U O=>?_⟩,⟨_,rfl,fun U O=>?_⟩,trivial⟩<;>((first|with_reducible refine aX rfl ?_|refine aP rfl ?_);simp only [go_sem,aA,aB,aC,Bool.not_true,Bool.not_false,aJ,aH]))
  |(refine bf aa [18] (by decide +kernel) rfl ⟨⟨_,rfl,fun U O=>?_⟩,trivial⟩<;>((first|with_reducible refine aX rfl ?_|refine aP rfl ?_);simp only [go_sem,aA,aB,aC,Bool.not_true,Bool.not_false,aJ,aH]))
  |(refine bf aa [20] (by decide +kernel) rfl ⟨⟨_,rfl,fun U O=>?_⟩,trivial⟩<;>((first|with_reducible refine aX rfl ?_|refine aP rfl ?_);simp only [go_sem,aA,aB,aC,Bool.not_true,Bool.not_false,aJ,aH]))
  |(refine bf aa [21] (by decide +kernel) rfl ⟨⟨_,rfl,fun U O=>?_⟩,trivial⟩<;>((first|with_reducible refine aX rfl ?_|refine aP rfl ?_);simp only [go_sem,aA,aB,aC,Bool.not_true,Bool.not_false,aJ,aH]))
  |(refine bf aa [22] (by decide +kernel) rfl ⟨⟨_,rfl,fun U O=>?_⟩,trivial⟩<;>((first|with_reducible refine aX rfl ?_|refine aP rfl ?_);simp only [go_sem,aA,aB,aC,Bool.not_true,Bool.not_false,aJ,aH]))
  |(refine bf aa [23] (by decide +kernel) rfl ⟨⟨_,rfl,fun U O=>?_⟩,trivial⟩<;>((first|with_reducible refine aX rfl ?_|refine aP rfl ?_);simp only [go_sem,aA,aB,aC,Bool.not_true,Bool.not_false,aJ,aH]))
  |(refine bf aa [17,20] (by decide +kernel) rfl ⟨⟨_,rfl,fun U O=>?_⟩,⟨_,rfl,fun U O=>?_⟩,trivial⟩<;>((first|with_reducible refine aX rfl ?_|refine aP rfl ?_);simp only [go_sem,aA,aB,aC,Bool.not_true,Bool.not_false,aJ,aH]))
  |(refine bf aa [17] (by decide +kernel) rfl ⟨⟨_,rfl,fun U O=>?_⟩,trivial⟩<;>((first|with_reducible refine aX rfl ?_|refine aP rfl ?_);simp only [go_sem,aA,aB,aC,Bool.not_true,Bool.not_false,aJ,aH]))
  |(refine bf aa [0] (by decide +kernel) rfl ⟨⟨_,rfl,fun U O=>?_⟩,trivial⟩<;>((first|with_reducible refine aX rfl ?_|refine aP rfl ?_);simp only [go_sem,aA,aB,aC,Bool.not_true,Bool.not_false,aJ,aH]))
  |(refine bk (by decide +kernel) (hK _ ?_);clear hK K;try simp only [go_sem,aA,aB,aC,Bool.not_true,Bool.not_false,aJ,aH]))
 all_goals
  skip
 all_goals
  repeat' (first|((with_reducible first|(refine hK _ ?_;clear hK K)|refine aj fun U O=>?_|apply ah|(apply Z<;>(intro hc;try simp at hc;try omega)))<;>try simp only [go_sem])|(with_reducible first|apply ag|(refine O _ ?_;clear O U)|refine kN uY fun K hK=>?_|refine kO fun K hK=>?_|refine aI ?_)|(refine xS rfl fun U O=>?_;simp only [go_sem])|((with_reducible apply CallK.eq);(· with_reducible first|exact h4);(· simp [RV.flat,D.sc,ab]);try simp only [go_sem])|fail)
  refine ak (rs:=[.agg [.lst 3 (l.map ItemD.dat),.lst 1 (p.marks.grades.map (aF 1 ab)),.lst 1 (p.marks.components.map (aF 1 ab)),.int .i64 p.slips.falls,.int .i64 p.slips.seconds,.int .i64 p.slips.other],.d (.bool true)]) rfl (by simp [bl,bn,cX,dT,ae,lk]) (by simp [am,bb,lk]) ?_
  rfl
end Go.Proofs.YtphakidbddamfaaGreat
