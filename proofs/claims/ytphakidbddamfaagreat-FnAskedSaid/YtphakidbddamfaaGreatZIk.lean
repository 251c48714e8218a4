/-
  Items: when names, items and lists of items are valid: the program's functions and the reference's, in the abstract machine.
-/
import Derived.Test.YtphakidbddamfaaGreatZMst
import Derived.Test.YtphakidbddamfaaGreatZAw
set_option linter.unusedSimpArgs false
set_option linter.unusedVariables false
set_option maxHeartbeats 2000000
set_option maxRecDepth 100000
namespace Go.Proofs.YtphakidbddamfaaGreat
open Go.RowKit
def UptoC (s:ByteArray) (k:Nat):Prop:=∀ (i:Nat) (u:UInt8),i < k→s[i]? = some u→gC u = true
theorem UptoC.zero (s:ByteArray):UptoC s 0:=fun _ _ h=>absurd h (by omega)
theorem UptoC.next {s:ByteArray} {k:Nat} {u:UInt8} (h:UptoC s k) (hx:s[k]? = some u) (hu:gC u = true):UptoC s (k + 1):=fun i v hi hv=>by
 by_cases e:i = k
 ·subst e;rw [hx] at hv;cases hv;exact hu
 ·exact h i v (by omega) hv
theorem NameOk.not_at {s:ByteArray} {k:Nat} {u:UInt8} (hx:s[k]? = some u) (hu:gC u = false):¬ NameOk s:=fun h=>by have:=h.2 k u hx;rw [hu] at this;cases this
theorem BA.get {s:ByteArray} {k:Nat} (h:k < s.size):s[k]? = some s[k]:=getElem?_pos s k h
theorem BA.lt {s:ByteArray} {k:Nat} {u:UInt8} (h:s[k]? = some u):k < s.size:=by
 by_cases e:k < s.size
 ·exact e
 ·rw [getElem?_neg s k e] at h;cases h
theorem lL {s:ByteArray} {k:Nat} (h:UptoC s k) (hk:s.size≤k):bP (NameOk s) = (decide (1≤(s.size:Int)) && decide ((s.size:Int)≤5)):=by
 rw [Bool.eq_iff_iff,bP_iff]
 simp only [Bool.and_eq_true,decide_eq_true_eq]
 constructor
 ·rintro ⟨⟨h1,h2⟩,_⟩;omega
 ·rintro ⟨h1,h2⟩;exact ⟨by omega,fun i u hu=>h i u (by have:=BA.lt hu;omega) hu⟩
theorem nR (u:UInt8):FnEq Tryz.prog 199 [.d (.int .u8 u.toNat)] [.d (.bool (gC u))]:=by
 refine aO aa Tryz.func199 rfl rfl ?_;simp only [Tryz.ntmps199,aR,aM,Nat.reduceAdd,Nat.reduceSub,aW]
 repeat' (first|((with_reducible first|(refine hK _ ?_;clear hK K)|refine aj fun U O=>?_|apply ah|(apply Z<;>(intro hc;try simp at hc;try omega)))<;>try simp only [go_sem])|(with_reducible first|apply ag|(refine O _ ?_;clear O U)|refine kN xN fun K hK=>?_|refine kO fun K hK=>?_|refine aI ?_)|(refine xS rfl fun U O=>?_;simp only [go_sem])|fail)
 all_goals (refine ak rfl rfl (by simp [am,lk]) ?_;unfold gC;simp;first|omega|(rw [Bool.eq_iff_iff];simp;omega))
theorem od (s:ByteArray) (hn:s.size≤9223372036854775807):FnEq Tryz.prog 171 [.d (.str s)] [.d (.bool (bP (NameOk s)))]:=by
 refine aO aa Tryz.func171 rfl rfl ?_;simp only [Tryz.ntmps171,aR,aM,Nat.reduceAdd,Nat.reduceSub,aW]
 repeat' (first|((with_reducible first|(refine hK _ ?_;clear hK K)|refine aj fun U O=>?_|apply ah|(apply Z<;>(intro hc;try simp at hc;try omega)))<;>try simp only [go_sem])|(with_reducible first|apply ag|(refine O _ ?_;clear O U)|refine kN oV fun K hK=>?_|refine kO fun K hK=>?_|refine aI ?_)|apply iB)
 refine aD [2,3,4,5,6,7,8,9,10,11,12,13,14] (fun k:Nat=>[(3,.d (.int .i64 (k:Int)))]) (fun k:Nat=>[]) 0 (fun k:Nat=>k≤s.size∧UptoC s k) (fun k:Nat=>s.size - k) 0 ⟨Nat.zero_le _,UptoC.zero _⟩ (ao [] (by simp [lk,ae]<;>omega)) ?_
 rintro k ⟨hk,hJ⟩
 simp only [bi,wipe,wl,bh,bw,rm,if_true,if_false,Nat.reduceEqDiff,Bool.false_eq_true,reduceCtorEq]
 by_cases hlt:k < s.size
 ·have hx:=BA.get hlt
  generalize s[k] = u at hx
  by_cases hcu:gC u = true
  ·have hJ':=hJ.next hx hcu
   repeat' (first|((with_reducible first|(refine hK _ ?_;clear hK K)|refine aj fun U O=>?_|apply ah|(apply Z<;>(intro hc;try simp at hc;try omega)))<;>try simp only [go_sem,hx,hcu])|(with_reducible first|apply ag|(refine O _ ?_;clear O U)|refine kN oV fun K hK=>?_|refine kO fun K hK=>?_|refine aI ?_)|((with_reducible apply CallK.eq);(· with_reducible first|exact nR u);(· simp [RV.flat,D.sc,ab]);try simp only [go_sem,hx,hcu])|apply iB)
   all_goals exact ⟨k + 1,⟨by omega,hJ'⟩,by omega,(ao [] (by simp [lk,ae]<;>omega))⟩
  ·have hcu:gC u = false:=by simpa using hcu
   repeat' (first|((with_reducible first|(refine hK _ ?_;clear hK K)|refine aj fun U O=>?_|apply ah|(apply Z<;>(intro hc;try simp at hc;try omega)))<;>try simp only [go_sem,hx,hcu])|(with_reducible first|apply ag|(refine O _ ?_;clear O U)|refine kN oV fun K hK=>?_|refine kO fun K hK=>?_|refine aI ?_)|((with_reducible apply CallK.eq);(· with_reducible first|exact nR u);(· simp [RV.flat,D.sc,ab]);try simp only [go_sem,hx,hcu])|apply iB)
   all_goals (refine ak rfl rfl (by simp [am,lk]) ?_;rw [aG (NameOk.not_at hx hcu)])
 ·repeat' (first|((with_reducible first|(refine hK _ ?_;clear hK K)|refine aj fun U O=>?_|apply ah|(apply Z<;>(intro hc;try simp at hc;try omega)))<;>try simp only [go_sem])|(with_reducible first|apply ag|(refine O _ ?_;clear O U)|refine kN oV fun K hK=>?_|refine kO fun K hK=>?_|refine aI ?_)|((with_reducible apply CallK.eq);(· with_reducible first|exact cx _ _ _);(· simp [RV.flat,D.sc,ab]);try simp only [go_sem])|apply iB)
  all_goals (refine ak rfl rfl (by simp [am,lk]) ?_;rw [lL hJ (by omega)])
theorem dv (s:ByteArray) (hn:s.size≤9223372036854775807):FnEq Tryz.prog 198 [.d (.str s)] [.d (.bool (bP (NameOk s)))]:=by
 refine aO aa Tryz.func198 rfl rfl ?_;simp only [Tryz.ntmps198,aR,aM,Nat.reduceAdd,Nat.reduceSub,aW]
 repeat' (first|((with_reducible first|(refine hK _ ?_;clear hK K)|refine aj fun U O=>?_|apply ah|(apply Z<;>(intro hc;try simp at hc;try omega)))<;>try simp only [go_sem])|(with_reducible first|apply ag|(refine O _ ?_;clear O U)|refine kN pf fun K hK=>?_|refine kO fun K hK=>?_|refine aI ?_)|(refine xS rfl fun U O=>?_;simp only [go_sem])|apply iB)
 refine aD [2,3,4,5,6,7,8,9,10,11,12,13,14,15,16,17,18,19,20,21,22,23,24,25,26,27,28,29,30,31] (fun k:Nat=>[(3,.d (.int .i64 (k:Int)))]) (fun k:Nat=>[]) 0 (fun k:Nat=>k≤s.size∧UptoC s k) (fun k:Nat=>s.size - k) 0 ⟨Nat.zero_le _,UptoC.zero _⟩ (ao [] (by simp [lk,ae]<;>omega)) ?_
 rintro k ⟨hk,hJ⟩
 simp only [bi,wipe,wl,bh,bw,rm,if_true,if_false,Nat.reduceEqDiff,Bool.false_eq_true,reduceCtorEq]
 by_cases hlt:k < s.size
 ·have hx:=BA.get hlt
  generalize s[k] = u at hx
  by_cases hcu:gC u = true
  ·have hJ':=hJ.next hx hcu
   have hcd:=hcu
   unfold gC at hcd
   simp at hcd
   repeat' (first|((with_reducible first|(refine hK _ ?_;clear hK K)|refine aj fun U O=>?_|apply ah|(apply Z<;>(intro hc;try simp at hc;try omega)))<;>try simp only [go_sem,hx])|(with_reducible first|apply ag|(refine O _ ?_;clear O U)|refine kN pf fun K hK=>?_|refine kO fun K hK=>?_|refine aI ?_)|(refine xS rfl fun U O=>?_;simp only [go_sem,hx])|apply iB)
   all_goals first
    |(exfalso;omega)
    |exact ⟨k + 1,⟨by omega,hJ'⟩,by omega,(ao [] (by simp [lk,ae]<;>omega))⟩
  ·have hcu:gC u = false:=by simpa using hcu
   have hcd:=hcu
   unfold gC at hcd
   simp at hcd
   repeat' (first|((with_reducible first|(refine hK _ ?_;clear hK K)|refine aj fun U O=>?_|apply ah|(apply Z<;>(intro hc;try simp at hc;try omega)))<;>try simp only [go_sem,hx])|(with_reducible first|apply ag|(refine O _ ?_;clear O U)|refine kN pf fun K hK=>?_|refine kO fun K hK=>?_|refine aI ?_)|(refine xS rfl fun U O=>?_;simp only [go_sem,hx])|apply iB)
   all_goals first
    |(exfalso;omega)
    |(refine ak rfl rfl (by simp [am,lk]) ?_;rw [aG (NameOk.not_at hx hcu)])
 ·repeat' (first|((with_reducible first|(refine hK _ ?_;clear hK K)|refine aj fun U O=>?_|apply ah|(apply Z<;>(intro hc;try simp at hc;try omega)))<;>try simp only [go_sem])|(with_reducible first|apply ag|(refine O _ ?_;clear O U)|refine kN pf fun K hK=>?_|refine kO fun K hK=>?_|refine aI ?_)|(refine xS rfl fun U O=>?_;simp only [go_sem])|((with_reducible apply CallK.eq);(· with_reducible first|exact bE _ _ _);(· simp [RV.flat,D.sc,ab]);try simp only [go_sem])|apply iB)
  all_goals (refine ak rfl rfl (by simp [am,lk]) ?_;rw [lL hJ (by omega)])
theorem ob (s:ByteArray) (hn:s.size≤9223372036854775807):FnEq Tryz.prog 238 [.d (.str s)] [.d (.bool (bP (NameOk s)))]:=by
 refine aO aa Tryz.func238 rfl rfl ?_;simp only [Tryz.ntmps238,aR,aM,Nat.reduceAdd,Nat.reduceSub,aW]
 repeat' (first|((with_reducible first|(refine hK _ ?_;clear hK K)|refine aj fun U O=>?_|apply ah|(apply Z<;>(intro hc;try simp at hc;try omega)))<;>try simp only [go_sem])|(with_reducible first|apply ag|(refine O _ ?_;clear O U)|refine kN oY fun K hK=>?_|refine kO fun K hK=>?_|refine aI ?_)|(refine xS rfl fun U O=>?_;simp only [go_sem])|apply iB)
 refine aD [2,3,4,5,6,7,8,9,10,11,12,13,14,15,16,17,18,19,20,21,22,23,24,25,26,27,28,29,30,31] (fun k:Nat=>[(3,.d (.int .i64 (k:Int)))]) (fun k:Nat=>[]) 0 (fun k:Nat=>k≤s.size∧UptoC s k) (fun k:Nat=>s.size - k) 0 ⟨Nat.zero_le _,UptoC.zero _⟩ (ao [] (by simp [lk,ae]<;>omega)) ?_
 rintro k ⟨hk,hJ⟩
 simp only [bi,wipe,wl,bh,bw,rm,if_true,if_false,Nat.reduceEqDiff,Bool.false_eq_true,reduceCtorEq]
 by_cases hlt:k < s.size
 ·have hx:=BA.get hlt
  generalize s[k] = u at hx
  by_cases hcu:gC u = true
  ·have hJ':=hJ.next hx hcu
   have hcd:=hcu
   unfold gC at hcd
   simp at hcd
   repeat' (first|((with_reducible first|(refine hK _ ?_;clear hK K)|refine aj fun U O=>?_|apply ah|(apply Z<;>(intro hc;try simp at hc;try omega)))<;>try simp only [go_sem,hx])|(with_reducible first|apply ag|(refine O _ ?_;clear O U)|refine kN oY fun K hK=>?_|refine kO fun K hK=>?_|refine aI ?_)|(refine xS rfl fun U O=>?_;simp only [go_sem,hx])|apply iB)
   all_goals first
    |(exfalso;omega)
    |exact ⟨k + 1,⟨by omega,hJ'⟩,by omega,(ao [] (by simp [lk,ae]<;>omega))⟩
  ·have hcu:gC u = false:=by simpa using hcu
   have hcd:=hcu
   unfold gC at hcd
   simp at hcd
   repeat' (first|((with_reducible first|(refine hK _ ?_;clear hK K)|refine aj fun U O=>?_|apply ah|(apply Z<;>(intro hc;try simp at hc;try omega)))<;>try simp only [go_sem,hx])|(with_reducible first|apply ag|(refine O _ ?_;clear O U)|refine kN oY fun K hK=>?_|refine kO fun K hK=>?_|refine aI ?_)|(refine xS rfl fun U O=>?_;simp only [go_sem,hx])|apply iB)
   all_goals first
    |(exfalso;omega)
    |(refine ak rfl rfl (by simp [am,lk]) ?_;rw [aG (NameOk.not_at hx hcu)])
 ·repeat' (first|((with_reducible first|(refine hK _ ?_;clear hK K)|refine aj fun U O=>?_|apply ah|(apply Z<;>(intro hc;try simp at hc;try omega)))<;>try simp only [go_sem])|(with_reducible first|apply ag|(refine O _ ?_;clear O U)|refine kN oY fun K hK=>?_|refine kO fun K hK=>?_|refine aI ?_)|(refine xS rfl fun U O=>?_;simp only [go_sem])|((with_reducible apply CallK.eq);(· with_reducible first|exact cx _ _ _);(· simp [RV.flat,D.sc,ab]);try simp only [go_sem])|apply iB)
  all_goals (refine ak rfl rfl (by simp [am,lk]) ?_;rw [lL hJ (by omega)])
theorem nL (s:ByteArray) (hn:s.size≤9223372036854775807):FnEq Tryz.prog 169 [.d (.str s)] [.d (.bool (bP (NameOk s)))]:=by
 refine aO aa Tryz.func169 rfl rfl ?_;simp only [Tryz.ntmps169,aR,aM,Nat.reduceAdd,Nat.reduceSub,aW]
 repeat' (first|((with_reducible first|(refine hK _ ?_;clear hK K)|refine aj fun U O=>?_|apply ah|(apply Z<;>(intro hc;try simp at hc;try omega)))<;>try simp only [go_sem])|(with_reducible first|apply ag|(refine O _ ?_;clear O U)|refine kN x6 fun K hK=>?_|refine kO fun K hK=>?_|refine aI ?_)|((with_reducible apply CallK.eq);(· with_reducible first|exact dv s hn);(· simp [RV.flat,D.sc,ab]);try simp only [go_sem])|fail)
 refine ak rfl rfl (by simp [am,lk]) ?_;rfl
def ns (_:Nat) (s:ByteArray):Prop:=NameOk s
theorem ItOk.not_name {r:ItemD} {k:Nat} {s:ByteArray} (hx:r.names[k]? = some s) (hf:¬ ns k s):¬ ItOk r:=fun h=>hf (h.1 k s hx)
theorem pl {r:ItemD} {k:Nat} (h:Upto ns r.names k) (hk:r.names.length≤k):bP (ItOk r) = (((decide (1≤(r.names.length:Int)) && decide ((r.names.length:Int)≤3)) && decide ((r.marks.length:Int) = (r.names.length:Int))) && bP (cv 0 3 r.marks)):=by
 rw [Bool.eq_iff_iff,bP_iff]
 simp only [Bool.and_eq_true,decide_eq_true_eq,bP_iff]
 constructor
 ·rintro ⟨_,h1,h2,h3,h4⟩;exact ⟨⟨⟨by omega,by omega⟩,by omega⟩,h4⟩
 ·rintro ⟨⟨⟨h1,h2⟩,h3⟩,h4⟩;exact ⟨h.all hk,by omega,by omega,by omega,h4⟩
theorem ki (r:ItemD) (hf:ItFit 9223372036854775807 r):FnEq Tryz.prog 137 [.agg [.d (.lst 1 (r.names.map aZ)),.d (.lst 1 (r.marks.map ab)),.d (.bool r.late)]] [.d (.bool (bP (ItOk r)))]:=by
 obtain ⟨hf1,hf2,hf3⟩:=hf
 refine aO aa Tryz.func137 rfl rfl ?_;simp only [Tryz.ntmps137,aR,aM,Nat.reduceAdd,Nat.reduceSub,aW]
 repeat' (first|((with_reducible first|(refine hK _ ?_;clear hK K)|refine aj fun U O=>?_|apply ah|(apply Z<;>(intro hc;try simp at hc;try omega)))<;>try simp only [go_sem])|(with_reducible first|apply ag|(refine O _ ?_;clear O U)|refine kN mP fun K hK=>?_|refine kO fun K hK=>?_|refine aI ?_)|(refine xS rfl fun U O=>?_;simp only [go_sem])|apply iB)
 refine aD [2,4,8,9,10,11,12,13,14,15] (fun k:Nat=>[(8,.d (.int .i64 (k:Int)))]) (fun k:Nat=>[(0,.box 143 [.d (.lst 1 (r.names.map aZ)),.d (.lst 1 (r.marks.map ab)),.d (.bool r.late)])]) 1 (fun k:Nat=>k≤r.names.length∧Upto ns r.names k) (fun k:Nat=>r.names.length - k) 0 ⟨Nat.zero_le _,Upto.zero _ _⟩ (ao [] (by simp [lk,ae]<;>omega)) ?_
 rintro k ⟨hk,hJ⟩
 simp only [bi,wipe,wl,bh,bw,rm,if_true,if_false,Nat.reduceEqDiff,Bool.false_eq_true,reduceCtorEq]
 by_cases hlt:k < r.names.length
 ·have hx:=List.getElem?_eq_getElem hlt
  generalize r.names[k] = x at hx
  have hxs:=hf2 x (List.mem_of_getElem? hx)
  by_cases hI:NameOk x
  ·have hb:=aQ hI
   have hJ':=hJ.succ hx (show ns k x from hI)
   repeat' (first|((with_reducible first|(refine hK _ ?_;clear hK K)|refine aj fun U O=>?_|apply ah|(apply Z<;>(intro hc;try simp at hc;try omega)))<;>try simp only [go_sem,ap,hx,aq,aZ,hb])|(with_reducible first|apply ag|(refine O _ ?_;clear O U)|refine kN mP fun K hK=>?_|refine kO fun K hK=>?_|refine aI ?_)|(refine xS rfl fun U O=>?_;simp only [go_sem,ap,hx,aq,aZ,hb])|((with_reducible apply CallK.eq);(· with_reducible first|exact od x hxs);(· simp [RV.flat,D.sc,ab]);try simp only [go_sem,ap,hx,aq,aZ,hb])|apply iB)
   all_goals exact ⟨k + 1,⟨by omega,hJ'⟩,by omega,(ao [] (by simp [lk,ae]<;>omega))⟩
  ·have hb:=aG hI
   repeat' (first|((with_reducible first|(refine hK _ ?_;clear hK K)|refine aj fun U O=>?_|apply ah|(apply Z<;>(intro hc;try simp at hc;try omega)))<;>try simp only [go_sem,ap,hx,aq,aZ,hb])|(with_reducible first|apply ag|(refine O _ ?_;clear O U)|refine kN mP fun K hK=>?_|refine kO fun K hK=>?_|refine aI ?_)|(refine xS rfl fun U O=>?_;simp only [go_sem,ap,hx,aq,aZ,hb])|((with_reducible apply CallK.eq);(· with_reducible first|exact od x hxs);(· simp [RV.flat,D.sc,ab]);try simp only [go_sem,ap,hx,aq,aZ,hb])|apply iB)
   all_goals (refine ak rfl rfl (by simp [am,lk]) ?_;rw [aG (ItOk.not_name hx hI)])
 ·have he:=pl hJ (by omega)
  by_cases h1:cv 0 3 r.marks
  ·have hb:=aQ h1
   rw [hb] at he
   repeat' (first|((with_reducible first|(refine hK _ ?_;clear hK K)|refine aj fun U O=>?_|apply ah|(apply Z<;>(intro hc;try simp at hc;try omega)))<;>try simp only [go_sem,hb])|(with_reducible first|apply ag|(refine O _ ?_;clear O U)|refine kN mP fun K hK=>?_|refine kO fun K hK=>?_|refine aI ?_)|(refine xS rfl fun U O=>?_;simp only [go_sem,hb])|((with_reducible apply CallK.eq);(· with_reducible first|exact cx _ _ _|exact eH r.marks 0 3 hf3);(· simp [RV.flat,D.sc,ab]);try simp only [go_sem,hb])|apply iB)
   all_goals first
    |(exfalso;omega)
    |(refine ak rfl rfl (by simp [am,lk]) ?_;rw [he];first|(simp_all;done)|(simp;omega))
  ·have hb:=aG h1
   rw [hb] at he
   repeat' (first|((with_reducible first|(refine hK _ ?_;clear hK K)|refine aj fun U O=>?_|apply ah|(apply Z<;>(intro hc;try simp at hc;try omega)))<;>try simp only [go_sem,hb])|(with_reducible first|apply ag|(refine O _ ?_;clear O U)|refine kN mP fun K hK=>?_|refine kO fun K hK=>?_|refine aI ?_)|(refine xS rfl fun U O=>?_;simp only [go_sem,hb])|((with_reducible apply CallK.eq);(· with_reducible first|exact cx _ _ _|exact eH r.marks 0 3 hf3);(· simp [RV.flat,D.sc,ab]);try simp only [go_sem,hb])|apply iB)
   all_goals first
    |(exfalso;omega)
    |(refine ak rfl rfl (by simp [am,lk]) ?_;rw [he];first|(simp_all;done)|(simp;omega))
theorem oa (r:ItemD) (hf:ItFit 9223372036854775807 r):FnEq Tryz.prog 136 [.agg [.d (.lst 1 (r.names.map aZ)),.d (.lst 1 (r.marks.map ab)),.d (.bool r.late)]] [.d (.bool (bP (ItOk r)))]:=by
 obtain ⟨hf1,hf2,hf3⟩:=hf
 refine aO aa Tryz.func136 rfl rfl ?_;simp only [Tryz.ntmps136,aR,aM,Nat.reduceAdd,Nat.reduceSub,aW]
 repeat' (first|((with_reducible first|(refine hK _ ?_;clear hK K)|refine aj fun U O=>?_|apply ah|(apply Z<;>(intro hc;try simp at hc;try omega)))<;>try simp only [go_sem])|(with_reducible first|apply ag|(refine O _ ?_;clear O U)|refine kN mq fun K hK=>?_|refine kO fun K hK=>?_|refine aI ?_)|(refine xS rfl fun U O=>?_;simp only [go_sem])|apply iB)
 refine aD [2,4,8,9,10,11,12,13,14,15] (fun k:Nat=>[(8,.d (.int .i64 (k:Int)))]) (fun k:Nat=>[(0,.box 143 [.d (.lst 1 (r.names.map aZ)),.d (.lst 1 (r.marks.map ab)),.d (.bool r.late)])]) 1 (fun k:Nat=>k≤r.names.length∧Upto ns r.names k) (fun k:Nat=>r.names.length - k) 0 ⟨Nat.zero_le _,Upto.zero _ _⟩ (ao [] (by simp [lk,ae]<;>omega)) ?_
 rintro k ⟨hk,hJ⟩
 simp only [bi,wipe,wl,bh,bw,rm,if_true,if_false,Nat.reduceEqDiff,Bool.false_eq_true,reduceCtorEq]
 by_cases hlt:k < r.names.length
 ·have hx:=List.getElem?_eq_getElem hlt
  generalize r.names[k] = x at hx
  have hxs:=hf2 x (List.mem_of_getElem? hx)
  by_cases hI:NameOk x
  ·have hb:=aQ hI
   have hJ':=hJ.succ hx (show ns k x from hI)
   repeat' (first|((with_reducible first|(refine hK _ ?_;clear hK K)|refine aj fun U O=>?_|apply ah|(apply Z<;>(intro hc;try simp at hc;try omega)))<;>try simp only [go_sem,ap,hx,aq,aZ,hb])|(with_reducible first|apply ag|(refine O _ ?_;clear O U)|refine kN mq fun K hK=>?_|refine kO fun K hK=>?_|refine aI ?_)|(refine xS rfl fun U O=>?_;simp only [go_sem,ap,hx,aq,aZ,hb])|((with_reducible apply CallK.eq);(· with_reducible first|exact nL x hxs);(· simp [RV.flat,D.sc,ab]);try simp only [go_sem,ap,hx,aq,aZ,hb])|apply iB)
   all_goals exact ⟨k + 1,⟨by omega,hJ'⟩,by omega,(ao [] (by simp [lk,ae]<;>omega))⟩
  ·have hb:=aG hI
   repeat' (first|((with_reducible first|(refine hK _ ?_;clear hK K)|refine aj fun U O=>?_|apply ah|(apply Z<;>(intro hc;try simp at hc;try omega)))<;>try simp only [go_sem,ap,hx,aq,aZ,hb])|(with_reducible first|apply ag|(refine O _ ?_;clear O U)|refine kN mq fun K hK=>?_|refine kO fun K hK=>?_|refine aI ?_)|(refine xS rfl fun U O=>?_;simp only [go_sem,ap,hx,aq,aZ,hb])|((with_reducible apply CallK.eq);(· with_reducible first|exact nL x hxs);(· simp [RV.flat,D.sc,ab]);try simp only [go_sem,ap,hx,aq,aZ,hb])|apply iB)
   all_goals (refine ak rfl rfl (by simp [am,lk]) ?_;rw [aG (ItOk.not_name hx hI)])
 ·have he:=pl hJ (by omega)
  by_cases h1:cv 0 3 r.marks
  ·have hb:=aQ h1
   rw [hb] at he
   repeat' (first|((with_reducible first|(refine hK _ ?_;clear hK K)|refine aj fun U O=>?_|apply ah|(apply Z<;>(intro hc;try simp at hc;try omega)))<;>try simp only [go_sem,hb])|(with_reducible first|apply ag|(refine O _ ?_;clear O U)|refine kN mq fun K hK=>?_|refine kO fun K hK=>?_|refine aI ?_)|(refine xS rfl fun U O=>?_;simp only [go_sem,hb])|((with_reducible apply CallK.eq);(· with_reducible first|exact bE _ _ _|exact dU r.marks 0 3 hf3);(· simp [RV.flat,D.sc,ab]);try simp only [go_sem,hb])|apply iB)
   all_goals first
    |(exfalso;omega)
    |(refine ak rfl rfl (by simp [am,lk]) ?_;rw [he];first|(simp_all;done)|(simp;omega))
  ·have hb:=aG h1
   rw [hb] at he
   repeat' (first|((with_reducible first|(refine hK _ ?_;clear hK K)|refine aj fun U O=>?_|apply ah|(apply Z<;>(intro hc;try simp at hc;try omega)))<;>try simp only [go_sem,hb])|(with_reducible first|apply ag|(refine O _ ?_;clear O U)|refine kN mq fun K hK=>?_|refine kO fun K hK=>?_|refine aI ?_)|(refine xS rfl fun U O=>?_;simp only [go_sem,hb])|((with_reducible apply CallK.eq);(· with_reducible first|exact bE _ _ _|exact dU r.marks 0 3 hf3);(· simp [RV.flat,D.sc,ab]);try simp only [go_sem,hb])|apply iB)
   all_goals first
    |(exfalso;omega)
    |(refine ak rfl rfl (by simp [am,lk]) ?_;rw [he];first|(simp_all;done)|(simp;omega))
theorem di (l:List ItemD) (hn:l.length≤9223372036854775807) (hs:∀ r ∈ l,ItFit 9223372036854775807 r):FnEq Tryz.prog 93 [.d (.lst 3 (l.map ItemD.dat))] [.d (.bool (bP (ItsOk l)))]:=by
 refine aO aa Tryz.func93 rfl rfl ?_;simp only [Tryz.ntmps93,aR,aM,Nat.reduceAdd,Nat.reduceSub,aW]
 repeat' (first|((with_reducible first|(refine hK _ ?_;clear hK K)|refine aj fun U O=>?_|apply ah|(apply Z<;>(intro hc;try simp at hc;try omega)))<;>try simp only [go_sem])|(with_reducible first|apply ag|(refine O _ ?_;clear O U)|refine kN tg fun K hK=>?_|refine kO fun K hK=>?_|refine aI ?_)|apply iB)
 refine aD [2,4,7,8,9,10,11,12,13,14] (fun k:Nat=>[(7,.d (.int .i64 (k:Int)))]) (fun k:Nat=>[]) 0 (fun k:Nat=>k≤l.length∧Upto (fun _ x=>ItOk x) l k) (fun k:Nat=>l.length - k) 0 ⟨Nat.zero_le _,Upto.zero _ _⟩ (ao [] (by simp [lk,ae]<;>omega)) ?_
 rintro k ⟨hk,hJ⟩
 simp only [bi,wipe,wl,bh,bw,rm,if_true,if_false,Nat.reduceEqDiff,Bool.false_eq_true,reduceCtorEq]
 by_cases hlt:k < l.length
 ·have hx:=List.getElem?_eq_getElem hlt
  generalize l[k] = x at hx
  have hxs:=hs x (List.mem_of_getElem? hx)
  by_cases hI:ItOk x
  ·have hb:=aQ hI
   have hJ':=hJ.succ hx hI
   repeat' (first|((with_reducible first|(refine hK _ ?_;clear hK K)|refine aj fun U O=>?_|apply ah|(apply Z<;>(intro hc;try simp at hc;try omega)))<;>try simp only [go_sem,ap,hx,aq,ItemD.dat,hb])|(with_reducible first|apply ag|(refine O _ ?_;clear O U)|refine kN tg fun K hK=>?_|refine kO fun K hK=>?_|refine aI ?_)|((with_reducible apply CallK.eq);(· with_reducible first|exact ki x hxs);(· simp [RV.flat,D.sc,ab]);try simp only [go_sem,ap,hx,aq,ItemD.dat,hb])|apply iB)
   all_goals exact ⟨k + 1,⟨by omega,hJ'⟩,by omega,(ao [] (by simp [lk,ae]<;>omega))⟩
  ·have hb:=aG hI
   repeat' (first|((with_reducible first|(refine hK _ ?_;clear hK K)|refine aj fun U O=>?_|apply ah|(apply Z<;>(intro hc;try simp at hc;try omega)))<;>try simp only [go_sem,ap,hx,aq,ItemD.dat,hb])|(with_reducible first|apply ag|(refine O _ ?_;clear O U)|refine kN tg fun K hK=>?_|refine kO fun K hK=>?_|refine aI ?_)|((with_reducible apply CallK.eq);(· with_reducible first|exact ki x hxs);(· simp [RV.flat,D.sc,ab]);try simp only [go_sem,ap,hx,aq,ItemD.dat,hb])|apply iB)
   all_goals (refine ak rfl rfl (by simp [am,lk]) ?_;rw [aG (show ¬ ItsOk l from fun h=>hI (h.2 k x hx))])
 ·repeat' (first|((with_reducible first|(refine hK _ ?_;clear hK K)|refine aj fun U O=>?_|apply ah|(apply Z<;>(intro hc;try simp at hc;try omega)))<;>try simp only [go_sem])|(with_reducible first|apply ag|(refine O _ ?_;clear O U)|refine kN tg fun K hK=>?_|refine kO fun K hK=>?_|refine aI ?_)|apply iB)
  all_goals first
   |(exfalso;omega)
   |(refine ak rfl rfl (by simp [am,lk]) ?_;by_cases h14:l.length≤14<;>first|(rw [aQ (show ItsOk l from ⟨h14,hJ.all (by omega)⟩)];simp;omega)|(rw [aG (show ¬ ItsOk l from fun h=>h14 h.1)];simp;omega))
theorem cV (l:List ItemD) (hn:l.length≤9223372036854775807) (hs:∀ r ∈ l,ItFit 9223372036854775807 r):FnEq Tryz.prog 92 [.d (.lst 3 (l.map ItemD.dat))] [.d (.bool (bP (ItsOk l)))]:=by
 refine aO aa Tryz.func92 rfl rfl ?_;simp only [Tryz.ntmps92,aR,aM,Nat.reduceAdd,Nat.reduceSub,aW]
 repeat' (first|((with_reducible first|(refine hK _ ?_;clear hK K)|refine aj fun U O=>?_|apply ah|(apply Z<;>(intro hc;try simp at hc;try omega)))<;>try simp only [go_sem])|(with_reducible first|apply ag|(refine O _ ?_;clear O U)|refine kN tp fun K hK=>?_|refine kO fun K hK=>?_|refine aI ?_)|apply iB)
 refine aD [2,4,7,8,9,10,11,12,13,14] (fun k:Nat=>[(7,.d (.int .i64 (k:Int)))]) (fun k:Nat=>[]) 0 (fun k:Nat=>k≤l.length∧Upto (fun _ x=>ItOk x) l k) (fun k:Nat=>l.length - k) 0 ⟨Nat.zero_le _,Upto.zero _ _⟩ (ao [] (by simp [lk,ae]<;>omega)) ?_
 rintro k ⟨hk,hJ⟩
 simp only [bi,wipe,wl,bh,bw,rm,if_true,if_false,Nat.reduceEqDiff,Bool.false_eq_true,reduceCtorEq]
 by_cases hlt:k < l.length
 ·have hx:=List.getElem?_eq_getElem hlt
  generalize l[k] = x at hx
  have hxs:=hs x (List.mem_of_getElem? hx)
  by_cases hI:ItOk x
  ·have hb:=aQ hI
   have hJ':=hJ.succ hx hI
   repeat' (first|((with_reducible first|(refine hK _ ?_;clear hK K)|refine aj fun U O=>?_|apply ah|(apply Z<;>(intro hc;try simp at hc;try omega)))<;>try simp only [go_sem,ap,hx,aq,ItemD.dat,hb])|(with_reducible first|apply ag|(refine O _ ?_;clear O U)|refine kN tp fun K hK=>?_|refine kO fun K hK=>?_|refine aI ?_)|((with_reducible apply CallK.eq);(· with_reducible first|exact oa x hxs);(· simp [RV.flat,D.sc,ab]);try simp only [go_sem,ap,hx,aq,ItemD.dat,hb])|apply iB)
   all_goals exact ⟨k + 1,⟨by omega,hJ'⟩,by omega,(ao [] (by simp [lk,ae]<;>omega))⟩
  ·have hb:=aG hI
   repeat' (first|((with_reducible first|(refine hK _ ?_;clear hK K)|refine aj fun U O=>?_|apply ah|(apply Z<;>(intro hc;try simp at hc;try omega)))<;>try simp only [go_sem,ap,hx,aq,ItemD.dat,hb])|(with_reducible first|apply ag|(refine O _ ?_;clear O U)|refine kN tp fun K hK=>?_|refine kO fun K hK=>?_|refine aI ?_)|((with_reducible apply CallK.eq);(· with_reducible first|exact oa x hxs);(· simp [RV.flat,D.sc,ab]);try simp only [go_sem,ap,hx,aq,ItemD.dat,hb])|apply iB)
   all_goals (refine ak rfl rfl (by simp [am,lk]) ?_;rw [aG (show ¬ ItsOk l from fun h=>hI (h.2 k x hx))])
 ·repeat' (first|((with_reducible first|(refine hK _ ?_;clear hK K)|refine aj fun U O=>?_|apply ah|(apply Z<;>(intro hc;try simp at hc;try omega)))<;>try simp only [go_sem])|(with_reducible first|apply ag|(refine O _ ?_;clear O U)|refine kN tp fun K hK=>?_|refine kO fun K hK=>?_|refine aI ?_)|apply iB)
  all_goals first
   |(exfalso;omega)
   |(refine ak rfl rfl (by simp [am,lk]) ?_;by_cases h14:l.length≤14<;>first|(rw [aQ (show ItsOk l from ⟨h14,hJ.all (by omega)⟩)];simp;omega)|(rw [aG (show ¬ ItsOk l from fun h=>h14 h.1)];simp;omega))
end Go.Proofs.YtphakidbddamfaaGreat
