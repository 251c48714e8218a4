/-
  The cursor's functions: next, pick, one, among.
-/
import Derived.Test.YtphakidbddamfaaGreatZMst
import Derived.Test.YtphakidbddamfaaGreatZOrd
import Derived.Test.YtphakidbddamfaaGreatZMc
import Derived.Test.YtphakidbddamfaaGreatZDh
import Derived.Test.YtphakidbddamfaaGreatZJa
import Derived.Test.YtphakidbddamfaaGreatZTkg
set_option linter.unusedSimpArgs false
set_option linter.unusedVariables false
set_option maxHeartbeats 2000000
set_option maxRecDepth 100000
namespace Go.Proofs.YtphakidbddamfaaGreat
open Go.RowKit
theorem wu {P:Program} {o:Oper} {s:AS} {KP:PV→Prop} {t t':TypeId} {x y:Operand} {k:IntKind} {a b:Int} (ho:o.op = .binOp .add t x y t') (hx:s.get x = .d (.int k a)) (hy:s.get y = .d (.int k b)) (hK:KP (.d (.int k (k.wrap (a + b))))):PQ P o s KP:=
 PQ.pure _ hK fun m X w ac hq=>⟨.int k (k.wrap (a + b)),fun u=>by
  have h1:=hq x
  have h2:=hq y
  rw [hx] at h1
  rw [hy] at h2
  have hr:(eqGuard .add t x y (.int k a) (.int k b) >>= fun _=>binOp .add t (.int k a) (.int k b)).run P u = .ok (.int k (k.wrap (a + b))) u:=by simp [go_sem]
  simp only [execOp,ho,h1.int,h2.int,Sem.run_bind] at hr ⊢
  simp only [hr,Result.andThen_ok,Sem.run_pure],.d _ _ (.int _ _)⟩
def wn (code:List (List D)):Prop:=∀ e,e ∈ code→∃ n:Int,e = [.int .u8 n]∧0≤n∧n≤255
def Cur (k:Nat) (cs:List D):Prop:=∃ (code:List (List D)) (a s:Int),cs = [.lst 1 code,.int .i64 a,.int .u64 s]∧wn code∧code.length≤9223372036854775807∧0≤a∧a≤k
theorem Cur.len {k:Nat} {cs:List D} (h:Cur k cs):cs.length = 3:=by obtain ⟨_,_,_,rfl,_⟩:=h;rfl
theorem Cur.mono {k k':Nat} {cs:List D} (h:Cur k cs) (hk:k≤k'):Cur k' cs:=by
 obtain ⟨code,a,s,h1,h2,h3,h4,h5⟩:=h
 exact ⟨code,a,s,h1,h2,h3,h4,by omega⟩
def dn {α:Type} (k:Nat) (p:α→Prop) (f:α→List RV):List D→List RV→Prop:=fun cs' rs=>∃ x,p x∧rs = f x∧Cur k cs'
abbrev mC (k:Nat) (p:Int→Prop):List D→List RV→Prop:=dn k p fun x=>[.d (.int .i64 x)]
theorem rQ {k:Nat} {cs:List D} (hC:Cur k cs) (hk:k≤1099511627776):FnC Tryz.prog 153 3 [] cs (mC (k + 1) fun x=>0≤x∧x≤255):=by
 have hC':=hC
 obtain ⟨code,a,s,rfl,hB,hL,ha,hak⟩:=hC'
 refine co aa Tryz.func153 rfl rfl hC.len fun ty=>?_;simp only [Tryz.ntmps153,aR,aM,Nat.reduceAdd,Nat.reduceSub,aJ,aH,an,aW]
 by_cases hlt:a < code.length
 ·obtain ⟨n,rfl⟩:∃ n:Nat,a = n:=⟨a.toNat,by omega⟩
  have hn:n < code.length:=by omega
  obtain ⟨b,hbn,hb0,hb1⟩:=hB code[n] (List.getElem_mem hn)
  have hgn:code[n]? = some [.int .u8 b]:=by rw [List.getElem?_eq_getElem hn,hbn]
  repeat' (first|((with_reducible first|(refine hK _ ?_;clear hK K)|refine aj fun U O=>?_|apply ah|(apply Z<;>(intro hc;try simp at hc;try omega)))<;>try simp only [go_sem,hgn,hlt])|(with_reducible first|apply ag|(refine O _ ?_;clear O U)|refine kN pc fun K hK=>?_|refine kO fun K hK=>?_)|(with_reducible refine az pc aa ax (by kernel_rfl) (fun K hK=>?_))|(with_reducible refine aN aa ax (by kernel_rfl) ?_)|with_reducible refine And.intro (by first|omega|(unfold jO;omega)|exact pi _) ?_|fail)
  all_goals (refine bQ (id:=0) [_,_,_] rfl rfl (by simp [am,lk]) rfl rfl ⟨_,?_,rfl,code,_,_,rfl,hB,hL,?_,?_⟩<;>first|omega|exact lI _)
 ·repeat' (first|((with_reducible first|(refine hK _ ?_;clear hK K)|refine aj fun U O=>?_|apply ah|(apply Z<;>(intro hc;try simp at hc;try omega)))<;>try simp only [go_sem,hlt])|(with_reducible first|apply ag|(refine O _ ?_;clear O U)|refine kN pc fun K hK=>?_|refine kO fun K hK=>?_)|(with_reducible refine az pc aa ax (by kernel_rfl) (fun K hK=>?_))|(with_reducible refine aN aa ax (by kernel_rfl) ?_)|with_reducible refine And.intro (by first|omega|(unfold jO;omega)|exact pi _) ?_|fail)
  all_goals (refine bQ (id:=0) [_,_,_] rfl rfl (by simp [am,lk]) rfl rfl ⟨_,?_,rfl,code,_,_,rfl,hB,hL,?_,?_⟩<;>first|omega|exact lI _)
theorem oy {x n:Int} (hx:0≤x) (hn:0 < n):0≤x.tmod n∧x.tmod n < n:=⟨Int.tmod_nonneg n hx,Int.tmod_lt_of_pos x hn⟩
theorem be {k:Nat} {cs:List D} {n:Int} (hC:Cur k cs) (hk:k≤1099511627775):FnC Tryz.prog 108 3 [.int .i64 n] cs (mC (k + 2) fun x=>0≤x∧(x = 0∨x < n)):=by
 refine co aa Tryz.func108 rfl rfl hC.len fun ty=>?_;simp only [Tryz.ntmps108,aR,aM,Nat.reduceAdd,Nat.reduceSub,aJ,aH,an,aW]
 repeat' (first|((with_reducible first|(refine hK _ ?_;clear hK K)|refine aj fun U O=>?_|apply ah|(apply Z<;>(intro hc;try simp at hc;try omega)))<;>try simp only [go_sem])|(with_reducible first|apply ag|(refine O _ ?_;clear O U)|refine kN yd fun K hK=>?_|refine kO fun K hK=>?_|refine aI ?_)|((first|refine CallK.cur (some 0) (rQ (by assumption) (by omega)) rfl rfl rfl rfl rfl rfl ?_);rintro c2 _ ⟨x,hx,rfl,hC⟩;try simp only [a_,go_sem])|((first|refine CallK.cur (some 0) (rQ (by assumption) (by omega)) rfl rfl rfl rfl rfl rfl ?_);rintro c2 _ ⟨x,hx,rfl,hC⟩;try simp only [a_,go_sem])|fail)
 all_goals refine bQ (id:=0) _ rfl rfl (by simp [am,lk]) rfl (Cur.len (by assumption)) ⟨_,?_,rfl,Cur.mono (by assumption) (by omega)⟩
 ·omega
 ·rename_i z hz _;have:=oy (x:=z * 256 + x) (n:=n) (by omega) (by omega);omega
 ·have:=oy (x:=x) (n:=n) (by omega) (by omega);omega
theorem bI {k:Nat} {cs:List D} {n:Int} (hC:Cur k cs) (hk:k≤1099511627775):FnC Tryz.prog 140 3 [.int .i64 n] cs (dn (k + 2) (fun _:Bool=>True) fun b=>[.d (.bool b)]):=by
 refine co aa Tryz.func140 rfl rfl hC.len fun ty=>?_;simp only [Tryz.ntmps140,aR,aM,Nat.reduceAdd,Nat.reduceSub,aJ,aH,an,aW]
 repeat' (first|((with_reducible first|(refine hK _ ?_;clear hK K)|refine aj fun U O=>?_|apply ah|(apply Z<;>(intro hc;try simp at hc;try omega)))<;>try simp only [go_sem])|(with_reducible first|apply ag|(refine O _ ?_;clear O U)|refine kN xI fun K hK=>?_|refine kO fun K hK=>?_|refine aI ?_)|((first|refine CallK.cur (some 0) (be (by assumption) (by omega)) rfl rfl rfl rfl rfl rfl ?_);rintro c2 _ ⟨x,hx,rfl,hC⟩;try simp only [a_,go_sem])|((first|refine CallK.cur (some 0) (be (by assumption) (by omega)) rfl rfl rfl rfl rfl rfl ?_);rintro c2 _ ⟨x,hx,rfl,hC⟩;try simp only [a_,go_sem])|fail)
 all_goals (refine bQ (id:=0) _ rfl rfl (by simp [am,lk]) rfl (Cur.len (by assumption)) ⟨_,?_,rfl,Cur.mono (by assumption) (by omega)⟩;trivial)
theorem bu {k:Nat} {cs:List D} {l:List Int} (hC:Cur k cs) (hk:k≤1099511627775) (h0:0 < l.length) (hl:l.length≤1048576):FnC Tryz.prog 110 3 [.lst 1 (l.map ab)] cs (mC (k + 2) fun x=>x ∈ l):=by
 refine co aa Tryz.func110 rfl rfl hC.len fun ty=>?_;simp only [Tryz.ntmps110,aR,aM,Nat.reduceAdd,Nat.reduceSub,aJ,aH,an,aW]
 repeat' (first|((with_reducible first|(refine hK _ ?_;clear hK K)|refine aj fun U O=>?_|apply ah|(apply Z<;>(intro hc;try simp at hc;try omega)))<;>try simp only [go_sem])|(with_reducible first|apply ag|(refine O _ ?_;clear O U)|refine kN v9 fun K hK=>?_|refine kO fun K hK=>?_|refine aI ?_)|fail)
 refine CallK.cur (some 0) (be (by assumption) (by omega)) rfl rfl rfl rfl rfl rfl ?_;rintro c2 _ ⟨x,hx,rfl,hC⟩;try simp only [a_,go_sem]
 obtain ⟨i,rfl⟩:∃ i:Nat,x = i:=⟨x.toNat,by omega⟩
 have hi:i < l.length:=by omega
 have hg:l[i]? = some l[i]:=List.getElem?_eq_getElem hi
 repeat' (first|((with_reducible first|(refine hK _ ?_;clear hK K)|refine aj fun U O=>?_|apply ah|(apply Z<;>(intro hc;try simp at hc;try omega)))<;>try simp only [go_sem,hg,ap,aq,ab])|(with_reducible first|apply ag|(refine O _ ?_;clear O U)|refine kN v9 fun K hK=>?_|refine kO fun K hK=>?_|refine aI ?_)|fail)
 all_goals (refine bQ (id:=0) _ rfl rfl (by simp [am,lk]) rfl (Cur.len (by assumption)) ⟨_,?_,rfl,Cur.mono (by assumption) (by omega)⟩;exact List.getElem_mem hi)
end Go.Proofs.YtphakidbddamfaaGreat
namespace Go.Proofs.YtphakidbddamfaaGreat
open Go.ChangeShapes Go.WideShapes Go.ChangeAt Go.RowKit Go.Deep
def fF (n:Int):List D:=[.int .u8 n]
section
variable {H:Type} {enc:TypeId × Value→H} {w:World} {base:Nat} {spare:Nat→Bool} {held:Bool}
theorem OpenK.byte {P:Program} {t:TypeId} (ht:P.underlying t = some (.int .u8)):OpenK enc P w base spare held fF (fun n=>0≤n∧n≤255) t 1:=by
 refine ⟨fun _=>rfl,fun fuel cs y h=>?_⟩
 obtain ⟨n,rfl,_,hw⟩:=DataW.trod_int ht h
 have hw':(decide (IntKind.u8.min≤n) && decide (n≤IntKind.u8.max)) = true:=hw
 rw [Bool.and_eq_true,decide_eq_true_eq,decide_eq_true_eq] at hw'
 have e1:IntKind.u8.min = 0:=by decide
 have e2:IntKind.u8.max = 255:=by decide
 refine ⟨n,⟨by omega,by omega⟩,rfl,fun j d u hd hu=>?_⟩
 cases j with
 |zero=>simp [fF] at hd hu;subst hd hu;exact .int _ _
 |succ j=>simp [fF] at hd
set_option maxRecDepth 100000 in
theorem open_bytes:OpenK enc Tryz.prog w base spare held (aF 1 fF) (fun xs=>xs.length≤maxLen∧∀ x ∈ xs,0≤x∧x≤255) 72 1:=
 OpenK.slc (OpenK.byte Tryz.underlying5) Tryz.underlying72 (by kernel_rfl) (by decide)
end
theorem uO {xs:List Int} (h:∀ x ∈ xs,0≤x∧x≤255):wn (xs.map fF):=by
 intro e he
 obtain ⟨n,hn,rfl⟩:=List.mem_map.1 he
 exact ⟨n,rfl,h n hn⟩
theorem xk {xs:List Int} (h:∀ x ∈ xs,0≤x∧x≤255) (hn:xs.length≤9223372036854775807):Cur 0 [.lst 1 (xs.map fF),.int .i64 0,.int .u64 0]:=
 ⟨_,0,0,rfl,uO h,by simpa using hn,Int.le_refl _,Int.le_refl _⟩
end Go.Proofs.YtphakidbddamfaaGreat
set_option linter.unusedSimpArgs false
set_option linter.unusedVariables false
set_option maxHeartbeats 2000000
set_option maxRecDepth 100000
namespace Go.Proofs.YtphakidbddamfaaGreat
open Go.RowKit
theorem mD {k:Nat} {cs:List D} {l:List ByteArray} (hC:Cur k cs) (hk:k≤1099511627775) (h0:0 < l.length) (hl:l.length≤1048576):FnC Tryz.prog 197 3 [.lst 1 (l.map aZ)] cs (dn (k + 2) (fun x=>x ∈ l) fun x=>[.d (.str x)]):=by
 refine co aa Tryz.func197 rfl rfl hC.len fun ty=>?_;simp only [Tryz.ntmps197,aR,aM,Nat.reduceAdd,Nat.reduceSub,aJ,aH,an,aW]
 repeat' (first|((with_reducible first|(refine hK _ ?_;clear hK K)|refine aj fun U O=>?_|apply ah|(apply Z<;>(intro hc;try simp at hc;try omega)))<;>try simp only [go_sem])|(with_reducible first|apply ag|(refine O _ ?_;clear O U)|refine kN wg fun K hK=>?_|refine kO fun K hK=>?_|refine aI ?_)|fail)
 refine CallK.cur (some 0) (be (by assumption) (by omega)) rfl rfl rfl rfl rfl rfl ?_;rintro c2 _ ⟨x,hx,rfl,hC⟩;try simp only [a_,go_sem]
 obtain ⟨i,rfl⟩:∃ i:Nat,x = i:=⟨x.toNat,by omega⟩
 have hi:i < l.length:=by omega
 have hg:l[i]? = some l[i]:=List.getElem?_eq_getElem hi
 repeat' (first|((with_reducible first|(refine hK _ ?_;clear hK K)|refine aj fun U O=>?_|apply ah|(apply Z<;>(intro hc;try simp at hc;try omega)))<;>try simp only [go_sem,hg,ap,aq,aZ])|(with_reducible first|apply ag|(refine O _ ?_;clear O U)|refine kN wg fun K hK=>?_|refine kO fun K hK=>?_|refine aI ?_)|fail)
 all_goals (refine bQ (id:=0) _ rfl rfl (by simp [am,lk]) rfl (Cur.len (by assumption)) ⟨_,?_,rfl,Cur.mono (by assumption) (by omega)⟩;exact List.getElem_mem hi)
theorem qH {k:Nat} {cs:List D} (hC:Cur k cs) (hk:k≤1099511627775):FnC Tryz.prog 95 3 [] cs (mC (k + 2) fun x=>9≤x∧x≤401):=by
 refine co aa Tryz.func95 rfl rfl hC.len fun ty=>?_;simp only [Tryz.ntmps95,aR,aM,Nat.reduceAdd,Nat.reduceSub,aJ,aH,an,aW]
 repeat' (first|((with_reducible first|(refine hK _ ?_;clear hK K)|refine aj fun U O=>?_|apply ah|(apply Z<;>(intro hc;try simp at hc;try omega)))<;>try simp only [go_sem,aJ,aH,ab])|(with_reducible first|apply ag|(refine O _ ?_;clear O U)|refine kN yD fun K hK=>?_|refine kO fun K hK=>?_|refine aI ?_)|((first|refine CallK.cur (some 0) (bu (l:=[10,80,100,160,200,400,401,9]) (by assumption) (by omega) (by simp) (by simp)) rfl rfl rfl rfl rfl rfl ?_);rintro c2 _ ⟨x,hx,rfl,hC⟩;try simp only [a_,go_sem,aJ,aH,ab])|((first|refine CallK.cur (some 0) (bu (l:=[10,80,100,160,200,400,401,9]) (by assumption) (by omega) (by simp) (by simp)) rfl rfl rfl rfl rfl rfl ?_);rintro c2 _ ⟨x,hx,rfl,hC⟩;try simp only [a_,go_sem,aJ,aH,ab])|fail)
 all_goals (refine bQ (id:=0) _ rfl rfl (by simp [am,lk]) rfl (Cur.len (by assumption)) ⟨_,?_,rfl,Cur.mono (by assumption) (by omega)⟩;simp at hx;omega)
theorem ow {k:Nat} {cs:List D} (hC:Cur k cs) (hk:k≤1099511627775):FnC Tryz.prog 206 3 [] cs (mC (k + 2) fun x=>3≤x∧x≤9):=by
 refine co aa Tryz.func206 rfl rfl hC.len fun ty=>?_;simp only [Tryz.ntmps206,aR,aM,Nat.reduceAdd,Nat.reduceSub,aJ,aH,an,aW]
 repeat' (first|((with_reducible first|(refine hK _ ?_;clear hK K)|refine aj fun U O=>?_|apply ah|(apply Z<;>(intro hc;try simp at hc;try omega)))<;>try simp only [go_sem,aJ,aH,ab])|(with_reducible first|apply ag|(refine O _ ?_;clear O U)|refine kN xF fun K hK=>?_|refine kO fun K hK=>?_|refine aI ?_)|((first|refine CallK.cur (some 0) (bu (l:=[3,3,4,5,5,7,9]) (by assumption) (by omega) (by simp) (by simp)) rfl rfl rfl rfl rfl rfl ?_);rintro c2 _ ⟨x,hx,rfl,hC⟩;try simp only [a_,go_sem,aJ,aH,ab])|((first|refine CallK.cur (some 0) (bu (l:=[3,3,4,5,5,7,9]) (by assumption) (by omega) (by simp) (by simp)) rfl rfl rfl rfl rfl rfl ?_);rintro c2 _ ⟨x,hx,rfl,hC⟩;try simp only [a_,go_sem,aJ,aH,ab])|fail)
 all_goals (refine bQ (id:=0) _ rfl rfl (by simp [am,lk]) rfl (Cur.len (by assumption)) ⟨_,?_,rfl,Cur.mono (by assumption) (by omega)⟩;simp at hx;omega)
def ua (s:SlipsD):Prop:=-1≤s.falls∧s.falls≤10∧-1≤s.seconds∧s.seconds≤61∧-1≤s.other∧s.other≤501
theorem pV {k:Nat} {cs:List D} (hC:Cur k cs) (hk:k≤1000000000):FnC Tryz.prog 139 3 [] cs (dn (k + 6) ua fun s=>[.d (.int .i64 s.falls),.d (.int .i64 s.seconds),.d (.int .i64 s.other)]) .agg:=by
 refine co aa Tryz.func139 rfl rfl hC.len fun ty=>?_;simp only [Tryz.ntmps139,aR,aM,Nat.reduceAdd,Nat.reduceSub,aJ,aH,an,aW]
 repeat' (first|((with_reducible first|(refine hK _ ?_;clear hK K)|refine aj fun U O=>?_|apply ah|(apply Z<;>(intro hc;try simp at hc;try omega)))<;>try simp only [go_sem])|(with_reducible first|apply ag|(refine O _ ?_;clear O U)|refine kN pe fun K hK=>?_|refine kO fun K hK=>?_|refine aI ?_)|fail)
 refine CallK.cur (some 0) (bu (l:=[0,0,1,2,3,5,9]) (by assumption) (by omega) (by simp) (by simp)) rfl rfl rfl rfl rfl rfl ?_;rintro c2 _ ⟨x,hx,rfl,hC⟩;try simp only [a_,go_sem]
 have h1:-1≤x∧x≤10:=by simp at hx;omega
 repeat' (first|((with_reducible first|(refine hK _ ?_;clear hK K)|refine aj fun U O=>?_|apply ah|(apply Z<;>(intro hc;try simp at hc;try omega)))<;>try simp only [go_sem])|(with_reducible first|apply ag|(refine O _ ?_;clear O U)|refine kN pe fun K hK=>?_|refine kO fun K hK=>?_|refine aI ?_)|fail)
 refine CallK.cur (some 0) (bu (l:=[0,0,1,5,6,60]) (by assumption) (by omega) (by simp) (by simp)) rfl rfl rfl rfl rfl rfl ?_;rintro c2 _ ⟨x,hx,rfl,hC⟩;try simp only [a_,go_sem]
 have h2:-1≤x∧x≤61:=by simp at hx;omega
 repeat' (first|((with_reducible first|(refine hK _ ?_;clear hK K)|refine aj fun U O=>?_|apply ah|(apply Z<;>(intro hc;try simp at hc;try omega)))<;>try simp only [go_sem])|(with_reducible first|apply ag|(refine O _ ?_;clear O U)|refine kN pe fun K hK=>?_|refine kO fun K hK=>?_|refine aI ?_)|fail)
 refine CallK.cur (some 0) (bu (l:=[0,0,50,100,500]) (by assumption) (by omega) (by simp) (by simp)) rfl rfl rfl rfl rfl rfl ?_;rintro c2 _ ⟨x,hx,rfl,hC⟩;try simp only [a_,go_sem]
 have h3:-1≤x∧x≤501:=by simp at hx;omega
 repeat' (first|((with_reducible first|(refine hK _ ?_;clear hK K)|refine aj fun U O=>?_|apply ah|(apply Z<;>(intro hc;try simp at hc;try omega)))<;>try simp only [go_sem])|(with_reducible first|apply ag|(refine O _ ?_;clear O U)|refine kN pe fun K hK=>?_|refine kO fun K hK=>?_|refine aI ?_)|fail)
 refine cE (id:=0) (xs:=[.d (.int .i64 _),.d (.int .i64 _),.d (.int .i64 _)]) _ rfl rfl (by simp [am,lk]) rfl (Cur.len (by assumption)) ⟨⟨_,_,_⟩,?_,rfl,Cur.mono (by assumption) (by omega)⟩
 exact ⟨h1.1,h1.2,h2.1,h2.2,h3.1,h3.2⟩
def vU (q:Int × Int):Prop:=-1≤q.1∧q.1≤1048576∧-1≤q.2∧q.2≤1048576
theorem uh {k:Nat} {cs:List D} {l:List ItemD} (hC:Cur k cs) (hk:k≤1000000000) (hl:l.length≤1048576) (hs:∀ r ∈ l,ItFit 1048576 r):FnC Tryz.prog 152 3 [.lst 3 (l.map ItemD.dat)] cs (dn (k + 6) vU fun q=>[.d (.int .i64 q.1),.d (.int .i64 q.2)]):=by
 refine co aa Tryz.func152 rfl rfl hC.len fun ty=>?_;simp only [Tryz.ntmps152,aR,aM,Nat.reduceAdd,Nat.reduceSub,aJ,aH,an,aW]
 by_cases h0:l.length = 0
 ·repeat' (first|((with_reducible first|(refine hK _ ?_;clear hK K)|refine aj fun U O=>?_|apply ah|(apply Z<;>(intro hc;try simp at hc;try omega)))<;>try simp only [go_sem,h0])|(with_reducible first|apply ag|(refine O _ ?_;clear O U)|refine kN mN fun K hK=>?_|refine kO fun K hK=>?_|refine aI ?_)|(refine xS rfl fun U O=>?_;simp only [go_sem,h0])|((first|refine CallK.cur (some 0) (be (by assumption) (by omega)) rfl rfl rfl rfl rfl rfl ?_);rintro c2 _ ⟨x,hx,rfl,hC⟩;try simp only [a_,go_sem,h0])|((first|refine CallK.cur (some 0) (be (by assumption) (by omega)) rfl rfl rfl rfl rfl rfl ?_);rintro c2 _ ⟨x,hx,rfl,hC⟩;try simp only [a_,go_sem,h0])|fail)
  all_goals (refine bQ (id:=0) _ rfl rfl (by simp [am,lk]) rfl (Cur.len (by assumption)) ⟨(_,_),?_,rfl,Cur.mono (by assumption) (by omega)⟩;unfold vU;simp only;omega)
 ·repeat' (first|((with_reducible first|(refine hK _ ?_;clear hK K)|refine aj fun U O=>?_|apply ah|(apply Z<;>(intro hc;try simp at hc;try omega)))<;>try simp only [go_sem,h0])|(with_reducible first|apply ag|(refine O _ ?_;clear O U)|refine kN mN fun K hK=>?_|refine kO fun K hK=>?_|refine aI ?_)|(refine xS rfl fun U O=>?_;simp only [go_sem,h0])|fail)
  all_goals first
   |(exfalso;omega)
   |(exfalso;simp [hc] at h0;done)
   |skip
  refine CallK.cur (some 0) (bI (by assumption) (by omega)) rfl rfl rfl rfl rfl rfl ?_;rintro c2 _ ⟨x,hx,rfl,hC⟩;try simp only [a_,go_sem]
  cases x
  ·repeat' (first|((with_reducible first|(refine hK _ ?_;clear hK K)|refine aj fun U O=>?_|apply ah|(apply Z<;>(intro hc;try simp at hc;try omega)))<;>try simp only [go_sem])|(with_reducible first|apply ag|(refine O _ ?_;clear O U)|refine kN mN fun K hK=>?_|refine kO fun K hK=>?_|refine aI ?_)|(refine xS rfl fun U O=>?_;simp only [go_sem])|fail)
   refine CallK.cur (some 0) (be (by assumption) (by omega)) rfl rfl rfl rfl rfl rfl ?_;rintro c2 _ ⟨x,hx,rfl,hC⟩;try simp only [a_,go_sem]
   obtain ⟨i,rfl⟩:∃ i:Nat,x = i:=⟨x.toNat,by omega⟩
   have hi:i < l.length:=by omega
   have hx:=List.getElem?_eq_getElem hi
   generalize l[i] = it at hx
   have hi0:(0:Int)≤(i:Int)∧(i:Int)≤1048576:=by omega
   obtain ⟨f1,f2,f3⟩:=hs it (List.mem_of_getElem? hx)
   repeat' (first|((with_reducible first|(refine hK _ ?_;clear hK K)|refine aj fun U O=>?_|apply ah|(apply Z<;>(intro hc;try simp at hc;try omega)))<;>try simp only [go_sem,ap,hx,aq,ItemD.dat,hi])|(with_reducible first|apply ag|(refine O _ ?_;clear O U)|refine kN mN fun K hK=>?_|refine kO fun K hK=>?_|refine aI ?_)|(refine xS rfl fun U O=>?_;simp only [go_sem,ap,hx,aq,ItemD.dat,hi])|((first|refine CallK.cur (some 0) (be (by assumption) (by omega)) rfl rfl rfl rfl rfl rfl ?_);rintro c2 _ ⟨x,hx,rfl,hC⟩;try simp only [a_,go_sem,ap,hx,aq,ItemD.dat,hi])|((first|refine CallK.cur (some 0) (be (by assumption) (by omega)) rfl rfl rfl rfl rfl rfl ?_);rintro c2 _ ⟨x,hx,rfl,hC⟩;try simp only [a_,go_sem,ap,hx,aq,ItemD.dat,hi])|fail)
   all_goals (refine bQ (id:=0) _ rfl rfl (by simp [am,lk]) rfl (Cur.len (by assumption)) ⟨(_,_),?_,rfl,Cur.mono (by assumption) (by omega)⟩;exact ⟨Int.le_trans (by decide) hi0.1,hi0.2,by simp only;omega,by simp only;omega⟩)
  ·repeat' (first|((with_reducible first|(refine hK _ ?_;clear hK K)|refine aj fun U O=>?_|apply ah|(apply Z<;>(intro hc;try simp at hc;try omega)))<;>try simp only [go_sem])|(with_reducible first|apply ag|(refine O _ ?_;clear O U)|refine kN mN fun K hK=>?_|refine kO fun K hK=>?_|refine aI ?_)|(refine xS rfl fun U O=>?_;simp only [go_sem])|((first|refine CallK.cur (some 0) (be (by assumption) (by omega)) rfl rfl rfl rfl rfl rfl ?_);rintro c2 _ ⟨x,hx,rfl,hC⟩;try simp only [a_,go_sem])|((first|refine CallK.cur (some 0) (be (by assumption) (by omega)) rfl rfl rfl rfl rfl rfl ?_);rintro c2 _ ⟨x,hx,rfl,hC⟩;try simp only [a_,go_sem])|fail)
   all_goals (refine bQ (id:=0) _ rfl rfl (by simp [am,lk]) rfl (Cur.len (by assumption)) ⟨(_,_),?_,rfl,Cur.mono (by assumption) (by omega)⟩;unfold vU;simp only;omega)
def yH (t:Int) (x:InquiryD):Prop:=x.tick = t∧vU (x.item,x.name)∧0≤x.mark∧x.mark≤3
theorem sA {k:Nat} {cs:List D} {l:List ItemD} {t:Int} (hC:Cur k cs) (hk:k≤1000000000) (hl:l.length≤1048576) (hs:∀ r ∈ l,ItFit 1048576 r):FnC Tryz.prog 107 3 [.lst 3 (l.map ItemD.dat),.int .i64 t] cs (dn (k + 10) (yH t) fun x=>[.d (.int .i64 x.tick),.d (.int .i64 x.item),.d (.int .i64 x.name),.d (.int .i64 x.mark),.d (.bool x.acc)]) .agg:=by
 refine co aa Tryz.func107 rfl rfl hC.len fun ty=>?_;simp only [Tryz.ntmps107,aR,aM,Nat.reduceAdd,Nat.reduceSub,aJ,aH,an,aW]
 repeat' (first|((with_reducible first|(refine hK _ ?_;clear hK K)|refine aj fun U O=>?_|apply ah|(apply Z<;>(intro hc;try simp at hc;try omega)))<;>try simp only [go_sem])|(with_reducible first|apply ag|(refine O _ ?_;clear O U)|refine kN o7 fun K hK=>?_|refine kO fun K hK=>?_|refine aI ?_)|fail)
 refine CallK.cur (some 0) (uh (by assumption) (by omega) hl hs) rfl rfl rfl rfl rfl rfl ?_;rintro c2 _ ⟨x,hx,rfl,hC⟩;try simp only [a_,go_sem]
 obtain ⟨i,n⟩:=x
 have h1:=hx
 simp only
 repeat' (first|((with_reducible first|(refine hK _ ?_;clear hK K)|refine aj fun U O=>?_|apply ah|(apply Z<;>(intro hc;try simp at hc;try omega)))<;>try simp only [go_sem])|(with_reducible first|apply ag|(refine O _ ?_;clear O U)|refine kN o7 fun K hK=>?_|refine kO fun K hK=>?_|refine aI ?_)|fail)
 refine CallK.cur (some 0) (be (by assumption) (by omega)) rfl rfl rfl rfl rfl rfl ?_;rintro c2 _ ⟨x,hx,rfl,hC⟩;try simp only [a_,go_sem]
 have h2:0≤x∧x≤3:=by omega
 repeat' (first|((with_reducible first|(refine hK _ ?_;clear hK K)|refine aj fun U O=>?_|apply ah|(apply Z<;>(intro hc;try simp at hc;try omega)))<;>try simp only [go_sem])|(with_reducible first|apply ag|(refine O _ ?_;clear O U)|refine kN o7 fun K hK=>?_|refine kO fun K hK=>?_|refine aI ?_)|fail)
 refine CallK.cur (some 0) (bI (by assumption) (by omega)) rfl rfl rfl rfl rfl rfl ?_;rintro c2 _ ⟨x,hx,rfl,hC⟩;try simp only [a_,go_sem]
 repeat' (first|((with_reducible first|(refine hK _ ?_;clear hK K)|refine aj fun U O=>?_|apply ah|(apply Z<;>(intro hc;try simp at hc;try omega)))<;>try simp only [go_sem])|(with_reducible first|apply ag|(refine O _ ?_;clear O U)|refine kN o7 fun K hK=>?_|refine kO fun K hK=>?_|refine aI ?_)|fail)
 refine cE (id:=0) (xs:=[.d (.int .i64 _),.d (.int .i64 _),.d (.int .i64 _),.d (.int .i64 _),.d (.bool _)]) _ rfl rfl (by simp [am,lk]) rfl (Cur.len (by assumption)) ⟨⟨_,_,_,_,_⟩,?_,rfl,Cur.mono (by assumption) (by omega)⟩
 exact ⟨rfl,h1,h2.1,h2.2⟩
end Go.Proofs.YtphakidbddamfaaGreat
