/-
  The score of a performance, and lists that are the same.
-/
import Derived.Test.YtphakidbddamfaaGreatZSg
import Derived.Test.YtphakidbddamfaaGreatZQh
import Derived.Test.YtphakidbddamfaaGreatZPt
import Derived.Test.YtphakidbddamfaaGreatZAw
import Derived.Test.YtphakidbddamfaaGreatZTk
import Derived.Test.YtphakidbddamfaaGreatZMc
import Derived.Test.YtphakidbddamfaaGreatZIu
set_option linter.unusedSimpArgs false
set_option linter.unusedVariables false
set_option maxHeartbeats 2000000
set_option maxRecDepth 100000
namespace Go.Proofs.YtphakidbddamfaaGreat
open Go.RowKit
theorem iX (c:CodeD) (p:PerfD) (f:Int) (hcf:CdFit 1048576 c) (hpf:PfFit 1048576 p) (h:bO c p f):FnEq Tryz.prog 44 [.agg c.cs,.agg p.cs,.d (.int .i64 f)] [.d (.int .i64 (bF c p f)),.d (.bool true)]:=by
 have h1:=ee c p f hcf hpf
 rw [aW h] at h1
 have h2:=d8 c p f h
 refine aN ae Tryz.func44 rfl rfl ?_;simp only [Tryz.ntmps44,aP,aK,Nat.reduceAdd,Nat.reduceSub,aV]
 repeat' (first|((with_reducible first|(apply hK;clear hK K)|refine ah fun U O=>?_|apply ag|(apply Z<;>(intro hc;try simp at hc;try omega)))<;>try simp only [go_sem])|(with_reducible first|apply aj|(apply O;clear O U)|refine kN yY fun K hK=>?_|refine kO fun K hK=>?_|refine aI ?_)|((with_reducible apply CallK.eq);(· with_reducible first|exact h1|exact h2);(· simp [RV.flat,D.sc,aa]);try simp only [go_sem])|fail)
 refine ak rfl rfl (by simp [am,lk]) ?_;rfl
theorem qX (l:List (List Int)) (hn:l.length≤1048576) (hs:∀ x ∈ l,x.length≤1048576):FnEq Tryz.prog 56 [.d (.lst 1 (l.map (ax 1 aa))),.d (.lst 1 (l.map (ax 1 aa)))] [.d (.bool true)]:=by
 refine aN ae Tryz.func56 rfl rfl ?_;simp only [Tryz.ntmps56,aP,aK,Nat.reduceAdd,Nat.reduceSub,aV]
 repeat' (first|((with_reducible first|(apply hK;clear hK K)|refine ah fun U O=>?_|apply ag|(apply Z<;>(intro hc;try simp at hc;try omega)))<;>try simp only [go_sem,ao,bne_self_eq_false])|(with_reducible first|apply aj|(apply O;clear O U)|refine kN nv fun K hK=>?_|refine kO fun K hK=>?_|refine aI ?_)|(with_reducible refine az nv ae ay (by kernel_rfl) (fun K hK=>?_))|(with_reducible refine aO ae ay (by kernel_rfl) ?_)|apply iB)
 refine aA [4,5,13,14,15,16,17,18,19,20,21,22,23,24,25,26] (fun k:Nat=>[(13,.d (.int .i64 (k:Int)))]) (fun k:Nat=>[]) 0 (fun k:Nat=>k≤l.length) (fun k:Nat=>l.length - k) 0 (Nat.zero_le _) (an [] (by simp [lk,ab]<;>omega)) ?_
 intro k hk
 simp only [bc,wipe,wl,bb,bx,rm,if_true,if_false,Nat.reduceEqDiff,Bool.false_eq_true,reduceCtorEq]
 by_cases hlt:k < l.length
 ·obtain ⟨x,hx⟩:∃ x,l[k]? = some x:=⟨_,List.getElem?_eq_getElem hlt⟩
  have hxl:=hs x (List.mem_of_getElem? hx)
  have hq:=qp x x hxl hxl
  rw [aW rfl] at hq
  repeat' (first|((with_reducible first|(apply hK;clear hK K)|refine ah fun U O=>?_|apply ag|(apply Z<;>(intro hc;try simp at hc;try omega)))<;>try simp only [go_sem,ao,ap,hx,ar,ax,hlt])|(with_reducible first|apply aj|(apply O;clear O U)|refine kN nv fun K hK=>?_|refine kO fun K hK=>?_|refine aI ?_)|((with_reducible first|apply CallK.eq|apply CallQ.eqs);(· with_reducible first|exact hq);(· first|exact rfl|(simp [RV.flat,D.sc,aa];done));try simp only [go_sem,ao,ap,hx,ar,ax,hlt])|(with_reducible refine az nv ae ay (by kernel_rfl) (fun K hK=>?_))|(with_reducible refine aO ae ay (by kernel_rfl) ?_)|apply iB)
  exact ⟨k + 1,by omega,by omega,(an [] (by simp [lk,ab]<;>omega))⟩
 ·repeat' (first|((with_reducible first|(apply hK;clear hK K)|refine ah fun U O=>?_|apply ag|(apply Z<;>(intro hc;try simp at hc;try omega)))<;>try simp only [go_sem,hlt])|(with_reducible first|apply aj|(apply O;clear O U)|refine kN nv fun K hK=>?_|refine kO fun K hK=>?_|refine aI ?_)|(with_reducible refine az nv ae ay (by kernel_rfl) (fun K hK=>?_))|(with_reducible refine aO ae ay (by kernel_rfl) ?_)|apply iB)
  refine ak rfl rfl (by simp [am,lk]) ?_;rfl
end Go.Proofs.YtphakidbddamfaaGreat
set_option linter.unusedSimpArgs false
set_option linter.unusedVariables false
set_option maxHeartbeats 2000000
set_option maxRecDepth 100000
namespace Go.Proofs.YtphakidbddamfaaGreat
open Go.RowKit
theorem wP {P:Program} {o:Oper} {s:AS} {KP:PV→Prop} {t t':TypeId} {x y:Operand} {k:IntKind} {a b:Int} (ho:o.op = .binOp .add t x y t') (hx:s.get x = .d (.int k a)) (hy:s.get y = .d (.int k b)) (hK:KP (.d (.int k (k.wrap (a + b))))):PQ P o s KP:=
 PQ.pure _ hK fun m X w ac hq=>⟨.int k (k.wrap (a + b)),fun u=>by
  have h1:=hq x
  have h2:=hq y
  rw [hx] at h1
  rw [hy] at h2
  have hr:(eqGuard .add t x y (.int k a) (.int k b) >>= fun _=>binOp .add t (.int k a) (.int k b)).run P u = .ok (.int k (k.wrap (a + b))) u:=by simp [go_sem]
  simp only [execOp,ho,h1.int,h2.int,Sem.run_bind] at hr ⊢
  simp only [hr,Result.andThen_ok,Sem.run_pure],.d _ _ (.int _ _)⟩
def wg (code:List (List D)):Prop:=∀ e,e ∈ code→∃ n:Int,e = [.int .u8 n]∧0≤n∧n≤255
def Cur (k:Nat) (cs:List D):Prop:=∃ (code:List (List D)) (a s:Int),cs = [.lst 1 code,.int .i64 a,.int .u64 s]∧wg code∧code.length≤9223372036854775807∧0≤a∧a≤k
theorem Cur.len {k:Nat} {cs:List D} (h:Cur k cs):cs.length = 3:=by obtain ⟨_,_,_,rfl,_⟩:=h;rfl
theorem Cur.mono {k k':Nat} {cs:List D} (h:Cur k cs) (hk:k≤k'):Cur k' cs:=by
 obtain ⟨code,a,s,h1,h2,h3,h4,h5⟩:=h
 exact ⟨code,a,s,h1,h2,h3,h4,by omega⟩
def dd {α:Type} (k:Nat) (p:α→Prop) (f:α→List RV):List D→List RV→Prop:=fun cs' rs=>∃ x,p x∧rs = f x∧Cur k cs'
abbrev mI (k:Nat) (p:Int→Prop):List D→List RV→Prop:=dd k p fun x=>[.d (.int .i64 x)]
theorem rM {k:Nat} {cs:List D} (hC:Cur k cs) (hk:k≤1099511627776):FnC Tryz.prog 153 3 [] cs (mI (k + 1) fun x=>0≤x∧x≤255):=by
 have hC':=hC
 obtain ⟨code,a,s,rfl,hB,hL,ha,hak⟩:=hC'
 refine cq ae Tryz.func153 rfl rfl hC.len fun ty=>?_;simp only [Tryz.ntmps153,aP,aK,Nat.reduceAdd,Nat.reduceSub,aH,aG,ao,aV]
 by_cases hlt:a < code.length
 ·obtain ⟨n,rfl⟩:∃ n:Nat,a = n:=⟨a.toNat,by omega⟩
  have hn:n < code.length:=by omega
  obtain ⟨b,hbn,hb0,hb1⟩:=hB code[n] (List.getElem_mem hn)
  have hgn:code[n]? = some [.int .u8 b]:=by rw [List.getElem?_eq_getElem hn,hbn]
  repeat' (first|((with_reducible first|(apply hK;clear hK K)|refine ah fun U O=>?_|apply ag|(apply Z<;>(intro hc;try simp at hc;try omega)))<;>try simp only [go_sem,hgn,hlt])|(with_reducible first|apply aj|(apply O;clear O U)|refine kN o8 fun K hK=>?_|refine kO fun K hK=>?_)|(with_reducible refine az o8 ae ay (by kernel_rfl) (fun K hK=>?_))|(with_reducible refine aO ae ay (by kernel_rfl) ?_)|with_reducible refine And.intro (by first|omega|(unfold jX;omega)|exact pV _) ?_|fail)
  all_goals (refine bN (id:=0) [_,_,_] rfl rfl (by simp [am,lk]) rfl rfl ⟨_,?_,rfl,code,_,_,rfl,hB,hL,?_,?_⟩<;>first|omega|exact l5 _)
 ·repeat' (first|((with_reducible first|(apply hK;clear hK K)|refine ah fun U O=>?_|apply ag|(apply Z<;>(intro hc;try simp at hc;try omega)))<;>try simp only [go_sem,hlt])|(with_reducible first|apply aj|(apply O;clear O U)|refine kN o8 fun K hK=>?_|refine kO fun K hK=>?_)|(with_reducible refine az o8 ae ay (by kernel_rfl) (fun K hK=>?_))|(with_reducible refine aO ae ay (by kernel_rfl) ?_)|with_reducible refine And.intro (by first|omega|(unfold jX;omega)|exact pV _) ?_|fail)
  all_goals (refine bN (id:=0) [_,_,_] rfl rfl (by simp [am,lk]) rfl rfl ⟨_,?_,rfl,code,_,_,rfl,hB,hL,?_,?_⟩<;>first|omega|exact l5 _)
theorem om {x n:Int} (hx:0≤x) (hn:0 < n):0≤x.tmod n∧x.tmod n < n:=⟨Int.tmod_nonneg n hx,Int.tmod_lt_of_pos x hn⟩
theorem a_ {k:Nat} {cs:List D} {n:Int} (hC:Cur k cs) (hk:k≤1099511627775):FnC Tryz.prog 108 3 [.int .i64 n] cs (mI (k + 2) fun x=>0≤x∧(x = 0∨x < n)):=by
 refine cq ae Tryz.func108 rfl rfl hC.len fun ty=>?_;simp only [Tryz.ntmps108,aP,aK,Nat.reduceAdd,Nat.reduceSub,aH,aG,ao,aV]
 repeat' (first|((with_reducible first|(apply hK;clear hK K)|refine ah fun U O=>?_|apply ag|(apply Z<;>(intro hc;try simp at hc;try omega)))<;>try simp only [go_sem])|(with_reducible first|apply aj|(apply O;clear O U)|refine kN yD fun K hK=>?_|refine kO fun K hK=>?_|refine aI ?_)|((first|refine CallK.cur (some 0) (rM (by assumption) (by omega)) rfl rfl rfl rfl rfl rfl ?_);rintro c2 _ ⟨x,hx,rfl,hC⟩;try simp only [aU,go_sem])|((first|refine CallK.cur (some 0) (rM (by assumption) (by omega)) rfl rfl rfl rfl rfl rfl ?_);rintro c2 _ ⟨x,hx,rfl,hC⟩;try simp only [aU,go_sem])|fail)
 all_goals refine bN (id:=0) _ rfl rfl (by simp [am,lk]) rfl (Cur.len (by assumption)) ⟨_,?_,rfl,Cur.mono (by assumption) (by omega)⟩
 ·omega
 ·rename_i z hz _;have:=om (x:=z * 256 + x) (n:=n) (by omega) (by omega);omega
 ·have:=om (x:=x) (n:=n) (by omega) (by omega);omega
theorem bQ {k:Nat} {cs:List D} {n:Int} (hC:Cur k cs) (hk:k≤1099511627775):FnC Tryz.prog 140 3 [.int .i64 n] cs (dd (k + 2) (fun _:Bool=>True) fun b=>[.d (.bool b)]):=by
 refine cq ae Tryz.func140 rfl rfl hC.len fun ty=>?_;simp only [Tryz.ntmps140,aP,aK,Nat.reduceAdd,Nat.reduceSub,aH,aG,ao,aV]
 repeat' (first|((with_reducible first|(apply hK;clear hK K)|refine ah fun U O=>?_|apply ag|(apply Z<;>(intro hc;try simp at hc;try omega)))<;>try simp only [go_sem])|(with_reducible first|apply aj|(apply O;clear O U)|refine kN x_ fun K hK=>?_|refine kO fun K hK=>?_|refine aI ?_)|((first|refine CallK.cur (some 0) (a_ (by assumption) (by omega)) rfl rfl rfl rfl rfl rfl ?_);rintro c2 _ ⟨x,hx,rfl,hC⟩;try simp only [aU,go_sem])|((first|refine CallK.cur (some 0) (a_ (by assumption) (by omega)) rfl rfl rfl rfl rfl rfl ?_);rintro c2 _ ⟨x,hx,rfl,hC⟩;try simp only [aU,go_sem])|fail)
 all_goals (refine bN (id:=0) _ rfl rfl (by simp [am,lk]) rfl (Cur.len (by assumption)) ⟨_,?_,rfl,Cur.mono (by assumption) (by omega)⟩;trivial)
theorem bv {k:Nat} {cs:List D} {l:List Int} (hC:Cur k cs) (hk:k≤1099511627775) (h0:0 < l.length) (hl:l.length≤1048576):FnC Tryz.prog 110 3 [.lst 1 (l.map aa)] cs (mI (k + 2) fun x=>x ∈ l):=by
 refine cq ae Tryz.func110 rfl rfl hC.len fun ty=>?_;simp only [Tryz.ntmps110,aP,aK,Nat.reduceAdd,Nat.reduceSub,aH,aG,ao,aV]
 repeat' (first|((with_reducible first|(apply hK;clear hK K)|refine ah fun U O=>?_|apply ag|(apply Z<;>(intro hc;try simp at hc;try omega)))<;>try simp only [go_sem])|(with_reducible first|apply aj|(apply O;clear O U)|refine kN wr fun K hK=>?_|refine kO fun K hK=>?_|refine aI ?_)|fail)
 refine CallK.cur (some 0) (a_ (by assumption) (by omega)) rfl rfl rfl rfl rfl rfl ?_;rintro c2 _ ⟨x,hx,rfl,hC⟩;try simp only [aU,go_sem]
 obtain ⟨i,rfl⟩:∃ i:Nat,x = i:=⟨x.toNat,by omega⟩
 have hi:i < l.length:=by omega
 have hg:l[i]? = some l[i]:=List.getElem?_eq_getElem hi
 repeat' (first|((with_reducible first|(apply hK;clear hK K)|refine ah fun U O=>?_|apply ag|(apply Z<;>(intro hc;try simp at hc;try omega)))<;>try simp only [go_sem,hg,ap,ar,aa])|(with_reducible first|apply aj|(apply O;clear O U)|refine kN wr fun K hK=>?_|refine kO fun K hK=>?_|refine aI ?_)|fail)
 all_goals (refine bN (id:=0) _ rfl rfl (by simp [am,lk]) rfl (Cur.len (by assumption)) ⟨_,?_,rfl,Cur.mono (by assumption) (by omega)⟩;exact List.getElem_mem hi)
end Go.Proofs.YtphakidbddamfaaGreat
namespace Go.Proofs.YtphakidbddamfaaGreat
open Go.ChangeShapes Go.WideShapes Go.ChangeAt Go.RowKit Go.Deep
def dg (n:Int):List D:=[.int .u8 n]
section
variable {H:Type} {enc:TypeId × Value→H} {w:World} {base:Nat} {spare:Nat→Bool} {held:Bool}
theorem OpenK.byte {P:Program} {t:TypeId} (ht:P.underlying t = some (.int .u8)):OpenK enc P w base spare held dg (fun n=>0≤n∧n≤255) t 1:=by
 refine ⟨fun _=>rfl,fun fuel cs y h=>?_⟩
 obtain ⟨n,rfl,_,hw⟩:=DataW.trod_int ht h
 have hw':(decide (IntKind.u8.min≤n) && decide (n≤IntKind.u8.max)) = true:=hw
 rw [Bool.and_eq_true,decide_eq_true_eq,decide_eq_true_eq] at hw'
 have e1:IntKind.u8.min = 0:=by decide
 have e2:IntKind.u8.max = 255:=by decide
 refine ⟨n,⟨by omega,by omega⟩,rfl,fun j d u hd hu=>?_⟩
 cases j with
 |zero=>simp [dg] at hd hu;subst hd hu;exact .int _ _
 |succ j=>simp [dg] at hd
set_option maxRecDepth 100000 in
theorem open_bytes:OpenK enc Tryz.prog w base spare held (ax 1 dg) (fun xs=>xs.length≤maxLen∧∀ x ∈ xs,0≤x∧x≤255) 72 1:=
 OpenK.slc (OpenK.byte Tryz.underlying5) Tryz.underlying72 (by kernel_rfl) (by decide)
end
theorem nW {xs:List Int} (h:∀ x ∈ xs,0≤x∧x≤255):wg (xs.map dg):=by
 intro e he
 obtain ⟨n,hn,rfl⟩:=List.mem_map.1 he
 exact ⟨n,rfl,h n hn⟩
theorem tq {xs:List Int} (h:∀ x ∈ xs,0≤x∧x≤255) (hn:xs.length≤9223372036854775807):Cur 0 [.lst 1 (xs.map dg),.int .i64 0,.int .u64 0]:=
 ⟨_,0,0,rfl,nW h,by simpa using hn,Int.le_refl _,Int.le_refl _⟩
end Go.Proofs.YtphakidbddamfaaGreat
set_option linter.unusedSimpArgs false
set_option linter.unusedVariables false
set_option maxHeartbeats 2000000
set_option maxRecDepth 100000
namespace Go.Proofs.YtphakidbddamfaaGreat
open Go.RowKit
theorem mv {k:Nat} {cs:List D} {l:List ByteArray} (hC:Cur k cs) (hk:k≤1099511627775) (h0:0 < l.length) (hl:l.length≤1048576):FnC Tryz.prog 197 3 [.lst 1 (l.map aX)] cs (dd (k + 2) (fun x=>x ∈ l) fun x=>[.d (.str x)]):=by
 refine cq ae Tryz.func197 rfl rfl hC.len fun ty=>?_;simp only [Tryz.ntmps197,aP,aK,Nat.reduceAdd,Nat.reduceSub,aH,aG,ao,aV]
 repeat' (first|((with_reducible first|(apply hK;clear hK K)|refine ah fun U O=>?_|apply ag|(apply Z<;>(intro hc;try simp at hc;try omega)))<;>try simp only [go_sem])|(with_reducible first|apply aj|(apply O;clear O U)|refine kN wk fun K hK=>?_|refine kO fun K hK=>?_|refine aI ?_)|fail)
 refine CallK.cur (some 0) (a_ (by assumption) (by omega)) rfl rfl rfl rfl rfl rfl ?_;rintro c2 _ ⟨x,hx,rfl,hC⟩;try simp only [aU,go_sem]
 obtain ⟨i,rfl⟩:∃ i:Nat,x = i:=⟨x.toNat,by omega⟩
 have hi:i < l.length:=by omega
 have hg:l[i]? = some l[i]:=List.getElem?_eq_getElem hi
 repeat' (first|((with_reducible first|(apply hK;clear hK K)|refine ah fun U O=>?_|apply ag|(apply Z<;>(intro hc;try simp at hc;try omega)))<;>try simp only [go_sem,hg,ap,ar,aX])|(with_reducible first|apply aj|(apply O;clear O U)|refine kN wk fun K hK=>?_|refine kO fun K hK=>?_|refine aI ?_)|fail)
 all_goals (refine bN (id:=0) _ rfl rfl (by simp [am,lk]) rfl (Cur.len (by assumption)) ⟨_,?_,rfl,Cur.mono (by assumption) (by omega)⟩;exact List.getElem_mem hi)
theorem iz {k:Nat} {cs:List D} (hC:Cur k cs) (hk:k≤1099511627775):FnC Tryz.prog 95 3 [] cs (mI (k + 2) fun x=>9≤x∧x≤401):=by
 refine cq ae Tryz.func95 rfl rfl hC.len fun ty=>?_;simp only [Tryz.ntmps95,aP,aK,Nat.reduceAdd,Nat.reduceSub,aH,aG,ao,aV]
 repeat' (first|((with_reducible first|(apply hK;clear hK K)|refine ah fun U O=>?_|apply ag|(apply Z<;>(intro hc;try simp at hc;try omega)))<;>try simp only [go_sem,aH,aG,aa])|(with_reducible first|apply aj|(apply O;clear O U)|refine kN y8 fun K hK=>?_|refine kO fun K hK=>?_|refine aI ?_)|((first|refine CallK.cur (some 0) (bv (l:=[10,80,100,160,200,400,401,9]) (by assumption) (by omega) (by simp) (by simp)) rfl rfl rfl rfl rfl rfl ?_);rintro c2 _ ⟨x,hx,rfl,hC⟩;try simp only [aU,go_sem,aH,aG,aa])|((first|refine CallK.cur (some 0) (bv (l:=[10,80,100,160,200,400,401,9]) (by assumption) (by omega) (by simp) (by simp)) rfl rfl rfl rfl rfl rfl ?_);rintro c2 _ ⟨x,hx,rfl,hC⟩;try simp only [aU,go_sem,aH,aG,aa])|fail)
 all_goals (refine bN (id:=0) _ rfl rfl (by simp [am,lk]) rfl (Cur.len (by assumption)) ⟨_,?_,rfl,Cur.mono (by assumption) (by omega)⟩;simp at hx;omega)
theorem n9 {k:Nat} {cs:List D} (hC:Cur k cs) (hk:k≤1099511627775):FnC Tryz.prog 206 3 [] cs (mI (k + 2) fun x=>3≤x∧x≤9):=by
 refine cq ae Tryz.func206 rfl rfl hC.len fun ty=>?_;simp only [Tryz.ntmps206,aP,aK,Nat.reduceAdd,Nat.reduceSub,aH,aG,ao,aV]
 repeat' (first|((with_reducible first|(apply hK;clear hK K)|refine ah fun U O=>?_|apply ag|(apply Z<;>(intro hc;try simp at hc;try omega)))<;>try simp only [go_sem,aH,aG,aa])|(with_reducible first|apply aj|(apply O;clear O U)|refine kN yv fun K hK=>?_|refine kO fun K hK=>?_|refine aI ?_)|((first|refine CallK.cur (some 0) (bv (l:=[3,3,4,5,5,7,9]) (by assumption) (by omega) (by simp) (by simp)) rfl rfl rfl rfl rfl rfl ?_);rintro c2 _ ⟨x,hx,rfl,hC⟩;try simp only [aU,go_sem,aH,aG,aa])|((first|refine CallK.cur (some 0) (bv (l:=[3,3,4,5,5,7,9]) (by assumption) (by omega) (by simp) (by simp)) rfl rfl rfl rfl rfl rfl ?_);rintro c2 _ ⟨x,hx,rfl,hC⟩;try simp only [aU,go_sem,aH,aG,aa])|fail)
 all_goals (refine bN (id:=0) _ rfl rfl (by simp [am,lk]) rfl (Cur.len (by assumption)) ⟨_,?_,rfl,Cur.mono (by assumption) (by omega)⟩;simp at hx;omega)
def rX (s:SlipsD):Prop:=-1≤s.falls∧s.falls≤10∧-1≤s.seconds∧s.seconds≤61∧-1≤s.other∧s.other≤501
theorem lF {k:Nat} {cs:List D} (hC:Cur k cs) (hk:k≤1000000000):FnC Tryz.prog 139 3 [] cs (dd (k + 6) rX fun s=>[.d (.int .i64 s.falls),.d (.int .i64 s.seconds),.d (.int .i64 s.other)]) .agg:=by
 refine cq ae Tryz.func139 rfl rfl hC.len fun ty=>?_;simp only [Tryz.ntmps139,aP,aK,Nat.reduceAdd,Nat.reduceSub,aH,aG,ao,aV]
 repeat' (first|((with_reducible first|(apply hK;clear hK K)|refine ah fun U O=>?_|apply ag|(apply Z<;>(intro hc;try simp at hc;try omega)))<;>try simp only [go_sem])|(with_reducible first|apply aj|(apply O;clear O U)|refine kN pd fun K hK=>?_|refine kO fun K hK=>?_|refine aI ?_)|fail)
 refine CallK.cur (some 0) (bv (l:=[0,0,1,2,3,5,9]) (by assumption) (by omega) (by simp) (by simp)) rfl rfl rfl rfl rfl rfl ?_;rintro c2 _ ⟨x,hx,rfl,hC⟩;try simp only [aU,go_sem]
 have h1:-1≤x∧x≤10:=by simp at hx;omega
 repeat' (first|((with_reducible first|(apply hK;clear hK K)|refine ah fun U O=>?_|apply ag|(apply Z<;>(intro hc;try simp at hc;try omega)))<;>try simp only [go_sem])|(with_reducible first|apply aj|(apply O;clear O U)|refine kN pd fun K hK=>?_|refine kO fun K hK=>?_|refine aI ?_)|fail)
 refine CallK.cur (some 0) (bv (l:=[0,0,1,5,6,60]) (by assumption) (by omega) (by simp) (by simp)) rfl rfl rfl rfl rfl rfl ?_;rintro c2 _ ⟨x,hx,rfl,hC⟩;try simp only [aU,go_sem]
 have h2:-1≤x∧x≤61:=by simp at hx;omega
 repeat' (first|((with_reducible first|(apply hK;clear hK K)|refine ah fun U O=>?_|apply ag|(apply Z<;>(intro hc;try simp at hc;try omega)))<;>try simp only [go_sem])|(with_reducible first|apply aj|(apply O;clear O U)|refine kN pd fun K hK=>?_|refine kO fun K hK=>?_|refine aI ?_)|fail)
 refine CallK.cur (some 0) (bv (l:=[0,0,50,100,500]) (by assumption) (by omega) (by simp) (by simp)) rfl rfl rfl rfl rfl rfl ?_;rintro c2 _ ⟨x,hx,rfl,hC⟩;try simp only [aU,go_sem]
 have h3:-1≤x∧x≤501:=by simp at hx;omega
 repeat' (first|((with_reducible first|(apply hK;clear hK K)|refine ah fun U O=>?_|apply ag|(apply Z<;>(intro hc;try simp at hc;try omega)))<;>try simp only [go_sem])|(with_reducible first|apply aj|(apply O;clear O U)|refine kN pd fun K hK=>?_|refine kO fun K hK=>?_|refine aI ?_)|fail)
 refine cG (id:=0) (xs:=[.d (.int .i64 _),.d (.int .i64 _),.d (.int .i64 _)]) _ rfl rfl (by simp [am,lk]) rfl (Cur.len (by assumption)) ⟨⟨_,_,_⟩,?_,rfl,Cur.mono (by assumption) (by omega)⟩
 exact ⟨h1.1,h1.2,h2.1,h2.2,h3.1,h3.2⟩
def wf (q:Int × Int):Prop:=-1≤q.1∧q.1≤1048576∧-1≤q.2∧q.2≤1048576
theorem uZ {k:Nat} {cs:List D} {l:List ItemD} (hC:Cur k cs) (hk:k≤1000000000) (hl:l.length≤1048576) (hs:∀ r ∈ l,ItFit 1048576 r):FnC Tryz.prog 152 3 [.lst 3 (l.map ItemD.dat)] cs (dd (k + 6) wf fun q=>[.d (.int .i64 q.1),.d (.int .i64 q.2)]):=by
 refine cq ae Tryz.func152 rfl rfl hC.len fun ty=>?_;simp only [Tryz.ntmps152,aP,aK,Nat.reduceAdd,Nat.reduceSub,aH,aG,ao,aV]
 by_cases h0:l.length = 0
 ·repeat' (first|((with_reducible first|(apply hK;clear hK K)|refine ah fun U O=>?_|apply ag|(apply Z<;>(intro hc;try simp at hc;try omega)))<;>try simp only [go_sem,h0])|(with_reducible first|apply aj|(apply O;clear O U)|refine kN mG fun K hK=>?_|refine kO fun K hK=>?_|refine aI ?_)|(refine xS rfl fun U O=>?_;simp only [go_sem,h0])|((first|refine CallK.cur (some 0) (a_ (by assumption) (by omega)) rfl rfl rfl rfl rfl rfl ?_);rintro c2 _ ⟨x,hx,rfl,hC⟩;try simp only [aU,go_sem,h0])|((first|refine CallK.cur (some 0) (a_ (by assumption) (by omega)) rfl rfl rfl rfl rfl rfl ?_);rintro c2 _ ⟨x,hx,rfl,hC⟩;try simp only [aU,go_sem,h0])|fail)
  all_goals (refine bN (id:=0) _ rfl rfl (by simp [am,lk]) rfl (Cur.len (by assumption)) ⟨(_,_),?_,rfl,Cur.mono (by assumption) (by omega)⟩;unfold wf;simp only;omega)
 ·repeat' (first|((with_reducible first|(apply hK;clear hK K)|refine ah fun U O=>?_|apply ag|(apply Z<;>(intro hc;try simp at hc;try omega)))<;>try simp only [go_sem,h0])|(with_reducible first|apply aj|(apply O;clear O U)|refine kN mG fun K hK=>?_|refine kO fun K hK=>?_|refine aI ?_)|(refine xS rfl fun U O=>?_;simp only [go_sem,h0])|fail)
  all_goals first
   |(exfalso;omega)
   |(exfalso;simp [hc] at h0;done)
   |skip
  refine CallK.cur (some 0) (bQ (by assumption) (by omega)) rfl rfl rfl rfl rfl rfl ?_;rintro c2 _ ⟨x,hx,rfl,hC⟩;try simp only [aU,go_sem]
  cases x
  ·repeat' (first|((with_reducible first|(apply hK;clear hK K)|refine ah fun U O=>?_|apply ag|(apply Z<;>(intro hc;try simp at hc;try omega)))<;>try simp only [go_sem])|(with_reducible first|apply aj|(apply O;clear O U)|refine kN mG fun K hK=>?_|refine kO fun K hK=>?_|refine aI ?_)|(refine xS rfl fun U O=>?_;simp only [go_sem])|fail)
   refine CallK.cur (some 0) (a_ (by assumption) (by omega)) rfl rfl rfl rfl rfl rfl ?_;rintro c2 _ ⟨x,hx,rfl,hC⟩;try simp only [aU,go_sem]
   obtain ⟨i,rfl⟩:∃ i:Nat,x = i:=⟨x.toNat,by omega⟩
   have hi:i < l.length:=by omega
   have hx:=List.getElem?_eq_getElem hi
   generalize l[i] = it at hx
   have hi0:(0:Int)≤(i:Int)∧(i:Int)≤1048576:=by omega
   obtain ⟨f1,f2,f3⟩:=hs it (List.mem_of_getElem? hx)
   repeat' (first|((with_reducible first|(apply hK;clear hK K)|refine ah fun U O=>?_|apply ag|(apply Z<;>(intro hc;try simp at hc;try omega)))<;>try simp only [go_sem,ap,hx,ar,ItemD.dat,hi])|(with_reducible first|apply aj|(apply O;clear O U)|refine kN mG fun K hK=>?_|refine kO fun K hK=>?_|refine aI ?_)|(refine xS rfl fun U O=>?_;simp only [go_sem,ap,hx,ar,ItemD.dat,hi])|((first|refine CallK.cur (some 0) (a_ (by assumption) (by omega)) rfl rfl rfl rfl rfl rfl ?_);rintro c2 _ ⟨x,hx,rfl,hC⟩;try simp only [aU,go_sem,ap,hx,ar,ItemD.dat,hi])|((first|refine CallK.cur (some 0) (a_ (by assumption) (by omega)) rfl rfl rfl rfl rfl rfl ?_);rintro c2 _ ⟨x,hx,rfl,hC⟩;try simp only [aU,go_sem,ap,hx,ar,ItemD.dat,hi])|fail)
   all_goals (refine bN (id:=0) _ rfl rfl (by simp [am,lk]) rfl (Cur.len (by assumption)) ⟨(_,_),?_,rfl,Cur.mono (by assumption) (by omega)⟩;exact ⟨Int.le_trans (by decide) hi0.1,hi0.2,by simp only;omega,by simp only;omega⟩)
  ·repeat' (first|((with_reducible first|(apply hK;clear hK K)|refine ah fun U O=>?_|apply ag|(apply Z<;>(intro hc;try simp at hc;try omega)))<;>try simp only [go_sem])|(with_reducible first|apply aj|(apply O;clear O U)|refine kN mG fun K hK=>?_|refine kO fun K hK=>?_|refine aI ?_)|(refine xS rfl fun U O=>?_;simp only [go_sem])|((first|refine CallK.cur (some 0) (a_ (by assumption) (by omega)) rfl rfl rfl rfl rfl rfl ?_);rintro c2 _ ⟨x,hx,rfl,hC⟩;try simp only [aU,go_sem])|((first|refine CallK.cur (some 0) (a_ (by assumption) (by omega)) rfl rfl rfl rfl rfl rfl ?_);rintro c2 _ ⟨x,hx,rfl,hC⟩;try simp only [aU,go_sem])|fail)
   all_goals (refine bN (id:=0) _ rfl rfl (by simp [am,lk]) rfl (Cur.len (by assumption)) ⟨(_,_),?_,rfl,Cur.mono (by assumption) (by omega)⟩;unfold wf;simp only;omega)
def y9 (t:Int) (x:InquiryD):Prop:=x.tick = t∧wf (x.item,x.name)∧0≤x.mark∧x.mark≤3
theorem mX {k:Nat} {cs:List D} {l:List ItemD} {t:Int} (hC:Cur k cs) (hk:k≤1000000000) (hl:l.length≤1048576) (hs:∀ r ∈ l,ItFit 1048576 r):FnC Tryz.prog 107 3 [.lst 3 (l.map ItemD.dat),.int .i64 t] cs (dd (k + 10) (y9 t) fun x=>[.d (.int .i64 x.tick),.d (.int .i64 x.item),.d (.int .i64 x.name),.d (.int .i64 x.mark),.d (.bool x.acc)]) .agg:=by
 refine cq ae Tryz.func107 rfl rfl hC.len fun ty=>?_;simp only [Tryz.ntmps107,aP,aK,Nat.reduceAdd,Nat.reduceSub,aH,aG,ao,aV]
 repeat' (first|((with_reducible first|(apply hK;clear hK K)|refine ah fun U O=>?_|apply ag|(apply Z<;>(intro hc;try simp at hc;try omega)))<;>try simp only [go_sem])|(with_reducible first|apply aj|(apply O;clear O U)|refine kN pj fun K hK=>?_|refine kO fun K hK=>?_|refine aI ?_)|fail)
 refine CallK.cur (some 0) (uZ (by assumption) (by omega) hl hs) rfl rfl rfl rfl rfl rfl ?_;rintro c2 _ ⟨x,hx,rfl,hC⟩;try simp only [aU,go_sem]
 obtain ⟨i,n⟩:=x
 have h1:=hx
 simp only
 repeat' (first|((with_reducible first|(apply hK;clear hK K)|refine ah fun U O=>?_|apply ag|(apply Z<;>(intro hc;try simp at hc;try omega)))<;>try simp only [go_sem])|(with_reducible first|apply aj|(apply O;clear O U)|refine kN pj fun K hK=>?_|refine kO fun K hK=>?_|refine aI ?_)|fail)
 refine CallK.cur (some 0) (a_ (by assumption) (by omega)) rfl rfl rfl rfl rfl rfl ?_;rintro c2 _ ⟨x,hx,rfl,hC⟩;try simp only [aU,go_sem]
 have h2:0≤x∧x≤3:=by omega
 repeat' (first|((with_reducible first|(apply hK;clear hK K)|refine ah fun U O=>?_|apply ag|(apply Z<;>(intro hc;try simp at hc;try omega)))<;>try simp only [go_sem])|(with_reducible first|apply aj|(apply O;clear O U)|refine kN pj fun K hK=>?_|refine kO fun K hK=>?_|refine aI ?_)|fail)
 refine CallK.cur (some 0) (bQ (by assumption) (by omega)) rfl rfl rfl rfl rfl rfl ?_;rintro c2 _ ⟨x,hx,rfl,hC⟩;try simp only [aU,go_sem]
 repeat' (first|((with_reducible first|(apply hK;clear hK K)|refine ah fun U O=>?_|apply ag|(apply Z<;>(intro hc;try simp at hc;try omega)))<;>try simp only [go_sem])|(with_reducible first|apply aj|(apply O;clear O U)|refine kN pj fun K hK=>?_|refine kO fun K hK=>?_|refine aI ?_)|fail)
 refine cG (id:=0) (xs:=[.d (.int .i64 _),.d (.int .i64 _),.d (.int .i64 _),.d (.int .i64 _),.d (.bool _)]) _ rfl rfl (by simp [am,lk]) rfl (Cur.len (by assumption)) ⟨⟨_,_,_,_,_⟩,?_,rfl,Cur.mono (by assumption) (by omega)⟩
 exact ⟨rfl,h1,h2.1,h2.2⟩
end Go.Proofs.YtphakidbddamfaaGreat
