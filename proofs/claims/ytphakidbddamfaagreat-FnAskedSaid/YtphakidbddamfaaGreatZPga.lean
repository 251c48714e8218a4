/-
  Programmes: whether one is good: the reference's test, in the abstract machine: it answers something.
-/
import Derived.Test.YtphakidbddamfaaGreatZPg
set_option linter.unusedSimpArgs false
set_option linter.unusedVariables false
set_option maxHeartbeats 2000000
set_option maxRecDepth 100000
namespace Go.Proofs.YtphakidbddamfaaGreat
open Go.RowKit
def kr (c:CodeD) (nm:ByteArray):Int:=match c.elements[(bL c nm).toNat]? with
 |some x=>if bL c nm < 0 then -1 else x.family
 |none=>-1
theorem pN {c:CodeD} {nm:ByteArray} (h:bL c nm < 0):kr c nm = -1:=by
 unfold kr
 split
 ·rw [if_pos h]
 ·rfl
theorem rD {c:CodeD} {nm:ByteArray} {x:ElementD} (h:0≤bL c nm) (hx:c.elements[(bL c nm).toNat]? = some x):kr c nm = x.family:=by
 unfold kr;rw [hx];simp only;rw [if_neg (by omega)]
theorem wt {c:CodeD} (hcd:CodeOk c) (nm:ByteArray):-1≤kr c nm∧kr c nm≤4:=by
 by_cases h:0≤bL c nm
 ·obtain ⟨x,hx,_⟩:=f_ h
  rw [rD h hx]
  obtain ⟨_,h1,h2,_⟩:=hcd.1 _ _ hx
  omega
 ·rw [pN (by omega)];omega
theorem CodeOk.el {c:CodeD} (h:CodeOk c):c.elements.length≤24∧c.limits.length = 5:=⟨h.2.2.2.1,h.2.2.2.2.1⟩
theorem rv (c:CodeD) (x:ItemD) (hcd:CodeOk c) {nm:ByteArray} (hn:x.names[0]? = some nm):FnEq Tryz.prog 259 [.agg c.cs,.agg [.d (.lst 1 (x.names.map aZ)),.d (.lst 1 (x.marks.map ab)),.d (.bool x.late)]] [.d (.int .i64 (kr c nm))]:=by
 refine aO aa Tryz.func259 rfl rfl ?_;simp only [Tryz.ntmps259,aR,aM,Nat.reduceAdd,Nat.reduceSub,aW]
 have hcl:=hcd.el
 have hf:=gz c nm (by omega)
 have hlt:=qr c nm
 have h0:0 < x.names.length:=(List.getElem?_eq_some_iff.1 hn).1
 by_cases h:bL c nm < 0
 ·rw [pN h]
  repeat' (first|((with_reducible first|(refine hK _ ?_;clear hK K)|refine aj fun U O=>?_|apply ah|(apply Z<;>(intro hc;try simp at hc;try omega)))<;>try simp only [go_sem,h,h0,ap,hn,aq,aZ])|(with_reducible first|apply ag|(refine O _ ?_;clear O U)|refine kN oU fun K hK=>?_|refine kO fun K hK=>?_|refine aI ?_)|((with_reducible first|apply CallK.eq|apply CallQ.eqs);(· with_reducible first|exact hf);(· first|exact rfl|(simp [RV.flat,D.sc,ab];done));try simp only [go_sem,h,h0,ap,hn,aq,aZ])|(with_reducible refine az oU aa ax (by kernel_rfl) (fun K hK=>?_))|(with_reducible refine aN aa ax (by kernel_rfl) ?_)|fail)
  all_goals first
   |(exfalso;omega)
   |(refine ak rfl rfl (by simp [am,lk]) ?_;rfl)
 ·obtain ⟨e,he,_⟩:=f_ (c:=c) (nm:=nm) (by omega)
  rw [rD (by omega) he]
  generalize bL c nm = f at *
  have hfl:f.toNat < c.elements.length:=by omega
  repeat' (first|((with_reducible first|(refine hK _ ?_;clear hK K)|refine aj fun U O=>?_|apply ah|(apply Z<;>(intro hc;try simp at hc;try omega)))<;>try simp only [go_sem,h,h0,hfl,ap,hn,he,aq,aZ,ElementD.dat])|(with_reducible first|apply ag|(refine O _ ?_;clear O U)|refine kN oU fun K hK=>?_|refine kO fun K hK=>?_|refine aI ?_)|((with_reducible first|apply CallK.eq|apply CallQ.eqs);(· with_reducible first|exact hf);(· first|exact rfl|(simp [RV.flat,D.sc,ab];done));try simp only [go_sem,h,h0,hfl,ap,hn,he,aq,aZ,ElementD.dat])|(with_reducible refine az oU aa ax (by kernel_rfl) (fun K hK=>?_))|(with_reducible refine aN aa ax (by kernel_rfl) ?_)|fail)
  all_goals first
   |(exfalso;omega)
   |(refine ak rfl rfl (by simp [am,lk]) ?_;rfl)
theorem ry (c:CodeD) (l:List ItemD) (hcd:CodeOk c) (hv:ItsOk l):FnOK Tryz.prog 248 [.agg c.cs,.d (.lst 3 (l.map ItemD.dat))] (fun rs=>∃ xs:List Int,(xs.length = 5∧∀ x ∈ xs,0≤x∧x≤1000)∧rs = [.row 3 1 (xs.map ab)]):=by
 refine aO aa Tryz.func248 rfl rfl ?_;simp only [Tryz.ntmps248,aR,aM,Nat.reduceAdd,Nat.reduceSub,aW]
 have hn:=hv.1
 have hz:(List.replicate 5 [D.int .i64 0]) = (List.replicate 5 (0:Int)).map ab:=rfl
 repeat' (first|((with_reducible first|(refine hK _ ?_;clear hK K)|refine aj fun U O=>?_|apply ah|(apply Z<;>(intro hc;try simp at hc;try omega)))<;>try simp only [go_sem])|(with_reducible first|apply ag|(refine O _ ?_;clear O U)|refine kN o_ fun K hK=>?_|refine kO fun K hK=>?_|refine aI ?_)|apply iB)
 refine aD [4,7,8,12,13,14,15,16,17,18,19,20,21,22,23,24,25,26,27] (fun q:Nat × List Int=>[(12,.d (.int .i64 (q.1:Int))),(5,.row 1 q.2.length),(2,.bptr 0 0)]) (fun q=>[(0,.box 42 c.cs),(1,.row 3 1 (q.2.map ab))]) 2 (fun q=>q.1≤l.length∧q.2.length = 5∧∀ x ∈ q.2,0≤x∧x≤q.1) (fun q=>l.length - q.1) (0,List.replicate 5 0) ⟨by simp,rfl,fun x hx=>by rw [List.eq_of_mem_replicate hx];simp⟩ (ao [] (by simp [lk,ae,hz]<;>omega)) ?_
 rintro ⟨k,xs⟩ ⟨hk,hx5,hxb⟩
 simp only [bi,wipe,wl,bh,bw,rm,if_true,if_false,Nat.reduceEqDiff,Bool.false_eq_true,reduceCtorEq]
 simp only at hk hx5 hxb
 by_cases hlt:k < l.length
 ·have hx:=List.getElem?_eq_getElem hlt
  generalize l[k] = x at hx
  obtain ⟨n1,n3⟩:=hv.names hx
  obtain ⟨nm,hnm⟩:∃ nm,x.names[0]? = some nm:=⟨_,List.getElem?_eq_getElem (by omega)⟩
  have hf:=rv c x hcd hnm
  have hb:=wt hcd nm
  generalize kr c nm = f at hf hb
  by_cases hf0:0≤f
  ·obtain ⟨i,rfl⟩:∃ i:Nat,f = i:=⟨f.toNat,by omega⟩
   have hi5:i < xs.length:=by omega
   obtain ⟨v,hxv⟩:∃ v,xs[i]? = some v:=⟨_,List.getElem?_eq_getElem hi5⟩
   have hvb:=hxb v (List.mem_of_getElem? hxv)
   have bj:(List.map ab xs).set i [D.int .i64 (v + 1)] = List.map ab (xs.set i (v + 1)):=by rw [List.map_set];rfl
   repeat' (first|((with_reducible first|(refine hK _ ?_;clear hK K)|refine aj fun U O=>?_|apply ah|(apply Z<;>(intro hc;try simp at hc;try omega)))<;>try simp only [go_sem,hlt,hf0,hi5,hxv,bj,cl,ap,hx,aq,ItemD.dat,ab])|(with_reducible first|apply ag|(refine O _ ?_;clear O U)|refine kN o_ fun K hK=>?_|refine kO fun K hK=>?_|refine aI ?_)|((with_reducible apply CallK.eq);(· with_reducible first|exact hf);(· simp [RV.flat,D.sc,ab]);try simp only [go_sem,hlt,hf0,hi5,hxv,bj,cl,ap,hx,aq,ItemD.dat,ab])|apply iB)
   all_goals first
    |(exfalso;omega)
    |exact ⟨(k + 1,xs.set i (v + 1)),⟨by simp only;omega,by simp only [cl];omega,fun y hy=>by
      rcases List.mem_or_eq_of_mem_set hy with h|h
      ·have:=hxb y h;simp only;omega
      ·subst h;simp only;omega⟩,by simp only;omega,(ao [] (by simp [lk,ae,bj,cl,-List.map_set]<;>omega))⟩
  ·repeat' (first|((with_reducible first|(refine hK _ ?_;clear hK K)|refine aj fun U O=>?_|apply ah|(apply Z<;>(intro hc;try simp at hc;try omega)))<;>try simp only [go_sem,hlt,hf0,ap,hx,aq,ItemD.dat])|(with_reducible first|apply ag|(refine O _ ?_;clear O U)|refine kN o_ fun K hK=>?_|refine kO fun K hK=>?_|refine aI ?_)|((with_reducible apply CallK.eq);(· with_reducible first|exact hf);(· simp [RV.flat,D.sc,ab]);try simp only [go_sem,hlt,hf0,ap,hx,aq,ItemD.dat])|apply iB)
   all_goals first
    |(exfalso;omega)
    |exact ⟨(k + 1,xs),⟨by simp only;omega,hx5,fun y hy=>by have:=hxb y hy;simp only;omega⟩,by simp only;omega,(ao [] (by simp [lk,ae]<;>omega))⟩
 ·repeat' (first|((with_reducible first|(refine hK _ ?_;clear hK K)|refine aj fun U O=>?_|apply ah|(apply Z<;>(intro hc;try simp at hc;try omega)))<;>try simp only [go_sem,hlt])|(with_reducible first|apply ag|(refine O _ ?_;clear O U)|refine kN o_ fun K hK=>?_|refine kO fun K hK=>?_|refine aI ?_)|apply iB)
  refine ak rfl (by simp only [bl,bn,ae,lk,an,aM,List.length_append,List.length_take,if_true,if_false,Nat.reduceEqDiff,Nat.reduceBEq,Bool.false_eq_true,Option.some.injEq];rfl) (by simp [am,lk]) ?_
  exact ⟨xs,⟨hx5,fun y hy=>by have:=hxb y hy;omega⟩,rfl⟩
theorem ul (c:CodeD) (l:List ItemD) (x:ItemD) (nm:ByteArray) (rule:Int) (hcd:CodeOk c) (hv:ItsOk l) (hx:x.names.length≤3):FnOK Tryz.prog 260 [.agg c.cs,.d (.lst 3 (l.map ItemD.dat)),.agg [.d (.lst 1 (x.names.map aZ)),.d (.lst 1 (x.marks.map ab)),.d (.bool x.late)],.d (.str nm),.d (.int .i64 rule)] p5:=by
 refine aO aa Tryz.func260 rfl rfl ?_;simp only [Tryz.ntmps260,aR,aM,Nat.reduceAdd,Nat.reduceSub,aW]
 have hcl:=hcd.el
 have hf:=gz c nm (by omega)
 have hlt:=qr c nm
 have hel:0≤bL c nm→∃ e,c.elements[(bL c nm).toNat]? = some e:=fun h=>let ⟨e,he,_⟩:=f_ h;⟨e,he⟩
 have hn:=hv.1
 generalize bL c nm = f at *
 by_cases h:0≤f
 ·obtain ⟨e,he⟩:=hel h
  have hfl:f.toNat < c.elements.length:=by omega
  repeat' (first|((with_reducible first|(refine hK _ ?_;clear hK K)|refine aj fun U O=>?_|apply ah|(apply Z<;>(intro hc;try simp at hc;try omega)))<;>try simp only [go_sem,h,hfl,ap,he,aq,aZ,ElementD.dat,an])|(with_reducible first|apply ag|(refine O _ ?_;clear O U)|refine kN o8 fun K hK=>?_|refine kO fun K hK=>?_|refine aI ?_)|(refine xS rfl fun U O=>?_;simp only [go_sem,h,hfl,ap,he,aq,aZ,ElementD.dat,an])|((with_reducible apply CallK.eq);(· with_reducible first|exact hf);(· simp [RV.flat,D.sc,ab]);try simp only [go_sem,h,hfl,ap,he,aq,aZ,ElementD.dat,an])|fail)
  all_goals first
   |(exfalso;omega)
   |(refine ak rfl rfl (by simp [am,lk]) ?_;exact ⟨_,rfl⟩)
   |skip
  all_goals
   refine CallK.of (mz l nm (by omega) (fun i y hy=>by have:=hv.names hy;omega)) ?_;rintro _ ⟨a,b,rfl⟩;refine ⟨(fun h=>by cases h),?_⟩;try simp only [go_sem]
   repeat' (first|((with_reducible first|(refine hK _ ?_;clear hK K)|refine aj fun U O=>?_|apply ah|(apply Z<;>(intro hc;try simp at hc;try omega)))<;>try simp only [go_sem,h])|(with_reducible first|apply ag|(refine O _ ?_;clear O U)|refine kN o8 fun K hK=>?_|refine kO fun K hK=>?_|refine aI ?_)|(refine xS rfl fun U O=>?_;simp only [go_sem,h])|fail)
   all_goals first
    |(exfalso;omega)
    |(refine ak rfl rfl (by simp [am,lk]) ?_;exact ⟨_,rfl⟩)
 ·repeat' (first|((with_reducible first|(refine hK _ ?_;clear hK K)|refine aj fun U O=>?_|apply ah|(apply Z<;>(intro hc;try simp at hc;try omega)))<;>try simp only [go_sem,h,an])|(with_reducible first|apply ag|(refine O _ ?_;clear O U)|refine kN o8 fun K hK=>?_|refine kO fun K hK=>?_|refine aI ?_)|(refine xS rfl fun U O=>?_;simp only [go_sem,h,an])|((with_reducible apply CallK.eq);(· with_reducible first|exact hf);(· simp [RV.flat,D.sc,ab]);try simp only [go_sem,h,an])|fail)
  all_goals first
   |(exfalso;omega)
   |(refine ak rfl rfl (by simp [am,lk]) ?_;exact ⟨_,rfl⟩)
   |skip
  all_goals
   refine CallK.of (mz l nm (by omega) (fun i y hy=>by have:=hv.names hy;omega)) ?_;rintro _ ⟨a,b,rfl⟩;refine ⟨(fun h=>by cases h),?_⟩;try simp only [go_sem]
   repeat' (first|((with_reducible first|(refine hK _ ?_;clear hK K)|refine aj fun U O=>?_|apply ah|(apply Z<;>(intro hc;try simp at hc;try omega)))<;>try simp only [go_sem,h])|(with_reducible first|apply ag|(refine O _ ?_;clear O U)|refine kN o8 fun K hK=>?_|refine kO fun K hK=>?_|refine aI ?_)|(refine xS rfl fun U O=>?_;simp only [go_sem,h])|fail)
   all_goals first
    |(exfalso;omega)
    |(refine ak rfl rfl (by simp [am,lk]) ?_;exact ⟨_,rfl⟩)
theorem sD (c:CodeD) (l:List ItemD) (rule:Int) (hcd:CodeOk c) (hv:ItsOk l):FnOK Tryz.prog 250 [.agg c.cs,.d (.lst 3 (l.map ItemD.dat)),.d (.int .i64 rule)] p5:=by
 refine aO aa Tryz.func250 rfl rfl ?_;simp only [Tryz.ntmps250,aR,aM,Nat.reduceAdd,Nat.reduceSub,aW]
 have hn:=hv.1
 repeat' (first|((with_reducible first|(refine hK _ ?_;clear hK K)|refine aj fun U O=>?_|apply ah|(apply Z<;>(intro hc;try simp at hc;try omega)))<;>try simp only [go_sem])|(with_reducible first|apply ag|(refine O _ ?_;clear O U)|refine kN jb fun K hK=>?_|refine kO fun K hK=>?_|refine aI ?_)|apply iB)
 refine aD [6,8,10,13,14,15,16,17,18,19,20,21,22,23,24,25,26,27,28,29,30,31,32] (fun k:Nat=>[(13,.d (.int .i64 (k:Int))),(3,.bptr 0 0)]) (fun k:Nat=>[(0,.box 42 c.cs)]) 1 (fun k:Nat=>k≤l.length) (fun k:Nat=>l.length - k) 0 (Nat.zero_le _) (ao [] (by simp [lk,ae]<;>omega)) ?_
 intro k hk
 simp only [bi,wipe,wl,bh,bw,rm,if_true,if_false,Nat.reduceEqDiff,Bool.false_eq_true,reduceCtorEq]
 by_cases hlt:k < l.length
 ·have hx:=List.getElem?_eq_getElem hlt
  generalize l[k] = x at hx
  obtain ⟨n1,n3⟩:=hv.names hx
  repeat' (first|((with_reducible first|(refine hK _ ?_;clear hK K)|refine aj fun U O=>?_|apply ah|(apply Z<;>(intro hc;try simp at hc;try omega)))<;>try simp only [go_sem,hlt,ap,hx,aq,ItemD.dat])|(with_reducible first|apply ag|(refine O _ ?_;clear O U)|refine kN jb fun K hK=>?_|refine kO fun K hK=>?_|refine aI ?_)|apply iB)
  all_goals first
   |(exfalso;omega)
   |skip
  refine aD [6,10,20,21,22,23,24,25,26,27,28,29,30,31] (fun k:Nat=>[(20,.d (.int .i64 (k:Int))),(3,.bptr 0 0),(8,.bptr 1 0)]) (fun k:Nat=>[(0,.box 42 c.cs),(1,.box 143 [.d (.lst 1 (x.names.map aZ)),.d (.lst 1 (x.marks.map ab)),.d (.bool x.late)])]) 2 (fun k:Nat=>k≤x.names.length) (fun k:Nat=>x.names.length - k) 0 (Nat.zero_le _) (ao [] (by simp [lk,ae]<;>omega)) ?_
  intro j hj
  simp only [bi,wipe,wl,bh,bw,rm,if_true,if_false,Nat.reduceEqDiff,Bool.false_eq_true,reduceCtorEq]
  by_cases hlt2:j < x.names.length
  ·have hy:=List.getElem?_eq_getElem hlt2
   generalize x.names[j] = y at hy
   repeat' (first|((with_reducible first|(refine hK _ ?_;clear hK K)|refine aj fun U O=>?_|apply ah|(apply Z<;>(intro hc;try simp at hc;try omega)))<;>try simp only [go_sem,hlt2,ap,hy,aq,aZ])|(with_reducible first|apply ag|(refine O _ ?_;clear O U)|refine kN jb fun K hK=>?_|refine kO fun K hK=>?_|refine aI ?_)|apply iB)
   all_goals first
    |(exfalso;omega)
    |skip
   refine CallK.of (ul c l x y rule hcd hv (by omega)) ?_;rintro _ ⟨b,rfl⟩;refine ⟨(fun h=>by cases h),?_⟩;try simp only [go_sem]
   cases b
   ·repeat' (first|((with_reducible first|(refine hK _ ?_;clear hK K)|refine aj fun U O=>?_|apply ah|(apply Z<;>(intro hc;try simp at hc;try omega)))<;>try simp only [go_sem])|(with_reducible first|apply ag|(refine O _ ?_;clear O U)|refine kN jb fun K hK=>?_|refine kO fun K hK=>?_|refine aI ?_)|apply iB)
    refine ak rfl rfl (by simp [am,lk]) ?_;exact ⟨_,rfl⟩
   ·repeat' (first|((with_reducible first|(refine hK _ ?_;clear hK K)|refine aj fun U O=>?_|apply ah|(apply Z<;>(intro hc;try simp at hc;try omega)))<;>try simp only [go_sem])|(with_reducible first|apply ag|(refine O _ ?_;clear O U)|refine kN jb fun K hK=>?_|refine kO fun K hK=>?_|refine aI ?_)|apply iB)
    exact ⟨j + 1,by omega,by omega,(ao [] (by simp [lk,ae]<;>omega))⟩
  ·repeat' (first|((with_reducible first|(refine hK _ ?_;clear hK K)|refine aj fun U O=>?_|apply ah|(apply Z<;>(intro hc;try simp at hc;try omega)))<;>try simp only [go_sem,hlt2])|(with_reducible first|apply ag|(refine O _ ?_;clear O U)|refine kN jb fun K hK=>?_|refine kO fun K hK=>?_|refine aI ?_)|apply iB)
   all_goals first
    |(exfalso;omega)
    |exact ⟨k + 1,by omega,by omega,(ao [] (by simp [lk,ae]<;>omega))⟩
 ·repeat' (first|((with_reducible first|(refine hK _ ?_;clear hK K)|refine aj fun U O=>?_|apply ah|(apply Z<;>(intro hc;try simp at hc;try omega)))<;>try simp only [go_sem,hlt])|(with_reducible first|apply ag|(refine O _ ?_;clear O U)|refine kN jb fun K hK=>?_|refine kO fun K hK=>?_|refine aI ?_)|apply iB)
  refine ak rfl rfl (by simp [am,lk]) ?_;exact ⟨_,rfl⟩
theorem tO (c:CodeD) (l:List ItemD) (rule:Int) (hcd:CodeOk c) (hv:ItsOk l) (hs:∀ r ∈ l,ItFit 1048576 r):FnOK Tryz.prog 231 [.agg c.cs,.d (.lst 3 (l.map ItemD.dat)),.d (.int .i64 rule)] p5:=by
 refine aO aa Tryz.func231 rfl rfl ?_;simp only [Tryz.ntmps231,aR,aM,Nat.reduceAdd,Nat.reduceSub,aW]
 have hn:=hv.1
 have hcl:=hcd.el
 by_cases r1:rule = 1
 ·repeat' (first|((with_reducible first|(refine hK _ ?_;clear hK K)|refine aj fun U O=>?_|apply ah|(apply Z<;>(intro hc;try simp at hc;try omega)))<;>try simp only [go_sem,r1])|(with_reducible first|apply ag|(refine O _ ?_;clear O U)|refine kN fg fun K hK=>?_|refine kO fun K hK=>?_|refine aI ?_)|(refine xS rfl fun U O=>?_;simp only [go_sem,r1])|apply iB)
  all_goals first
   |(exfalso;omega)
   |(refine ak rfl rfl (by simp [am,lk]) ?_;exact ⟨_,rfl⟩)
 by_cases r3:rule = 3
 ·subst r3
  repeat' (first|((with_reducible first|(refine hK _ ?_;clear hK K)|refine aj fun U O=>?_|apply ah|(apply Z<;>(intro hc;try simp at hc;try omega)))<;>try simp only [go_sem])|(with_reducible first|apply ag|(refine O _ ?_;clear O U)|refine kN fg fun K hK=>?_|refine kO fun K hK=>?_|refine aI ?_)|(refine xS rfl fun U O=>?_;simp only [go_sem])|apply iB)
  refine CallK.of (tf l (by omega) hs) ?_;rintro _ ⟨b,rfl⟩;refine ⟨(fun h=>by cases h),?_⟩;try simp only [go_sem]
  repeat' (first|((with_reducible first|(refine hK _ ?_;clear hK K)|refine aj fun U O=>?_|apply ah|(apply Z<;>(intro hc;try simp at hc;try omega)))<;>try simp only [go_sem])|(with_reducible first|apply ag|(refine O _ ?_;clear O U)|refine kN fg fun K hK=>?_|refine kO fun K hK=>?_|refine aI ?_)|(refine xS rfl fun U O=>?_;simp only [go_sem])|apply iB)
  refine ak rfl rfl (by simp [am,lk]) ?_;exact ⟨_,rfl⟩
 by_cases r5:rule = 5
 ·subst r5
  repeat' (first|((with_reducible first|(refine hK _ ?_;clear hK K)|refine aj fun U O=>?_|apply ah|(apply Z<;>(intro hc;try simp at hc;try omega)))<;>try simp only [go_sem])|(with_reducible first|apply ag|(refine O _ ?_;clear O U)|refine kN fg fun K hK=>?_|refine kO fun K hK=>?_|refine aI ?_)|(refine xS rfl fun U O=>?_;simp only [go_sem])|apply iB)
  refine CallK.of (oF l (by omega)) ?_;rintro _ ⟨a,b,rfl⟩;refine ⟨(fun h=>by cases h),?_⟩;try simp only [go_sem]
  repeat' (first|((with_reducible first|(refine hK _ ?_;clear hK K)|refine aj fun U O=>?_|apply ah|(apply Z<;>(intro hc;try simp at hc;try omega)))<;>try simp only [go_sem])|(with_reducible first|apply ag|(refine O _ ?_;clear O U)|refine kN fg fun K hK=>?_|refine kO fun K hK=>?_|refine aI ?_)|(refine xS rfl fun U O=>?_;simp only [go_sem])|apply iB)
  all_goals (refine ak rfl rfl (by simp [am,lk]) ?_;exact ⟨_,rfl⟩)
 by_cases r6:rule = 6
 ·subst r6
  repeat' (first|((with_reducible first|(refine hK _ ?_;clear hK K)|refine aj fun U O=>?_|apply ah|(apply Z<;>(intro hc;try simp at hc;try omega)))<;>try simp only [go_sem])|(with_reducible first|apply ag|(refine O _ ?_;clear O U)|refine kN fg fun K hK=>?_|refine kO fun K hK=>?_|refine aI ?_)|(refine xS rfl fun U O=>?_;simp only [go_sem])|apply iB)
  refine CallK.of (ry c l hcd hv) ?_;rintro _ ⟨xs,⟨hx5,hxb⟩,rfl⟩;refine ⟨(fun h=>by cases h),?_⟩;try simp only [go_sem,an]
  repeat' (first|((with_reducible first|(refine hK _ ?_;clear hK K)|refine aj fun U O=>?_|apply ah|(apply Z<;>(intro hc;try simp at hc;try omega)))<;>try simp only [go_sem,an])|(with_reducible first|apply ag|(refine O _ ?_;clear O U)|refine kN fg fun K hK=>?_|refine kO fun K hK=>?_|refine aI ?_)|(refine xS rfl fun U O=>?_;simp only [go_sem,an])|apply iB)
  have hfl:¬ ((6:Int) = 1):=by decide
  refine aD [6,9,10,40,41,42,43,44,45,46,47,48,49,50,51,52] (fun k:Nat=>[(40,.d (.int .i64 (k:Int))),(3,.bptr 0 0),(38,.row 1 xs.length)]) (fun k:Nat=>[(0,.box 42 [.d (.lst 4 (c.elements.map ElementD.dat)),.d (.lst 1 (c.limits.map ab)),.d (.int .i64 c.repeats),.d (.int .i64 c.bonus),.d (.int .i64 c.keeps),.d (.int .i64 c.fall)]),(1,.row 3 1 (xs.map ab))]) 2 (fun k:Nat=>k≤xs.length) (fun k:Nat=>xs.length - k) 0 (Nat.zero_le _) (ao [] (by simp [lk,ae]<;>omega)) ?_
  intro k hk
  simp only [bi,wipe,wl,bh,bw,rm,if_true,if_false,Nat.reduceEqDiff,Bool.false_eq_true,reduceCtorEq]
  by_cases hlt:k < xs.length
  ·have hx:=List.getElem?_eq_getElem hlt
   have hy:=List.getElem?_eq_getElem (show k < c.limits.length by omega)
   generalize xs[k] = x at hx
   generalize c.limits[k] = y at hy
   have hk5:k < c.limits.length:=by omega
   repeat' (first|((with_reducible first|(refine hK _ ?_;clear hK K)|refine aj fun U O=>?_|apply ah|(apply Z<;>(intro hc;try simp at hc;try omega)))<;>try simp only [go_sem,hlt,hk5,ap,hx,hy,aq,ab])|(with_reducible first|apply ag|(refine O _ ?_;clear O U)|refine kN fg fun K hK=>?_|refine kO fun K hK=>?_|refine aI ?_)|(refine xS rfl fun U O=>?_;simp only [go_sem,hlt,hk5,ap,hx,hy,aq,ab])|apply iB)
   all_goals first
    |(exfalso;omega)
    |(refine ak rfl rfl (by simp [am,lk]) ?_;exact ⟨_,rfl⟩)
    |exact ⟨k + 1,by omega,by omega,(ao [] (by simp [lk,ae]<;>omega))⟩
  ·repeat' (first|((with_reducible first|(refine hK _ ?_;clear hK K)|refine aj fun U O=>?_|apply ah|(apply Z<;>(intro hc;try simp at hc;try omega)))<;>try simp only [go_sem,hlt])|(with_reducible first|apply ag|(refine O _ ?_;clear O U)|refine kN fg fun K hK=>?_|refine kO fun K hK=>?_|refine aI ?_)|(refine xS rfl fun U O=>?_;simp only [go_sem,hlt])|apply iB)
   all_goals (refine ak rfl rfl (by simp [am,lk]) ?_;exact ⟨_,rfl⟩)
 by_cases r8:rule = 8
 ·subst r8
  repeat' (first|((with_reducible first|(refine hK _ ?_;clear hK K)|refine aj fun U O=>?_|apply ah|(apply Z<;>(intro hc;try simp at hc;try omega)))<;>try simp only [go_sem])|(with_reducible first|apply ag|(refine O _ ?_;clear O U)|refine kN fg fun K hK=>?_|refine kO fun K hK=>?_|refine aI ?_)|(refine xS rfl fun U O=>?_;simp only [go_sem])|apply iB)
  refine CallK.of (uj l (by omega)) ?_;rintro _ ⟨b,rfl⟩;refine ⟨(fun h=>by cases h),?_⟩;try simp only [go_sem]
  repeat' (first|((with_reducible first|(refine hK _ ?_;clear hK K)|refine aj fun U O=>?_|apply ah|(apply Z<;>(intro hc;try simp at hc;try omega)))<;>try simp only [go_sem])|(with_reducible first|apply ag|(refine O _ ?_;clear O U)|refine kN fg fun K hK=>?_|refine kO fun K hK=>?_|refine aI ?_)|(refine xS rfl fun U O=>?_;simp only [go_sem])|apply iB)
  refine ak rfl rfl (by simp [am,lk]) ?_;exact ⟨_,rfl⟩
 repeat' (first|((with_reducible first|(refine hK _ ?_;clear hK K)|refine aj fun U O=>?_|apply ah|(apply Z<;>(intro hc;try simp at hc;try omega)))<;>try simp only [go_sem,r1,r3,r5,r6,r8])|(with_reducible first|apply ag|(refine O _ ?_;clear O U)|refine kN fg fun K hK=>?_|refine kO fun K hK=>?_|refine aI ?_)|(refine xS rfl fun U O=>?_;simp only [go_sem,r1,r3,r5,r6,r8])|apply iB)
 refine CallK.of (sD c l rule hcd hv) ?_;rintro _ ⟨b,rfl⟩;refine ⟨(fun h=>by cases h),?_⟩;try simp only [go_sem]
 repeat' (first|((with_reducible first|(refine hK _ ?_;clear hK K)|refine aj fun U O=>?_|apply ah|(apply Z<;>(intro hc;try simp at hc;try omega)))<;>try simp only [go_sem])|(with_reducible first|apply ag|(refine O _ ?_;clear O U)|refine kN fg fun K hK=>?_|refine kO fun K hK=>?_|refine aI ?_)|(refine xS rfl fun U O=>?_;simp only [go_sem])|apply iB)
 refine ak rfl rfl (by simp [am,lk]) ?_;exact ⟨_,rfl⟩
theorem ra (c:CodeD) (l:List ItemD) (hcd:CodeOk c) (hv:ItsOk l) (hs:∀ r ∈ l,ItFit 1048576 r):FnOK Tryz.prog 221 [.agg c.cs,.d (.lst 3 (l.map ItemD.dat))] (fun rs=>∃ xs:List Int,xs.length≤8∧rs = [.row 3 1 (xs.map ab)]):=by
 refine aO aa Tryz.func221 rfl rfl ?_;simp only [Tryz.ntmps221,aR,aM,Nat.reduceAdd,Nat.reduceSub,aW]
 repeat' (first|((with_reducible first|(refine hK _ ?_;clear hK K)|refine aj fun U O=>?_|apply ah|(apply Z<;>(intro hc;try simp at hc;try omega)))<;>try simp only [go_sem])|(with_reducible first|apply ag|(refine O _ ?_;clear O U)|refine kN mQ fun K hK=>?_|refine kO fun K hK=>?_|refine aI ?_)|apply iB)
 refine aD [4,5,6,7,8,9,10,11,12,13,14,15,16,17,18,19] (fun q:Nat × List Int=>[(6,.d (.int .i64 ((q.1:Int) + 1))),(5,.row 1 q.2.length),(2,.bptr 0 0)]) (fun q=>[(0,.box 42 c.cs),(1,.row 3 1 (q.2.map ab))]) 2 (fun q=>q.1≤8∧q.2.length≤q.1) (fun q=>8 - q.1) (0,[]) ⟨by simp,by simp⟩ (ao [] (by simp [lk,ae]<;>omega)) ?_
 rintro ⟨k,xs⟩ ⟨hk,hxl⟩
 simp only [bi,wipe,wl,bh,bw,rm,if_true,if_false,Nat.reduceEqDiff,Bool.false_eq_true,reduceCtorEq]
 simp only at hk hxl
 by_cases hlt:k < 8
 ·have h8:(k:Int) + 1≤8:=by omega
  have hsuc:(k:Int) + 1 + 1 = ((k + 1:Nat):Int) + 1:=by omega
  repeat' (first|((with_reducible first|(refine hK _ ?_;clear hK K)|refine aj fun U O=>?_|apply ah|(apply Z<;>(intro hc;try simp at hc;try omega)))<;>try simp only [go_sem,h8])|(with_reducible first|apply ag|(refine O _ ?_;clear O U)|refine kN mQ fun K hK=>?_|refine kO fun K hK=>?_|refine aI ?_)|apply iB)
  refine CallK.of (tO c l ((k:Int) + 1) hcd hv hs) ?_;rintro _ ⟨b,rfl⟩;refine ⟨(fun h=>by cases h),?_⟩;try simp only [go_sem]
  cases b
  ·repeat' (first|((with_reducible first|(refine hK _ ?_;clear hK K)|refine aj fun U O=>?_|apply ah|(apply Z<;>(intro hc;try simp at hc;try omega)))<;>try simp only [go_sem])|(with_reducible first|apply ag|(refine O _ ?_;clear O U)|refine kN mQ fun K hK=>?_|refine kO fun K hK=>?_|refine aI ?_)|apply iB)
   exact ⟨(k + 1,xs++[(k:Int) + 1]),⟨by simp only;omega,by simp;omega⟩,by simp only;omega,(ao [] (by simp [lk,ae,ab]<;>omega))⟩
  ·repeat' (first|((with_reducible first|(refine hK _ ?_;clear hK K)|refine aj fun U O=>?_|apply ah|(apply Z<;>(intro hc;try simp at hc;try omega)))<;>try simp only [go_sem])|(with_reducible first|apply ag|(refine O _ ?_;clear O U)|refine kN mQ fun K hK=>?_|refine kO fun K hK=>?_|refine aI ?_)|apply iB)
   exact ⟨(k + 1,xs),⟨by simp only;omega,by simp only;omega⟩,by simp only;omega,(ao [] (by simp [lk,ae]<;>omega))⟩
 ·have h8:¬ (k:Int) + 1≤8:=by omega
  repeat' (first|((with_reducible first|(refine hK _ ?_;clear hK K)|refine aj fun U O=>?_|apply ah|(apply Z<;>(intro hc;try simp at hc;try omega)))<;>try simp only [go_sem,h8])|(with_reducible first|apply ag|(refine O _ ?_;clear O U)|refine kN mQ fun K hK=>?_|refine kO fun K hK=>?_|refine aI ?_)|apply iB)
  refine ak rfl (by simp only [bl,bn,ae,lk,an,aM,List.length_append,List.length_take,if_true,if_false,Nat.reduceEqDiff,Nat.reduceBEq,Bool.false_eq_true,Option.some.injEq];rfl) (by simp [am,lk]) ?_
  exact ⟨xs,by omega,rfl⟩
theorem tl (c:CodeD) (l:List ItemD) (hcf:CdFit 9223372036854775807 c) (hn:l.length≤9223372036854775807) (hs:∀ r ∈ l,ItFit 9223372036854775807 r):FnEq Tryz.prog 220 [.agg c.cs,.d (.lst 3 (l.map ItemD.dat))] [.d (.bool (bP (CodeOk c∧ItsOk l)))]:=by
 refine aO aa Tryz.func220 rfl rfl ?_;simp only [Tryz.ntmps220,aR,aM,Nat.reduceAdd,Nat.reduceSub,aW]
 have h1:=oq c hcf
 have h2:=di l hn hs
 by_cases hcd:CodeOk c
 ·rw [aQ hcd] at h1
  by_cases hv:ItsOk l
  ·rw [aQ hv] at h2
   rw [aQ ⟨hcd,hv⟩]
   repeat' (first|((with_reducible first|(refine hK _ ?_;clear hK K)|refine aj fun U O=>?_|apply ah|(apply Z<;>(intro hc;try simp at hc;try omega)))<;>try simp only [go_sem])|(with_reducible first|apply ag|(refine O _ ?_;clear O U)|refine kN tM fun K hK=>?_|refine kO fun K hK=>?_|refine aI ?_)|(refine xS rfl fun U O=>?_;simp only [go_sem])|((with_reducible apply CallK.eq);(· with_reducible first|exact h1|exact h2);(· simp [RV.flat,D.sc,ab]);try simp only [go_sem])|fail)
   refine ak rfl rfl (by simp [am,lk]) ?_;rfl
  ·rw [aG hv] at h2
   rw [aG fun h=>hv h.2]
   repeat' (first|((with_reducible first|(refine hK _ ?_;clear hK K)|refine aj fun U O=>?_|apply ah|(apply Z<;>(intro hc;try simp at hc;try omega)))<;>try simp only [go_sem])|(with_reducible first|apply ag|(refine O _ ?_;clear O U)|refine kN tM fun K hK=>?_|refine kO fun K hK=>?_|refine aI ?_)|(refine xS rfl fun U O=>?_;simp only [go_sem])|((with_reducible apply CallK.eq);(· with_reducible first|exact h1|exact h2);(· simp [RV.flat,D.sc,ab]);try simp only [go_sem])|fail)
   refine ak rfl rfl (by simp [am,lk]) ?_;rfl
 ·rw [aG hcd] at h1
  rw [aG fun h=>hcd h.1]
  repeat' (first|((with_reducible first|(refine hK _ ?_;clear hK K)|refine aj fun U O=>?_|apply ah|(apply Z<;>(intro hc;try simp at hc;try omega)))<;>try simp only [go_sem])|(with_reducible first|apply ag|(refine O _ ?_;clear O U)|refine kN tM fun K hK=>?_|refine kO fun K hK=>?_|refine aI ?_)|(refine xS rfl fun U O=>?_;simp only [go_sem])|((with_reducible apply CallK.eq);(· with_reducible first|exact h1);(· simp [RV.flat,D.sc,ab]);try simp only [go_sem])|fail)
  refine ak rfl rfl (by simp [am,lk]) ?_;rfl
theorem uR (c:CodeD) (l:List ItemD) (hcf:CdFit 1048576 c) (hn:l.length≤1048576) (hs:∀ r ∈ l,ItFit 1048576 r):FnOK Tryz.prog 202 [.agg c.cs,.d (.lst 3 (l.map ItemD.dat))] (fun rs=>∃ b:Bool,(b = true→CodeOk c∧ItsOk l)∧rs = [.d (.bool b)]):=by
 refine aO aa Tryz.func202 rfl rfl ?_;simp only [Tryz.ntmps202,aR,aM,Nat.reduceAdd,Nat.reduceSub,aW]
 have h1:=tl c l (hcf.mono (by decide)) (by omega) (fun r hr=>(hs r hr).mono (by decide))
 by_cases h:CodeOk c∧ItsOk l
 ·rw [aQ h] at h1
  repeat' (first|((with_reducible first|(refine hK _ ?_;clear hK K)|refine aj fun U O=>?_|apply ah|(apply Z<;>(intro hc;try simp at hc;try omega)))<;>try simp only [go_sem])|(with_reducible first|apply ag|(refine O _ ?_;clear O U)|refine kN sU fun K hK=>?_|refine kO fun K hK=>?_|refine aI ?_)|(refine xS rfl fun U O=>?_;simp only [go_sem])|((with_reducible apply CallK.eq);(· with_reducible first|exact h1);(· simp [RV.flat,D.sc,ab]);try simp only [go_sem])|fail)
  refine CallK.of (ra c l h.1 h.2 hs) ?_;rintro _ ⟨xs,hxl,rfl⟩;refine ⟨(fun h=>by cases h),?_⟩;try simp only [go_sem,an]
  repeat' (first|((with_reducible first|(refine hK _ ?_;clear hK K)|refine aj fun U O=>?_|apply ah|(apply Z<;>(intro hc;try simp at hc;try omega)))<;>try simp only [go_sem,an])|(with_reducible first|apply ag|(refine O _ ?_;clear O U)|refine kN sU fun K hK=>?_|refine kO fun K hK=>?_|refine aI ?_)|(refine xS rfl fun U O=>?_;simp only [go_sem,an])|fail)
  all_goals (refine ak rfl rfl (by simp [am,lk]) ?_;exact ⟨_,fun _=>h,rfl⟩)
 ·rw [aG h] at h1
  repeat' (first|((with_reducible first|(refine hK _ ?_;clear hK K)|refine aj fun U O=>?_|apply ah|(apply Z<;>(intro hc;try simp at hc;try omega)))<;>try simp only [go_sem])|(with_reducible first|apply ag|(refine O _ ?_;clear O U)|refine kN sU fun K hK=>?_|refine kO fun K hK=>?_|refine aI ?_)|(refine xS rfl fun U O=>?_;simp only [go_sem])|((with_reducible apply CallK.eq);(· with_reducible first|exact h1);(· simp [RV.flat,D.sc,ab]);try simp only [go_sem])|fail)
  all_goals (refine ak rfl rfl (by simp [am,lk]) ?_;exact ⟨_,(fun h=>(by cases h)),rfl⟩)
end Go.Proofs.YtphakidbddamfaaGreat
