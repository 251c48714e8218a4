/-
  Scores of items in lists: the program's functions and the reference's, in the abstract machine.
-/
import Derived.Test.YtphakidbddamfaaGreatZSx
set_option linter.unusedSimpArgs false
set_option linter.unusedVariables false
set_option maxHeartbeats 2000000
set_option maxRecDepth 100000
namespace Go.Proofs.YtphakidbddamfaaGreat
open Go.RowKit
theorem oF {c:CodeD} {l:List ItemD} {G:List (List Int)} {k:Nat} {g:List Int} (hg:G[k]? = some g):eW c l G k = d7 c l k + gr c l k g:=by unfold eW;rw [List.getD_eq_getElem?_getD,hg];rfl
theorem qC (c:CodeD) (l:List ItemD) (m:MarksD) (k:Nat) (g:List Int) (hc:CodeOk c) (hl:ItsOk l) (hk:bX c l) (hlt:k < l.length) (hgx:m.grades[k]? = some g) (hg:ge g):FnEq Tryz.prog 217 [.agg c.cs,.d (.lst 3 (l.map ItemD.dat)),.agg m.cs,.d (.int .i64 (k:Int))] [.d (.int .i64 (eW c l m.grades k))]:=by
 have hgl:=(List.getElem?_eq_some_iff.1 hgx).1
 have h14:=hl.1
 have hib:=k9 c l k hc hl hk hlt
 have hpo:=p8 c l k g hc hl hk hlt hg
 have hb1:=l9 hc hl hk k
 have hb2:=nA hc hl hk (k:=k) hg
 rw [oF hgx]
 refine aN ae Tryz.func217 rfl rfl ?_;simp only [Tryz.ntmps217,aP,aK,Nat.reduceAdd,Nat.reduceSub,aV]
 generalize d7 c l k = a at hib hb1
 generalize gr c l k g = b at hpo hb2
 repeat' (first|((with_reducible first|(apply hK;clear hK K)|refine ah fun U O=>?_|apply ag|(apply Z<;>(intro hc;try simp at hc;try omega)))<;>try simp only [go_sem,ap,hgx,ar,ax,hgl])|(with_reducible first|apply aj|(apply O;clear O U)|refine kN wh fun K hK=>?_|refine kO fun K hK=>?_|refine aI ?_)|((with_reducible first|apply CallK.eq|apply CallQ.eqs);(· with_reducible first|exact hib|exact hpo);(· first|exact rfl|(simp [RV.flat,D.sc,aa];done));try simp only [go_sem,ap,hgx,ar,ax,hgl])|(with_reducible refine az wh ae ay (by kernel_rfl) (fun K hK=>?_))|(with_reducible refine aO ae ay (by kernel_rfl) ?_)|fail)
 all_goals first
  |(exfalso;omega)
  |(refine ak rfl rfl (by simp [am,lk]) ?_;rfl)
theorem wW (c:CodeD) (l:List ItemD) (k:Nat) (g:List Int) (hc:CodeOk c) (hl:ItsOk l) (hk:bX c l) (hlt:k < l.length) (hg:ge g):FnEq Tryz.prog 226 [.agg c.cs,.d (.lst 3 (l.map ItemD.dat)),.d (.int .i64 (k:Int)),.d (.lst 1 (g.map aa))] [.d (.int .i64 (d7 c l k + gr c l k g))]:=by
 have h14:=hl.1
 have hib:=oI c l k hc hl hk hlt
 have hpo:=rr c l k g hc hl hk hlt hg
 have hb1:=l9 hc hl hk k
 have hb2:=nA hc hl hk (k:=k) hg
 refine aN ae Tryz.func226 rfl rfl ?_;simp only [Tryz.ntmps226,aP,aK,Nat.reduceAdd,Nat.reduceSub,aV]
 generalize d7 c l k = a at hib hb1
 generalize gr c l k g = b at hpo hb2
 repeat' (first|((with_reducible first|(apply hK;clear hK K)|refine ah fun U O=>?_|apply ag|(apply Z<;>(intro hc;try simp at hc;try omega)))<;>try simp only [go_sem])|(with_reducible first|apply aj|(apply O;clear O U)|refine kN vZ fun K hK=>?_|refine kO fun K hK=>?_|refine aI ?_)|((with_reducible first|apply CallK.eq|apply CallQ.eqs);(· with_reducible first|exact hib|exact hpo);(· first|exact rfl|(simp [RV.flat,D.sc,aa];done));try simp only [go_sem])|(with_reducible refine az vZ ae ay (by kernel_rfl) (fun K hK=>?_))|(with_reducible refine aO ae ay (by kernel_rfl) ?_)|fail)
 all_goals first
  |(exfalso;omega)
  |(refine ak rfl rfl (by simp [am,lk]) ?_;rfl)
theorem tv (c:CodeD) (l:List ItemD) (m:MarksD) (k:Nat) (g:List Int) (hc:CodeOk c) (hl:ItsOk l) (hk:bX c l) (hlt:k < l.length) (hgx:m.grades[k]? = some g) (hg:ge g):FnEq Tryz.prog 214 [.agg c.cs,.d (.lst 3 (l.map ItemD.dat)),.agg m.cs,.d (.int .i64 (k:Int))] [.d (.int .i64 (eW c l m.grades k))]:=by
 have hgl:=(List.getElem?_eq_some_iff.1 hgx).1
 have h14:=hl.1
 have heo:=wW c l k g hc hl hk hlt hg
 rw [oF hgx]
 refine aN ae Tryz.func214 rfl rfl ?_;simp only [Tryz.ntmps214,aP,aK,Nat.reduceAdd,Nat.reduceSub,aV]
 generalize d7 c l k + gr c l k g = a at heo
 repeat' (first|((with_reducible first|(apply hK;clear hK K)|refine ah fun U O=>?_|apply ag|(apply Z<;>(intro hc;try simp at hc;try omega)))<;>try simp only [go_sem,ap,hgx,ar,ax,hgl])|(with_reducible first|apply aj|(apply O;clear O U)|refine kN wB fun K hK=>?_|refine kO fun K hK=>?_|refine aI ?_)|((with_reducible first|apply CallK.eq|apply CallQ.eqs);(· with_reducible first|exact heo);(· first|exact rfl|(simp [RV.flat,D.sc,aa];done));try simp only [go_sem,ap,hgx,ar,ax,hgl])|(with_reducible refine az wB ae ay (by kernel_rfl) (fun K hK=>?_))|(with_reducible refine aO ae ay (by kernel_rfl) ?_)|fail)
 all_goals first
  |(exfalso;omega)
  |(refine ak rfl rfl (by simp [am,lk]) ?_;rfl)
theorem ln (c:CodeD) (l:List ItemD) (G:List (List Int)) {k:Nat} (h:k < l.length):(cj c l G)[k]? = some (eW c l G k):=by unfold cj;rw [ap,List.getElem?_range h];rfl
theorem kh (c:CodeD) (l:List ItemD) (G:List (List Int)):(cj c l G).length = l.length:=by simp [cj]
theorem oS (c:CodeD) (l:List ItemD) (m:MarksD) (hc:CodeOk c) (hl:ItsOk l) (hk:bX c l) (hm:MarksOk m) (hml:m.grades.length = l.length):FnEq Tryz.prog 191 [.agg c.cs,.d (.lst 3 (l.map ItemD.dat)),.agg m.cs] [.row 3 1 ((cj c l m.grades).map aa)]:=by
 have h14:=hl.1
 have hsl:=kh c l m.grades
 refine aN ae Tryz.func191 rfl rfl ?_;simp only [Tryz.ntmps191,aP,aK,Nat.reduceAdd,Nat.reduceSub,aV]
 repeat' (first|((with_reducible first|(apply hK;clear hK K)|refine ah fun U O=>?_|apply ag|(apply Z<;>(intro hc;try simp at hc;try omega)))<;>try simp only [go_sem])|(with_reducible first|apply aj|(apply O;clear O U)|refine kN tB fun K hK=>?_|refine kO fun K hK=>?_|refine aI ?_)|apply iB)
 refine aA [6,7,8,12,13,14,15,16,17,18,19,20,21,22,23] (fun k:Nat=>[(12,.d (.int .i64 (k:Int))),(7,.row 2 k)]) (fun k:Nat=>[(0,.box 42 [.d (.lst 4 (c.elements.map ElementD.dat)),.d (.lst 1 (c.limits.map aa)),.d (.int .i64 c.repeats),.d (.int .i64 c.bonus),.d (.int .i64 c.keeps),.d (.int .i64 c.fall)]),(1,.box 45 [.d (.lst 1 (m.grades.map (ax 1 aa))),.d (.lst 1 (m.components.map (ax 1 aa)))]),(2,.row 3 1 (((cj c l m.grades).take k).map aa))]) 3 (fun k:Nat=>k≤l.length) (fun k:Nat=>l.length - k) 0 (Nat.zero_le _) (an [] (by simp [lk,ab,List.take_zero,aG]<;>omega)) ?_
 intro k hkl
 simp only [bc,wipe,wl,bb,bx,rm,if_true,if_false,Nat.reduceEqDiff,Bool.false_eq_true,reduceCtorEq]
 by_cases hlt:k < l.length
 ·have hgx:=List.getElem?_eq_getElem (show k < m.grades.length by omega)
  generalize m.grades[k] = g at hgx
  have hsc:=qC c l m k g hc hl hk hlt hgx (hm.grade hgx)
  have hgt0:=ln c l m.grades hlt
  have hsn:=iJ (f:=aa) hgt0
  have htl:(List.map aa (List.take k (cj c l m.grades))).length = k:=by simp;omega
  generalize eW c l m.grades k = sc at hsc hgt0 hsn
  repeat' (first|((with_reducible first|(apply hK;clear hK K)|refine ah fun U O=>?_|apply ag|(apply Z<;>(intro hc;try simp at hc;try omega)))<;>try simp only [go_sem,htl])|(with_reducible first|apply aj|(apply O;clear O U)|refine kN tB fun K hK=>?_|refine kO fun K hK=>?_|refine aI ?_)|((with_reducible apply CallK.eq);(· with_reducible first|exact hsc);(· simp [RV.flat,D.sc,aa]);try simp only [go_sem,htl])|apply iB)
  all_goals first
   |(exfalso;omega)
   |exact ⟨k + 1,by omega,by omega,(an [] (by simp [lk,ab,hsn,aa,-List.map_take]<;>omega))⟩
 ·obtain rfl:k = l.length:=by omega
  have e:(cj c l m.grades).take l.length = cj c l m.grades:=List.take_of_length_le (by omega)
  rw [e]
  repeat' (first|((with_reducible first|(apply hK;clear hK K)|refine ah fun U O=>?_|apply ag|(apply Z<;>(intro hc;try simp at hc;try omega)))<;>try simp only [go_sem])|(with_reducible first|apply aj|(apply O;clear O U)|refine kN tB fun K hK=>?_|refine kO fun K hK=>?_|refine aI ?_)|apply iB)
  all_goals first
   |(exfalso;omega)
   |(refine ak rfl (by simp only [hsl,bj,bn,ab,lk,ao,aK,List.length_append,List.length_take,if_true,if_false,Nat.reduceEqDiff,Nat.reduceBEq,Bool.false_eq_true,Option.some.injEq];rfl) (by simp [am,lk]) ?_;rfl)
theorem q_ (c:CodeD) (l:List ItemD) (m:MarksD) (hc:CodeOk c) (hl:ItsOk l) (hk:bX c l) (hm:MarksOk m) (hml:m.grades.length = l.length):FnEq Tryz.prog 186 [.agg c.cs,.d (.lst 3 (l.map ItemD.dat)),.agg m.cs] [.row 3 1 ((cj c l m.grades).map aa)]:=by
 have h14:=hl.1
 have hsl:=kh c l m.grades
 refine aN ae Tryz.func186 rfl rfl ?_;simp only [Tryz.ntmps186,aP,aK,Nat.reduceAdd,Nat.reduceSub,aV]
 repeat' (first|((with_reducible first|(apply hK;clear hK K)|refine ah fun U O=>?_|apply ag|(apply Z<;>(intro hc;try simp at hc;try omega)))<;>try simp only [go_sem])|(with_reducible first|apply aj|(apply O;clear O U)|refine kN ss fun K hK=>?_|refine kO fun K hK=>?_|refine aI ?_)|apply iB)
 refine aA [6,7,8,11,12,13,14,15,16,17,18,19,20,21,22] (fun k:Nat=>[(11,.d (.int .i64 (k:Int))),(7,.row 2 k)]) (fun k:Nat=>[(0,.box 42 [.d (.lst 4 (c.elements.map ElementD.dat)),.d (.lst 1 (c.limits.map aa)),.d (.int .i64 c.repeats),.d (.int .i64 c.bonus),.d (.int .i64 c.keeps),.d (.int .i64 c.fall)]),(1,.box 45 [.d (.lst 1 (m.grades.map (ax 1 aa))),.d (.lst 1 (m.components.map (ax 1 aa)))]),(2,.row 3 1 (((cj c l m.grades).take k).map aa))]) 3 (fun k:Nat=>k≤l.length) (fun k:Nat=>l.length - k) 0 (Nat.zero_le _) (an [] (by simp [lk,ab,List.take_zero,aG]<;>omega)) ?_
 intro k hkl
 simp only [bc,wipe,wl,bb,bx,rm,if_true,if_false,Nat.reduceEqDiff,Bool.false_eq_true,reduceCtorEq]
 by_cases hlt:k < l.length
 ·have hgx:=List.getElem?_eq_getElem (show k < m.grades.length by omega)
  generalize m.grades[k] = g at hgx
  have hsc:=tv c l m k g hc hl hk hlt hgx (hm.grade hgx)
  have hgt0:=ln c l m.grades hlt
  have hsn:=iJ (f:=aa) hgt0
  have htl:(List.map aa (List.take k (cj c l m.grades))).length = k:=by simp;omega
  generalize eW c l m.grades k = sc at hsc hgt0 hsn
  repeat' (first|((with_reducible first|(apply hK;clear hK K)|refine ah fun U O=>?_|apply ag|(apply Z<;>(intro hc;try simp at hc;try omega)))<;>try simp only [go_sem,htl])|(with_reducible first|apply aj|(apply O;clear O U)|refine kN ss fun K hK=>?_|refine kO fun K hK=>?_|refine aI ?_)|((with_reducible apply CallK.eq);(· with_reducible first|exact hsc);(· simp [RV.flat,D.sc,aa]);try simp only [go_sem,htl])|apply iB)
  all_goals first
   |(exfalso;omega)
   |exact ⟨k + 1,by omega,by omega,(an [] (by simp [lk,ab,hsn,aa,-List.map_take]<;>omega))⟩
 ·obtain rfl:k = l.length:=by omega
  have e:(cj c l m.grades).take l.length = cj c l m.grades:=List.take_of_length_le (by omega)
  rw [e]
  repeat' (first|((with_reducible first|(apply hK;clear hK K)|refine ah fun U O=>?_|apply ag|(apply Z<;>(intro hc;try simp at hc;try omega)))<;>try simp only [go_sem])|(with_reducible first|apply aj|(apply O;clear O U)|refine kN ss fun K hK=>?_|refine kO fun K hK=>?_|refine aI ?_)|apply iB)
  all_goals first
   |(exfalso;omega)
   |(refine ak rfl (by simp only [hsl,bj,bn,ab,lk,ao,aK,List.length_append,List.length_take,if_true,if_false,Nat.reduceEqDiff,Nat.reduceBEq,Bool.false_eq_true,Option.some.injEq];rfl) (by simp [am,lk]) ?_;rfl)
end Go.Proofs.YtphakidbddamfaaGreat
