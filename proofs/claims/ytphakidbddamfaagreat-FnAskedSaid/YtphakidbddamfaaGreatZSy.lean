/-
  Scores of items in lists: the program's functions and the reference's, in the abstract machine.
-/
import Derived.Test.YtphakidbddamfaaGreatZSx
set_option linter.unusedSimpArgs false
set_option linter.unusedVariables false
set_option maxHeartbeats 2000000
set_option maxRecDepth 100000
namespace Go.Proofs.YtphakidbddamfaaGreat
open Go.RowKit
theorem n_ {c:CodeD} {l:List ItemD} {G:List (List Int)} {k:Nat} {g:List Int} (hg:G[k]? = some g):eU c l G k = d7 c l k + f5 c l k g:=by unfold eU;rw [List.getD_eq_getElem?_getD,hg];rfl
theorem qC (c:CodeD) (l:List ItemD) (m:MarksD) (k:Nat) (g:List Int) (hc:CodeOk c) (hl:ItsOk l) (hk:bU c l) (hlt:k < l.length) (hgx:m.grades[k]? = some g) (hg:kt g):FnEq Tryz.prog 217 [.agg c.cs,.d (.lst 3 (l.map ItemD.dat)),.agg m.cs,.d (.int .i64 (k:Int))] [.d (.int .i64 (eU c l m.grades k))]:=by
 have hgl:=(List.getElem?_eq_some_iff.1 hgx).1
 have h14:=hl.1
 have hib:=lv c l k hc hl hk hlt
 have hpo:=pq c l k g hc hl hk hlt hg
 have hb1:=l6 hc hl hk k
 have hb2:=nj hc hl hk (k:=k) hg
 rw [n_ hgx]
 refine aO aa Tryz.func217 rfl rfl ?_;simp only [Tryz.ntmps217,aR,aM,Nat.reduceAdd,Nat.reduceSub,aW]
 generalize d7 c l k = a at hib hb1
 generalize f5 c l k g = b at hpo hb2
 repeat' (first|((with_reducible first|(refine hK _ ?_;clear hK K)|refine aj fun U O=>?_|apply ah|(apply Z<;>(intro hc;try simp at hc;try omega)))<;>try simp only [go_sem,ap,hgx,aq,aF,hgl])|(with_reducible first|apply ag|(refine O _ ?_;clear O U)|refine kN v8 fun K hK=>?_|refine kO fun K hK=>?_|refine aI ?_)|((with_reducible first|apply CallK.eq|apply CallQ.eqs);(· with_reducible first|exact hib|exact hpo);(· first|exact rfl|(simp [RV.flat,D.sc,ab];done));try simp only [go_sem,ap,hgx,aq,aF,hgl])|(with_reducible refine az v8 aa ax (by kernel_rfl) (fun K hK=>?_))|(with_reducible refine aN aa ax (by kernel_rfl) ?_)|fail)
 all_goals first
  |(exfalso;omega)
  |(refine ak rfl rfl (by simp [am,lk]) ?_;rfl)
theorem wH (c:CodeD) (l:List ItemD) (k:Nat) (g:List Int) (hc:CodeOk c) (hl:ItsOk l) (hk:bU c l) (hlt:k < l.length) (hg:kt g):FnEq Tryz.prog 226 [.agg c.cs,.d (.lst 3 (l.map ItemD.dat)),.d (.int .i64 (k:Int)),.d (.lst 1 (g.map ab))] [.d (.int .i64 (d7 c l k + f5 c l k g))]:=by
 have h14:=hl.1
 have hib:=nQ c l k hc hl hk hlt
 have hpo:=rn c l k g hc hl hk hlt hg
 have hb1:=l6 hc hl hk k
 have hb2:=nj hc hl hk (k:=k) hg
 refine aO aa Tryz.func226 rfl rfl ?_;simp only [Tryz.ntmps226,aR,aM,Nat.reduceAdd,Nat.reduceSub,aW]
 generalize d7 c l k = a at hib hb1
 generalize f5 c l k g = b at hpo hb2
 repeat' (first|((with_reducible first|(refine hK _ ?_;clear hK K)|refine aj fun U O=>?_|apply ah|(apply Z<;>(intro hc;try simp at hc;try omega)))<;>try simp only [go_sem])|(with_reducible first|apply ag|(refine O _ ?_;clear O U)|refine kN vI fun K hK=>?_|refine kO fun K hK=>?_|refine aI ?_)|((with_reducible first|apply CallK.eq|apply CallQ.eqs);(· with_reducible first|exact hib|exact hpo);(· first|exact rfl|(simp [RV.flat,D.sc,ab];done));try simp only [go_sem])|(with_reducible refine az vI aa ax (by kernel_rfl) (fun K hK=>?_))|(with_reducible refine aN aa ax (by kernel_rfl) ?_)|fail)
 all_goals first
  |(exfalso;omega)
  |(refine ak rfl rfl (by simp [am,lk]) ?_;rfl)
theorem sP (c:CodeD) (l:List ItemD) (m:MarksD) (k:Nat) (g:List Int) (hc:CodeOk c) (hl:ItsOk l) (hk:bU c l) (hlt:k < l.length) (hgx:m.grades[k]? = some g) (hg:kt g):FnEq Tryz.prog 214 [.agg c.cs,.d (.lst 3 (l.map ItemD.dat)),.agg m.cs,.d (.int .i64 (k:Int))] [.d (.int .i64 (eU c l m.grades k))]:=by
 have hgl:=(List.getElem?_eq_some_iff.1 hgx).1
 have h14:=hl.1
 have heo:=wH c l k g hc hl hk hlt hg
 rw [n_ hgx]
 refine aO aa Tryz.func214 rfl rfl ?_;simp only [Tryz.ntmps214,aR,aM,Nat.reduceAdd,Nat.reduceSub,aW]
 generalize d7 c l k + f5 c l k g = a at heo
 repeat' (first|((with_reducible first|(refine hK _ ?_;clear hK K)|refine aj fun U O=>?_|apply ah|(apply Z<;>(intro hc;try simp at hc;try omega)))<;>try simp only [go_sem,ap,hgx,aq,aF,hgl])|(with_reducible first|apply ag|(refine O _ ?_;clear O U)|refine kN wj fun K hK=>?_|refine kO fun K hK=>?_|refine aI ?_)|((with_reducible first|apply CallK.eq|apply CallQ.eqs);(· with_reducible first|exact heo);(· first|exact rfl|(simp [RV.flat,D.sc,ab];done));try simp only [go_sem,ap,hgx,aq,aF,hgl])|(with_reducible refine az wj aa ax (by kernel_rfl) (fun K hK=>?_))|(with_reducible refine aN aa ax (by kernel_rfl) ?_)|fail)
 all_goals first
  |(exfalso;omega)
  |(refine ak rfl rfl (by simp [am,lk]) ?_;rfl)
theorem lB (c:CodeD) (l:List ItemD) (G:List (List Int)) {k:Nat} (h:k < l.length):(cb c l G)[k]? = some (eU c l G k):=by unfold cb;rw [ap,List.getElem?_range h];rfl
theorem kf (c:CodeD) (l:List ItemD) (G:List (List Int)):(cb c l G).length = l.length:=by simp [cb]
theorem oC (c:CodeD) (l:List ItemD) (m:MarksD) (hc:CodeOk c) (hl:ItsOk l) (hk:bU c l) (hm:MarksOk m) (hml:m.grades.length = l.length):FnEq Tryz.prog 191 [.agg c.cs,.d (.lst 3 (l.map ItemD.dat)),.agg m.cs] [.row 3 1 ((cb c l m.grades).map ab)]:=by
 have h14:=hl.1
 have hsl:=kf c l m.grades
 refine aO aa Tryz.func191 rfl rfl ?_;simp only [Tryz.ntmps191,aR,aM,Nat.reduceAdd,Nat.reduceSub,aW]
 repeat' (first|((with_reducible first|(refine hK _ ?_;clear hK K)|refine aj fun U O=>?_|apply ah|(apply Z<;>(intro hc;try simp at hc;try omega)))<;>try simp only [go_sem])|(with_reducible first|apply ag|(refine O _ ?_;clear O U)|refine kN sQ fun K hK=>?_|refine kO fun K hK=>?_|refine aI ?_)|apply iB)
 refine aD [6,7,8,12,13,14,15,16,17,18,19,20,21,22,23] (fun k:Nat=>[(12,.d (.int .i64 (k:Int))),(7,.row 2 k)]) (fun k:Nat=>[(0,.box 42 [.d (.lst 4 (c.elements.map ElementD.dat)),.d (.lst 1 (c.limits.map ab)),.d (.int .i64 c.repeats),.d (.int .i64 c.bonus),.d (.int .i64 c.keeps),.d (.int .i64 c.fall)]),(1,.box 45 [.d (.lst 1 (m.grades.map (aF 1 ab))),.d (.lst 1 (m.components.map (aF 1 ab)))]),(2,.row 3 1 (((cb c l m.grades).take k).map ab))]) 3 (fun k:Nat=>k≤l.length) (fun k:Nat=>l.length - k) 0 (Nat.zero_le _) (ao [] (by simp [lk,ae,List.take_zero,aH]<;>omega)) ?_
 intro k hkl
 simp only [bi,wipe,wl,bh,bw,rm,if_true,if_false,Nat.reduceEqDiff,Bool.false_eq_true,reduceCtorEq]
 by_cases hlt:k < l.length
 ·have hgx:=List.getElem?_eq_getElem (show k < m.grades.length by omega)
  generalize m.grades[k] = g at hgx
  have hsc:=qC c l m k g hc hl hk hlt hgx (hm.grade hgx)
  have hgt0:=lB c l m.grades hlt
  have hsn:=hZ (f:=ab) hgt0
  have htl:(List.map ab (List.take k (cb c l m.grades))).length = k:=by simp;omega
  generalize eU c l m.grades k = sc at hsc hgt0 hsn
  repeat' (first|((with_reducible first|(refine hK _ ?_;clear hK K)|refine aj fun U O=>?_|apply ah|(apply Z<;>(intro hc;try simp at hc;try omega)))<;>try simp only [go_sem,htl])|(with_reducible first|apply ag|(refine O _ ?_;clear O U)|refine kN sQ fun K hK=>?_|refine kO fun K hK=>?_|refine aI ?_)|((with_reducible apply CallK.eq);(· with_reducible first|exact hsc);(· simp [RV.flat,D.sc,ab]);try simp only [go_sem,htl])|apply iB)
  all_goals first
   |(exfalso;omega)
   |exact ⟨k + 1,by omega,by omega,(ao [] (by simp [lk,ae,hsn,ab,-List.map_take]<;>omega))⟩
 ·obtain rfl:k = l.length:=by omega
  have e:(cb c l m.grades).take l.length = cb c l m.grades:=List.take_of_length_le (by omega)
  rw [e]
  repeat' (first|((with_reducible first|(refine hK _ ?_;clear hK K)|refine aj fun U O=>?_|apply ah|(apply Z<;>(intro hc;try simp at hc;try omega)))<;>try simp only [go_sem])|(with_reducible first|apply ag|(refine O _ ?_;clear O U)|refine kN sQ fun K hK=>?_|refine kO fun K hK=>?_|refine aI ?_)|apply iB)
  all_goals first
   |(exfalso;omega)
   |(refine ak rfl (by simp only [hsl,bl,bn,ae,lk,an,aM,List.length_append,List.length_take,if_true,if_false,Nat.reduceEqDiff,Nat.reduceBEq,Bool.false_eq_true,Option.some.injEq];rfl) (by simp [am,lk]) ?_;rfl)
theorem qU (c:CodeD) (l:List ItemD) (m:MarksD) (hc:CodeOk c) (hl:ItsOk l) (hk:bU c l) (hm:MarksOk m) (hml:m.grades.length = l.length):FnEq Tryz.prog 186 [.agg c.cs,.d (.lst 3 (l.map ItemD.dat)),.agg m.cs] [.row 3 1 ((cb c l m.grades).map ab)]:=by
 have h14:=hl.1
 have hsl:=kf c l m.grades
 refine aO aa Tryz.func186 rfl rfl ?_;simp only [Tryz.ntmps186,aR,aM,Nat.reduceAdd,Nat.reduceSub,aW]
 repeat' (first|((with_reducible first|(refine hK _ ?_;clear hK K)|refine aj fun U O=>?_|apply ah|(apply Z<;>(intro hc;try simp at hc;try omega)))<;>try simp only [go_sem])|(with_reducible first|apply ag|(refine O _ ?_;clear O U)|refine kN tj fun K hK=>?_|refine kO fun K hK=>?_|refine aI ?_)|apply iB)
 refine aD [6,7,8,11,12,13,14,15,16,17,18,19,20,21,22] (fun k:Nat=>[(11,.d (.int .i64 (k:Int))),(7,.row 2 k)]) (fun k:Nat=>[(0,.box 42 [.d (.lst 4 (c.elements.map ElementD.dat)),.d (.lst 1 (c.limits.map ab)),.d (.int .i64 c.repeats),.d (.int .i64 c.bonus),.d (.int .i64 c.keeps),.d (.int .i64 c.fall)]),(1,.box 45 [.d (.lst 1 (m.grades.map (aF 1 ab))),.d (.lst 1 (m.components.map (aF 1 ab)))]),(2,.row 3 1 (((cb c l m.grades).take k).map ab))]) 3 (fun k:Nat=>k≤l.length) (fun k:Nat=>l.length - k) 0 (Nat.zero_le _) (ao [] (by simp [lk,ae,List.take_zero,aH]<;>omega)) ?_
 intro k hkl
 simp only [bi,wipe,wl,bh,bw,rm,if_true,if_false,Nat.reduceEqDiff,Bool.false_eq_true,reduceCtorEq]
 by_cases hlt:k < l.length
 ·have hgx:=List.getElem?_eq_getElem (show k < m.grades.length by omega)
  generalize m.grades[k] = g at hgx
  have hsc:=sP c l m k g hc hl hk hlt hgx (hm.grade hgx)
  have hgt0:=lB c l m.grades hlt
  have hsn:=hZ (f:=ab) hgt0
  have htl:(List.map ab (List.take k (cb c l m.grades))).length = k:=by simp;omega
  generalize eU c l m.grades k = sc at hsc hgt0 hsn
  repeat' (first|((with_reducible first|(refine hK _ ?_;clear hK K)|refine aj fun U O=>?_|apply ah|(apply Z<;>(intro hc;try simp at hc;try omega)))<;>try simp only [go_sem,htl])|(with_reducible first|apply ag|(refine O _ ?_;clear O U)|refine kN tj fun K hK=>?_|refine kO fun K hK=>?_|refine aI ?_)|((with_reducible apply CallK.eq);(· with_reducible first|exact hsc);(· simp [RV.flat,D.sc,ab]);try simp only [go_sem,htl])|apply iB)
  all_goals first
   |(exfalso;omega)
   |exact ⟨k + 1,by omega,by omega,(ao [] (by simp [lk,ae,hsn,ab,-List.map_take]<;>omega))⟩
 ·obtain rfl:k = l.length:=by omega
  have e:(cb c l m.grades).take l.length = cb c l m.grades:=List.take_of_length_le (by omega)
  rw [e]
  repeat' (first|((with_reducible first|(refine hK _ ?_;clear hK K)|refine aj fun U O=>?_|apply ah|(apply Z<;>(intro hc;try simp at hc;try omega)))<;>try simp only [go_sem])|(with_reducible first|apply ag|(refine O _ ?_;clear O U)|refine kN tj fun K hK=>?_|refine kO fun K hK=>?_|refine aI ?_)|apply iB)
  all_goals first
   |(exfalso;omega)
   |(refine ak rfl (by simp only [hsl,bl,bn,ae,lk,an,aM,List.length_append,List.length_take,if_true,if_false,Nat.reduceEqDiff,Nat.reduceBEq,Bool.false_eq_true,Option.some.injEq];rfl) (by simp [am,lk]) ?_;rfl)
end Go.Proofs.YtphakidbddamfaaGreat
