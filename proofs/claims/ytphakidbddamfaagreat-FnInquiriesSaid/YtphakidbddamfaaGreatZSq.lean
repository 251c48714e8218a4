/-
  All calls that an inquiry can ask for: the program's function and the reference's, in the abstract machine.
-/
import Derived.Test.YtphakidbddamfaaGreatZJx
import Derived.Test.YtphakidbddamfaaGreatZTk
import Derived.Test.YtphakidbddamfaaGreatZPt
import Derived.Test.YtphakidbddamfaaGreatZIu
import Derived.Test.YtphakidbddamfaaGreatZM11
set_option linter.unusedSimpArgs false
set_option linter.unusedVariables false
set_option maxHeartbeats 2000000
set_option maxRecDepth 100000
namespace Go.Proofs.YtphakidbddamfaaGreat
open Go.RowKit
def w2 (l:List ItemD) (i:Nat) (ms:List Int) (k:Nat):List (List Int):=c3 l i++c2 i ms k
def w1 (l:List ItemD) (i:Nat) (ms:List Int) (k:Nat) (now:Int) (m:Nat):List (List Int):=w2 l i ms k++c1 i k now m
theorem rI (l:List ItemD):c3 l 0 = []:=rfl
theorem sd (l:List ItemD) (i:Nat) (ms:List Int):w2 l i ms 0 = c3 l i:=by simp [w2,c2]
theorem rQ (l:List ItemD) (i:Nat) (ms:List Int) (k:Nat) (now:Int):w1 l i ms k now 0 = w2 l i ms k:=by simp [w1,c1]
theorem wq (l:List ItemD) (i:Nat) (ms:List Int) (k:Nat) {now:Int} {m:Nat} (h:(m:Int) = now):w1 l i ms k now (m + 1) = w1 l i ms k now m:=by simp only [w1,c1,if_pos h]
theorem uW (l:List ItemD) (i:Nat) (ms:List Int) (k:Nat) {now:Int} {m:Nat} (h:¬ (m:Int) = now):w1 l i ms k now (m + 1) = w1 l i ms k now m++[[(i:Int),(k:Int),(m:Int)]]:=by simp only [w1,c1,if_neg h,List.append_assoc]
theorem sm (l:List ItemD) (i:Nat) (ms:List Int) (k:Nat):w1 l i ms k (ms.getD k 0) 4 = w2 l i ms (k + 1):=by simp only [w1,w2,c2,List.append_assoc]
theorem t9 {l:List ItemD} {i:Nat} {it:ItemD} (h:l[i]? = some it):w2 l i it.marks it.marks.length = c3 l (i + 1):=by simp only [w2,c3,nJ h]
theorem ui (l:List ItemD) (i:Nat) (ms:List Int) (k:Nat) (now:Int) (m:Nat):(w1 l i ms k now m).length = (c3 l i).length + (c2 i ms k).length + (c1 i k now m).length:=by simp only [w1,w2,List.length_append]
theorem jZ (l:List ItemD) (hv:ItsOk l):FnEq Tryz.prog 85 [.d (.lst 3 (l.map ItemD.dat))] [.deep 23 1 ((bI l).map (ax 1 aa))]:=by
 have hl14:=hv.1
 refine aN ae Tryz.func85 rfl rfl ?_;simp only [Tryz.ntmps85,aP,aK,Nat.reduceAdd,Nat.reduceSub,aV]
 repeat' (first|with_reducible refine bs (id:=2) ?_|with_reducible refine br (id:=2) ?_|((with_reducible first|(apply hK;clear hK K)|refine ah fun U O=>?_|apply ag|(apply Z<;>(intro hc;try simp at hc;try omega)))<;>try simp only [go_sem])|(with_reducible first|apply aj|(apply O;clear O U)|refine kN iD fun K hK=>?_|refine kO fun K hK=>?_|refine aI ?_)|apply iB)
 unfold eu
 refine cS 1 rfl (fun _ h=>by cases h) ?_
 simp only [go_sem]
 repeat' (first|((with_reducible first|(apply hK;clear hK K)|refine ah fun U O=>?_|apply ag|(apply Z<;>(intro hc;try simp at hc;try omega)))<;>try simp only [go_sem])|(with_reducible first|apply aj|(apply O;clear O U)|refine kN iD fun K hK=>?_|refine kO fun K hK=>?_|refine aI ?_)|apply iB)
 refine aA [2,3,4,5,6,7,8,12,13,14,15,16,17,18,19,20,21,22,23,24,25,26,27,28,29,30,31,32,33,34,35,36,37,38,39,40] (fun i:Nat=>[(12,.d (.int .i64 (i:Int))),(3,.row 0 (c3 l i).length),(5,.und)]) (fun i=>[(0,.deep 0 23 1 ((c3 l i).map (ax 1 aa)))]) 1 (fun i=>i≤l.length) (fun i=>l.length - i) 0 (Nat.zero_le _) (an [] (by simp [lk,ab,rI]<;>omega)) ?_
 intro i hi;simp only [bc,wipe,wl,bb,bx,rm,if_true,if_false,Nat.reduceEqDiff,Bool.false_eq_true,reduceCtorEq]
 by_cases hlt:i < l.length
 ·have hx:=List.getElem?_eq_getElem hlt
  generalize l[i] = it at hx
  have hml:=lX hv hx
  have h3:=mx hv i
  repeat' (first|((with_reducible first|(apply hK;clear hK K)|refine ah fun U O=>?_|apply ag|(apply Z<;>(intro hc;try simp at hc;try omega)))<;>try simp only [go_sem,ap,hx,ar,ItemD.dat,hlt])|(with_reducible first|apply aj|(apply O;clear O U)|refine kN iD fun K hK=>?_|refine kO fun K hK=>?_|refine aI ?_)|apply iB)
  refine aA [2,3,6,7,8,20,21,22,23,24,25,26,27,28,29,30,31,32,33,34,35,36,37,38,39] (fun k:Nat=>[(20,.d (.int .i64 (k:Int))),(3,.row 0 (w2 l i it.marks k).length),(5,.und)]) (fun k=>[(0,.deep 0 23 1 ((w2 l i it.marks k).map (ax 1 aa)))]) 1 (fun k=>k≤it.marks.length) (fun k=>it.marks.length - k) 0 (Nat.zero_le _) (an [] (by simp [lk,ab,sd]<;>omega)) ?_
  intro k hk;simp only [bc,wipe,wl,bb,bx,rm,if_true,if_false,Nat.reduceEqDiff,Bool.false_eq_true,reduceCtorEq]
  have h2:=mQ i it.marks k
  by_cases hlk:k < it.marks.length
  ·have hy:=List.getElem?_eq_getElem hlk
   have hgd:it.marks.getD k 0 = it.marks[k]:=by rw [List.getD_eq_getElem?_getD,hy];rfl
   generalize it.marks[k] = now at hy hgd
   repeat' (first|((with_reducible first|(apply hK;clear hK K)|refine ah fun U O=>?_|apply ag|(apply Z<;>(intro hc;try simp at hc;try omega)))<;>try simp only [go_sem,ap,hy,ar,aa,hlk])|(with_reducible first|apply aj|(apply O;clear O U)|refine kN iD fun K hK=>?_|refine kO fun K hK=>?_|refine aI ?_)|apply iB)
   refine aA [2,3,8,25,26,27,28,29,30,31,32,33,34,35,36,37,38] (fun m:Nat=>[(8,.d (.int .i64 (m:Int))),(3,.row 0 (w1 l i it.marks k now m).length)]) (fun m=>[(0,.deep 0 23 1 ((w1 l i it.marks k now m).map (ax 1 aa)))]) 1 (fun m=>m≤4) (fun m=>4 - m) 0 (Nat.zero_le _) (an [] (by simp [lk,ab,rQ]<;>omega)) ?_
   intro m hm;simp only [bc,wipe,wl,bb,bx,rm,if_true,if_false,Nat.reduceEqDiff,Bool.false_eq_true,reduceCtorEq]
   have h1:=mz i k now m
   have hw:=ui l i it.marks k now m
   by_cases hlm:m < 4
   ·have hlm':(m:Int)≤3:=by omega
    by_cases he:(m:Int) = now
    ·have hno:=wq l i it.marks k he
     repeat' (first|((with_reducible first|(apply hK;clear hK K)|refine ah fun U O=>?_|apply ag|(apply Z<;>(intro hc;try simp at hc;try omega)))<;>try simp only [go_sem,hlm',he])|(with_reducible first|apply aj|(apply O;clear O U)|refine kN iD fun K hK=>?_|refine kO fun K hK=>?_|refine aI ?_)|apply iB)
     all_goals first
      |(exfalso;omega)
      |exact ⟨m + 1,by omega,by omega,(an [] (by simp [lk,ab,hno]<;>omega))⟩
    ·have hyes:=uW l i it.marks k he
     repeat' (first|((with_reducible first|(apply hK;clear hK K)|refine ah fun U O=>?_|apply ag|(apply Z<;>(intro hc;try simp at hc;try omega)))<;>try simp only [go_sem,hlm',he])|(with_reducible first|apply aj|(apply O;clear O U)|refine kN iD fun K hK=>?_|refine kO fun K hK=>?_|refine aI ?_)|apply iB)
     all_goals first
      |(exfalso;omega)
      |skip
     refine bq (cs:=[.row 1 3]) (ds:=ax 1 aa [(i:Int),(k:Int),(m:Int)]) rfl (ae _ _ gK) (by decide) rfl (by simp [dm,dA,ab,D.scB,ax,aa]) (by simp [a9]) (by simp only [cD,cr,ab,if_true,if_false,Nat.reduceEqDiff];exact ⟨bU [(i:Int),(k:Int),(m:Int)],trivial⟩) ?_
     repeat' (first|((with_reducible first|(apply hK;clear hK K)|refine ah fun U O=>?_|apply ag|(apply Z<;>(intro hc;try simp at hc;try omega)))<;>try simp only [go_sem,ax])|(with_reducible first|apply aj|(apply O;clear O U)|refine kN iD fun K hK=>?_|refine kO fun K hK=>?_|refine aI ?_)|apply iB)
     refine bG (es:=(w1 l i it.marks k now m).map (ax 1 aa)) (fs:=[ax 1 aa [(i:Int),(k:Int),(m:Int)]]) (n:=(w1 l i it.marks k now m).length) (n2:=1) rfl (ae _ _ gK) rfl rfl rfl rfl (by decide) (by simp) rfl (by exact True.intro) (by exact True.intro) (by simp<;>omega) ?_
     repeat' (first|((with_reducible first|(apply hK;clear hK K)|refine ah fun U O=>?_|apply ag|(apply Z<;>(intro hc;try simp at hc;try omega)))<;>try simp only [go_sem,ax])|(with_reducible first|apply aj|(apply O;clear O U)|refine kN iD fun K hK=>?_|refine kO fun K hK=>?_|refine aI ?_)|apply iB)
     exact ⟨m + 1,by omega,by omega,(an [] (by simp [lk,ab,hyes,ax]<;>omega))⟩
   ·obtain rfl:m = 4:=by omega
    rw [←hgd,sm]
    repeat' (first|((with_reducible first|(apply hK;clear hK K)|refine ah fun U O=>?_|apply ag|(apply Z<;>(intro hc;try simp at hc;try omega)))<;>try simp only [go_sem])|(with_reducible first|apply aj|(apply O;clear O U)|refine kN iD fun K hK=>?_|refine kO fun K hK=>?_|refine aI ?_)|apply iB)
    all_goals first
     |(exfalso;omega)
     |exact ⟨k + 1,by omega,by omega,(an [] (by simp [lk,ab]<;>omega))⟩
  ·obtain rfl:k = it.marks.length:=by omega
   rw [t9 hx]
   repeat' (first|((with_reducible first|(apply hK;clear hK K)|refine ah fun U O=>?_|apply ag|(apply Z<;>(intro hc;try simp at hc;try omega)))<;>try simp only [go_sem])|(with_reducible first|apply aj|(apply O;clear O U)|refine kN iD fun K hK=>?_|refine kO fun K hK=>?_|refine aI ?_)|apply iB)
   exact ⟨i + 1,by omega,by omega,(an [] (by simp [lk,ab]<;>omega))⟩
 ·obtain rfl:i = l.length:=by omega
  repeat' (first|((with_reducible first|(apply hK;clear hK K)|refine ah fun U O=>?_|apply ag|(apply Z<;>(intro hc;try simp at hc;try omega)))<;>try simp only [go_sem])|(with_reducible first|apply aj|(apply O;clear O U)|refine kN iD fun K hK=>?_|refine kO fun K hK=>?_|refine aI ?_)|apply iB)
  refine ak rfl (by simp only [bj,bn,ab,lk,ao,aK,List.length_append,List.length_take,if_true,if_false,Nat.reduceEqDiff,Nat.reduceBEq,Bool.false_eq_true,Option.some.injEq];rfl) (by simp [am,lk]) ?_;rfl
theorem pT (l:List ItemD) (hv:ItsOk l):FnEq Tryz.prog 84 [.d (.lst 3 (l.map ItemD.dat))] [.deep 23 1 ((bI l).map (ax 1 aa))]:=by
 have hl14:=hv.1
 refine aN ae Tryz.func84 rfl rfl ?_;simp only [Tryz.ntmps84,aP,aK,Nat.reduceAdd,Nat.reduceSub,aV]
 repeat' (first|with_reducible refine bs (id:=2) ?_|with_reducible refine br (id:=2) ?_|((with_reducible first|(apply hK;clear hK K)|refine ah fun U O=>?_|apply ag|(apply Z<;>(intro hc;try simp at hc;try omega)))<;>try simp only [go_sem])|(with_reducible first|apply aj|(apply O;clear O U)|refine kN iP fun K hK=>?_|refine kO fun K hK=>?_|refine aI ?_)|apply iB)
 unfold eu
 refine cS 1 rfl (fun _ h=>by cases h) ?_
 simp only [go_sem]
 repeat' (first|((with_reducible first|(apply hK;clear hK K)|refine ah fun U O=>?_|apply ag|(apply Z<;>(intro hc;try simp at hc;try omega)))<;>try simp only [go_sem])|(with_reducible first|apply aj|(apply O;clear O U)|refine kN iP fun K hK=>?_|refine kO fun K hK=>?_|refine aI ?_)|apply iB)
 refine aA [2,3,4,5,6,7,8,11,12,13,14,15,16,17,18,19,20,21,22,23,24,25,26,27,28,29,30,31,32,33,34,35,36,37,38,39] (fun i:Nat=>[(11,.d (.int .i64 (i:Int))),(3,.row 0 (c3 l i).length),(5,.und)]) (fun i=>[(0,.deep 0 23 1 ((c3 l i).map (ax 1 aa)))]) 1 (fun i=>i≤l.length) (fun i=>l.length - i) 0 (Nat.zero_le _) (an [] (by simp [lk,ab,rI]<;>omega)) ?_
 intro i hi;simp only [bc,wipe,wl,bb,bx,rm,if_true,if_false,Nat.reduceEqDiff,Bool.false_eq_true,reduceCtorEq]
 by_cases hlt:i < l.length
 ·have hx:=List.getElem?_eq_getElem hlt
  generalize l[i] = it at hx
  have hml:=lX hv hx
  have h3:=mx hv i
  repeat' (first|((with_reducible first|(apply hK;clear hK K)|refine ah fun U O=>?_|apply ag|(apply Z<;>(intro hc;try simp at hc;try omega)))<;>try simp only [go_sem,ap,hx,ar,ItemD.dat,hlt])|(with_reducible first|apply aj|(apply O;clear O U)|refine kN iP fun K hK=>?_|refine kO fun K hK=>?_|refine aI ?_)|apply iB)
  refine aA [2,3,6,7,8,19,20,21,22,23,24,25,26,27,28,29,30,31,32,33,34,35,36,37,38] (fun k:Nat=>[(19,.d (.int .i64 (k:Int))),(3,.row 0 (w2 l i it.marks k).length),(5,.und)]) (fun k=>[(0,.deep 0 23 1 ((w2 l i it.marks k).map (ax 1 aa)))]) 1 (fun k=>k≤it.marks.length) (fun k=>it.marks.length - k) 0 (Nat.zero_le _) (an [] (by simp [lk,ab,sd]<;>omega)) ?_
  intro k hk;simp only [bc,wipe,wl,bb,bx,rm,if_true,if_false,Nat.reduceEqDiff,Bool.false_eq_true,reduceCtorEq]
  have h2:=mQ i it.marks k
  by_cases hlk:k < it.marks.length
  ·have hy:=List.getElem?_eq_getElem hlk
   have hgd:it.marks.getD k 0 = it.marks[k]:=by rw [List.getD_eq_getElem?_getD,hy];rfl
   generalize it.marks[k] = now at hy hgd
   repeat' (first|((with_reducible first|(apply hK;clear hK K)|refine ah fun U O=>?_|apply ag|(apply Z<;>(intro hc;try simp at hc;try omega)))<;>try simp only [go_sem,ap,hy,ar,aa,hlk])|(with_reducible first|apply aj|(apply O;clear O U)|refine kN iP fun K hK=>?_|refine kO fun K hK=>?_|refine aI ?_)|apply iB)
   refine aA [2,3,8,24,25,26,27,28,29,30,31,32,33,34,35,36,37] (fun m:Nat=>[(8,.d (.int .i64 (m:Int))),(3,.row 0 (w1 l i it.marks k now m).length)]) (fun m=>[(0,.deep 0 23 1 ((w1 l i it.marks k now m).map (ax 1 aa)))]) 1 (fun m=>m≤4) (fun m=>4 - m) 0 (Nat.zero_le _) (an [] (by simp [lk,ab,rQ]<;>omega)) ?_
   intro m hm;simp only [bc,wipe,wl,bb,bx,rm,if_true,if_false,Nat.reduceEqDiff,Bool.false_eq_true,reduceCtorEq]
   have h1:=mz i k now m
   have hw:=ui l i it.marks k now m
   by_cases hlm:m < 4
   ·have hlm':(m:Int)≤3:=by omega
    by_cases he:(m:Int) = now
    ·have hno:=wq l i it.marks k he
     repeat' (first|((with_reducible first|(apply hK;clear hK K)|refine ah fun U O=>?_|apply ag|(apply Z<;>(intro hc;try simp at hc;try omega)))<;>try simp only [go_sem,hlm',he])|(with_reducible first|apply aj|(apply O;clear O U)|refine kN iP fun K hK=>?_|refine kO fun K hK=>?_|refine aI ?_)|apply iB)
     all_goals first
      |(exfalso;omega)
      |exact ⟨m + 1,by omega,by omega,(an [] (by simp [lk,ab,hno]<;>omega))⟩
    ·have hyes:=uW l i it.marks k he
     repeat' (first|((with_reducible first|(apply hK;clear hK K)|refine ah fun U O=>?_|apply ag|(apply Z<;>(intro hc;try simp at hc;try omega)))<;>try simp only [go_sem,hlm',he])|(with_reducible first|apply aj|(apply O;clear O U)|refine kN iP fun K hK=>?_|refine kO fun K hK=>?_|refine aI ?_)|apply iB)
     all_goals first
      |(exfalso;omega)
      |skip
     refine bq (cs:=[.row 1 3]) (ds:=ax 1 aa [(i:Int),(k:Int),(m:Int)]) rfl (ae _ _ gK) (by decide) rfl (by simp [dm,dA,ab,D.scB,ax,aa]) (by simp [a9]) (by simp only [cD,cr,ab,if_true,if_false,Nat.reduceEqDiff];exact ⟨bU [(i:Int),(k:Int),(m:Int)],trivial⟩) ?_
     repeat' (first|((with_reducible first|(apply hK;clear hK K)|refine ah fun U O=>?_|apply ag|(apply Z<;>(intro hc;try simp at hc;try omega)))<;>try simp only [go_sem,ax])|(with_reducible first|apply aj|(apply O;clear O U)|refine kN iP fun K hK=>?_|refine kO fun K hK=>?_|refine aI ?_)|apply iB)
     refine bG (es:=(w1 l i it.marks k now m).map (ax 1 aa)) (fs:=[ax 1 aa [(i:Int),(k:Int),(m:Int)]]) (n:=(w1 l i it.marks k now m).length) (n2:=1) rfl (ae _ _ gK) rfl rfl rfl rfl (by decide) (by simp) rfl (by exact True.intro) (by exact True.intro) (by simp<;>omega) ?_
     repeat' (first|((with_reducible first|(apply hK;clear hK K)|refine ah fun U O=>?_|apply ag|(apply Z<;>(intro hc;try simp at hc;try omega)))<;>try simp only [go_sem,ax])|(with_reducible first|apply aj|(apply O;clear O U)|refine kN iP fun K hK=>?_|refine kO fun K hK=>?_|refine aI ?_)|apply iB)
     exact ⟨m + 1,by omega,by omega,(an [] (by simp [lk,ab,hyes,ax]<;>omega))⟩
   ·obtain rfl:m = 4:=by omega
    rw [←hgd,sm]
    repeat' (first|((with_reducible first|(apply hK;clear hK K)|refine ah fun U O=>?_|apply ag|(apply Z<;>(intro hc;try simp at hc;try omega)))<;>try simp only [go_sem])|(with_reducible first|apply aj|(apply O;clear O U)|refine kN iP fun K hK=>?_|refine kO fun K hK=>?_|refine aI ?_)|apply iB)
    all_goals first
     |(exfalso;omega)
     |exact ⟨k + 1,by omega,by omega,(an [] (by simp [lk,ab]<;>omega))⟩
  ·obtain rfl:k = it.marks.length:=by omega
   rw [t9 hx]
   repeat' (first|((with_reducible first|(apply hK;clear hK K)|refine ah fun U O=>?_|apply ag|(apply Z<;>(intro hc;try simp at hc;try omega)))<;>try simp only [go_sem])|(with_reducible first|apply aj|(apply O;clear O U)|refine kN iP fun K hK=>?_|refine kO fun K hK=>?_|refine aI ?_)|apply iB)
   exact ⟨i + 1,by omega,by omega,(an [] (by simp [lk,ab]<;>omega))⟩
 ·obtain rfl:i = l.length:=by omega
  repeat' (first|((with_reducible first|(apply hK;clear hK K)|refine ah fun U O=>?_|apply ag|(apply Z<;>(intro hc;try simp at hc;try omega)))<;>try simp only [go_sem])|(with_reducible first|apply aj|(apply O;clear O U)|refine kN iP fun K hK=>?_|refine kO fun K hK=>?_|refine aI ?_)|apply iB)
  refine ak rfl (by simp only [bj,bn,ab,lk,ao,aK,List.length_append,List.length_take,if_true,if_false,Nat.reduceEqDiff,Nat.reduceBEq,Bool.false_eq_true,Option.some.injEq];rfl) (by simp [am,lk]) ?_;rfl
end Go.Proofs.YtphakidbddamfaaGreat
namespace Go.Proofs.YtphakidbddamfaaGreat
open Go.RowKit
theorem uK:∀ {l:List (Nat × PV)} {t:Nat} {x:PV} (i:Nat),lk l t≠.und→lk (upl l t x) i = if i = t then x else lk l i
 |[],t,x,i,h=>(h rfl).elim
 |(k,y)::r,t,x,i,h=>by
  simp only [upl]
  by_cases e:t = k
  ·subst e
   simp only [if_true,lk]
   split<;>rfl
  ·have h':lk r t≠.und:=by simpa only [lk,if_neg e] using h
   simp only [if_neg e,lk]
   by_cases e2:i = k
   ·subst e2
    rw [if_pos rfl,if_neg (Ne.symm e)]
    simp
   ·rw [if_neg e2,if_neg e2,uK i h']
theorem i0 {P:Program} {Q:Exit→AS→Prop} {c:Code} {s:AS} (t:Nat) {id n:Nat} {ty:TypeId} {sz:Nat} {es:List (List D)} (ht:lk s.fr.l t = .row id n) (hg:ab s.hp id = some (.row ty sz es)) (hn:es.length = n) (h:PW P c Q ⟨⟨s.fr.n,upl s.fr.l t (.d (.lst sz es))⟩,dJ s.hp id,s.nx⟩):PW P c Q s:=by
 intro X0 w0 m a w hs
 have hk:=hs.kill (dJ s.hp id) (fun id' blk hb=>by rw [cR] at hb;split at hb;cases hb;exact hb) (fun id' par k j ha=>by
  rw [cR] at ha ⊢
  split at ha
  ·cases ha
  ·obtain ⟨q,ty',sz',es2,_,_,_,_,_,_,a1,_⟩:=hs.al id' par k j ha
   rw [if_neg fun e=>by subst e;rw [hg] at a1;cases a1])
 have hst:Stay w w (aR X0 m s.hp) (aR X0 m (dJ s.hp id)):=by
  intro b _ hb2
  refine ⟨rfl,?_⟩
  rintro (hx|⟨id',blk,h1,h2⟩)
  ·exact hb2 (.inl hx)
  ·rw [cR] at h1
   split at h1
   ·cases h1
   ·exact hb2 (.inr ⟨id',blk,h1,h2⟩)
 have hR:=hs.fr t
 rw [ht] at hR
 have hnew:R m.loc (aR X0 m (dJ s.hp id)) w (.d (.lst sz es)) (a.tmps.getD t undef):=by
  obtain ⟨l,hl,hok⟩:=hs.hp id _ hg
  rcases hR.row_inv with ⟨h1,h2,h3⟩|⟨b,cc,h1,h2,h3⟩
  ·rw [h3]
   have e:es = []:=List.length_eq_zero_iff.1 (hn.trans h2)
   subst e
   exact .d _ _ (.nil _ _ _)
  ·rw [h1] at hl
   cases hl
   obtain ⟨arr,hh,hc⟩:=hok
   rw [h3,←hn]
   have hnb:¬ aR X0 m (dJ s.hp id) b:=by
    have how:=hs.own id _ b hg ⟨cc,h1⟩
    rintro (hx|⟨id',blk,g1,g2⟩)
    ·obtain ⟨g3,g4⟩:=hs.x0 b hx
     rcases how.1 with g5|g5
     ·omega
     ·exact g4 g5
    ·rw [cR] at g1
     split at g1
     ·cases g1
     ·rename_i hne
      exact hne (hs.inj id' id blk _ b g1 hg g2 ⟨cc,h1⟩)
   refine .d _ _ (.lst sz es b 0 cc hc.2.1 hc.2.2.2.1 (fun k e j d he hd=>?_) (fun k e j d u he hd hu=>?_))
   ·obtain ⟨u,p1,_,_⟩:=da hc hh he hd
    exact ⟨hnb,u,by rw [aB];exact p1⟩
   ·obtain ⟨u',p1,_,p3⟩:=da hc hh he hd
    rw [aB,p1] at hu
    cases hu
    exact p3.mono hst
 refine h X0 w0 m a w ⟨hk.below,hk.x0,hk.size,fun i=>?_,hk.df,hk.hp,hk.dp,hk.al,hk.pin,hk.inj,hk.own,hk.nx,hk.gl⟩
 show R m.loc (aR X0 m (dJ s.hp id)) w (lk (upl s.fr.l t (.d (.lst sz es))) i) _
 rw [uK i (by rw [ht];intro h;cases h)]
 split
 ·rename_i e;subst e;exact hnew
 ·exact hk.fr i
end Go.Proofs.YtphakidbddamfaaGreat
namespace Go.Proofs.YtphakidbddamfaaGreat
open Go.RowKit
def dC (n:Int):List Int→List Int
 |[]=>[n]
 |x::r=>if x < n then n::x::r else x::dC n r
def cQ (xs:List Int):List Int:=xs.foldl (fun acc n=>dC n acc) []
theorem sH {xs:List Int} {k:Nat} {x:Int} (h:xs[k]? = some x):cQ (xs.take (k + 1)) = dC x (cQ (xs.take k)):=by
 unfold cQ;rw [bJ h,List.foldl_append];rfl
theorem iR (n:Int):∀ l:List Int,(dC n l).Perm (n::l)
 |[]=>List.Perm.refl _
 |x::r=>by
  unfold dC
  split
  ·exact List.Perm.refl _
  ·exact ((iR n r).cons x).trans (List.Perm.swap n x r)
theorem jl (n:Int):∀ l:List Int,l.Pairwise (· ≥ ·)→(dC n l).Pairwise (· ≥ ·)
 |[],_=>by simp [dC]
 |x::r,h=>by
  unfold dC
  have h1:=List.pairwise_cons.1 h
  split
  ·rename_i hx
   refine List.pairwise_cons.2 ⟨fun y hy=>?_,h⟩
   rcases List.mem_cons.1 hy with rfl|hy
   ·omega
   ·have:=h1.1 y hy;omega
  ·rename_i hx
   refine List.pairwise_cons.2 ⟨fun y hy=>?_,jl n r h1.2⟩
   rcases List.mem_cons.1 ((iR n r).mem_iff.1 hy) with rfl|hy
   ·omega
   ·exact h1.1 y hy
theorem tg:∀ (xs acc:List Int),acc.Pairwise (· ≥ ·)→(xs.foldl (fun acc n=>dC n acc) acc).Pairwise (· ≥ ·)∧(xs.foldl (fun acc n=>dC n acc) acc).Perm (acc++xs)
 |[],acc,h=>⟨h,by simp⟩
 |x::xs,acc,h=>by
  obtain ⟨h1,h2⟩:=tg xs (dC x acc) (jl x acc h)
  refine ⟨h1,h2.trans ?_⟩
  have h3:(dC x acc++xs).Perm ((x::acc)++xs):=(iR x acc).append_right xs
  exact h3.trans (by simpa using (List.perm_middle (a:=x) (l₁:=acc) (l₂:=xs)).symm)
theorem iA (xs:List Int):(cQ xs).Pairwise (· ≥ ·):=(tg xs [] (by simp)).1
theorem fX (xs:List Int):(cQ xs).Perm xs:=by have h:=(tg xs [] (by simp)).2;rwa [List.nil_append] at h
theorem gD (xs:List Int):(cQ xs).length = xs.length:=(fX xs).length_eq
theorem mw (n:Int):∀ (l:List Int) (k:Nat),l.Pairwise (· ≥ ·)→k≤l.length→(∀ j x,k≤j→l[j]? = some x→x < n)→(∀ x,0 < k→l[k - 1]? = some x→n≤x)→l.take k++n::l.drop k = dC n l
 |[],k,_,hk,_,_=>by
  have:k = 0:=by simpa using hk
  subst this
  rfl
 |y::r,0,_,_,h1,_=>by
  have:=h1 0 y (by omega) rfl
  simp [dC,this]
 |y::r,k + 1,hs,hk,h1,h2=>by
  have hp:=List.pairwise_cons.1 hs
  have hy:n≤y:=by
   rcases Nat.eq_zero_or_pos k with h0|h0
   ·subst h0
    exact h2 y (by omega) rfl
   ·have hkr:k - 1 < r.length:=by simp at hk;omega
    have h3:=h2 r[k - 1] (by omega) (by rw [show k + 1 - 1 = (k - 1) + 1 by omega,List.getElem?_cons_succ,List.getElem?_eq_getElem hkr])
    have:=hp.1 r[k - 1] (List.getElem_mem hkr)
    omega
  have ih:=mw n r k hp.2 (by simpa using hk) (fun j x hj hx=>h1 (j + 1) x (by omega) (by simpa using hx)) (fun x h0 hx=>h2 x (by omega) (by rw [show k + 1 - 1 = (k - 1) + 1 by omega,List.getElem?_cons_succ];exact hx))
  simp only [List.take_succ_cons,List.drop_succ_cons,List.cons_append,ih,dC,if_neg (show ¬ y < n by omega)]
def AllLess (l:List Int) (m:Nat) (n:Int):Prop:=∀ (j:Nat) (x:Int),m≤j→l[j]? = some x→x < n
theorem AllLess.start (l:List Int) (n:Int):AllLess l l.length n:=fun j x hj hx=>by
 have:=(List.getElem?_eq_some_iff.1 hx).1;omega
theorem AllLess.next {l:List Int} {m:Nat} {n y:Int} (h:AllLess l m n) (hy:l[m - 1]? = some y) (hn:y < n):AllLess l (m - 1) n:=by
 intro j x hj hx
 by_cases e:j = m - 1
 ·subst e
  rw [hy] at hx
  cases hx
  exact hn
 ·exact h j x (by omega) hx
theorem sN:cQ [] = []:=rfl
theorem kf:∀ (l:List Int) (a:Int),a≤l.foldl max a∧(∀ x ∈ l,x≤l.foldl max a)∧(l.foldl max a = a∨l.foldl max a ∈ l)
 |[],a=>⟨Int.le_refl _,by simp,.inl rfl⟩
 |x::l,a=>by
  obtain ⟨h1,h2,h3⟩:=kf l (max a x)
  refine ⟨by rw [List.foldl_cons];omega,fun y hy=>?_,?_⟩
  ·rw [List.foldl_cons]
   rcases List.mem_cons.1 hy with rfl|hy
   ·omega
   ·exact h2 y hy
  ·rw [List.foldl_cons]
   rcases h3 with h3|h3
   ·rw [h3]
    by_cases e:a≤x
    ·exact .inr (by rw [show max a x = x by omega];simp)
    ·exact .inl (by omega)
   ·exact .inr (List.mem_cons_of_mem _ h3)
theorem j8:∀ (l:List Int) (a:Int),l.foldl min a≤a∧(∀ x ∈ l,l.foldl min a≤x)∧(l.foldl min a = a∨l.foldl min a ∈ l)
 |[],a=>⟨Int.le_refl _,by simp,.inl rfl⟩
 |x::l,a=>by
  obtain ⟨h1,h2,h3⟩:=j8 l (min a x)
  refine ⟨by rw [List.foldl_cons];omega,fun y hy=>?_,?_⟩
  ·rw [List.foldl_cons]
   rcases List.mem_cons.1 hy with rfl|hy
   ·omega
   ·exact h2 y hy
  ·rw [List.foldl_cons]
   rcases h3 with h3|h3
   ·rw [h3]
    by_cases e:x≤a
    ·exact .inr (by rw [show min a x = x by omega];simp)
    ·exact .inl (by omega)
   ·exact .inr (List.mem_cons_of_mem _ h3)
theorem w9 {xs:List Int} (h0:0 < xs.length):ew xs ∈ xs∧∀ x ∈ xs,x≤ew xs:=by
 cases xs with
 |nil=>simp at h0
 |cons a l=>
  obtain ⟨h1,h2,h3⟩:=kf l a
  have e:ew (a::l) = l.foldl max a:=rfl
  rw [e]
  refine ⟨?_,fun x hx=>?_⟩
  ·rcases h3 with h3|h3
   ·rw [h3];simp
   ·exact List.mem_cons_of_mem _ h3
  ·rcases List.mem_cons.1 hx with rfl|hx
   ·exact h1
   ·exact h2 x hx
theorem xe {xs:List Int} (h0:0 < xs.length):eJ xs ∈ xs∧∀ x ∈ xs,eJ xs≤x:=by
 cases xs with
 |nil=>simp at h0
 |cons a l=>
  obtain ⟨h1,h2,h3⟩:=j8 l a
  have e:eJ (a::l) = l.foldl min a:=rfl
  rw [e]
  refine ⟨?_,fun x hx=>?_⟩
  ·rcases h3 with h3|h3
   ·rw [h3];simp
   ·exact List.mem_cons_of_mem _ h3
  ·rcases List.mem_cons.1 hx with rfl|hx
   ·exact h1
   ·exact h2 x hx
theorem tG {xs:List Int} (h0:0 < xs.length):(cQ xs)[0]? = some (ew xs):=by
 have hl:=gD xs
 have hx:=List.getElem?_eq_getElem (show 0 < (cQ xs).length by omega)
 have hm:=w9 h0
 rw [hx]
 congr 1
 have h1:(cQ xs)[0] ∈ xs:=(fX xs).mem_iff.1 (List.getElem_mem _)
 have h2:=hm.2 _ h1
 have h3:=(fX xs).mem_iff.2 hm.1
 obtain ⟨i,hi,he⟩:=List.getElem_of_mem h3
 rcases Nat.eq_zero_or_pos i with e|e
 ·subst e;exact he
 ·have h4:=List.pairwise_iff_getElem.1 (iA xs) 0 i (by omega) hi e
  omega
theorem sR {xs:List Int} (h0:0 < xs.length):(cQ xs)[xs.length - 1]? = some (eJ xs):=by
 have hl:=gD xs
 have hx:=List.getElem?_eq_getElem (show xs.length - 1 < (cQ xs).length by omega)
 have hm:=xe h0
 rw [hx]
 congr 1
 have h1:(cQ xs)[xs.length - 1] ∈ xs:=(fX xs).mem_iff.1 (List.getElem_mem _)
 have h2:=hm.2 _ h1
 have h3:=(fX xs).mem_iff.2 hm.1
 obtain ⟨i,hi,he⟩:=List.getElem_of_mem h3
 by_cases e:i = xs.length - 1
 ·subst e;exact he
 ·have h4:=List.pairwise_iff_getElem.1 (iA xs) i (xs.length - 1) hi (by omega) (by omega)
  omega
theorem vr (xs:List Int):ew (xs.take 1) = xs.headD 0:=by cases xs<;>rfl
theorem vj (xs:List Int):eJ (xs.take 1) = xs.headD 0:=by cases xs<;>rfl
theorem uB {xs:List Int} {k:Nat} {x:Int} (h0:0 < k) (hx:xs[k]? = some x):ew (xs.take (k + 1)) = max (ew (xs.take k)) x:=by
 rw [bJ hx]
 cases xs with
 |nil=>simp at hx
 |cons a l=>
  obtain ⟨m,rfl⟩:∃ m,k = m + 1:=⟨k - 1,by omega⟩
  simp [ew,List.foldl_append]
theorem uL {xs:List Int} {k:Nat} {x:Int} (h0:0 < k) (hx:xs[k]? = some x):eJ (xs.take (k + 1)) = min (eJ (xs.take k)) x:=by
 rw [bJ hx]
 cases xs with
 |nil=>simp at hx
 |cons a l=>
  obtain ⟨m,rfl⟩:∃ m,k = m + 1:=⟨k - 1,by omega⟩
  simp [eJ,List.foldl_append]
end Go.Proofs.YtphakidbddamfaaGreat
