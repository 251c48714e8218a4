/-
  The abstract machine: an empty row counts as one that owns its parts; a cut where two ways meet. No program is named here.
-/
import Derived.Test.YtphakidbddamfaaGreatZTk
import Derived.Test.YtphakidbddamfaaGreatZMsh
import Derived.Test.YtphakidbddamfaaGreatZPg
import Derived.Test.YtphakidbddamfaaGreatZPga
namespace Go.Proofs.YtphakidbddamfaaGreat
open Go.RowKit
theorem RR.empty {Y:Nat→Prop} {B:Nat} {w:World} {ty:TypeId} {sz:Nat} {v:Value} {g:Nat→Prop} (h:RR Y B w (.row ty sz []) v g):RR Y B w (.deep ty sz []) v g:=by
 cases h with
 |nil=>exact .dnil ty sz
 |row _ _ _ g c arr hB hh hc=>
  have e:(fun b=>b = g) = fun b=>b = g∨(fun _:Nat=>False) b:=by funext b;simp
  rw [e]
  exact .deep ty sz [] g c (fun _=>False) hB (fun _ h=>h.elim) ⟨fun h=>h,arr,hh,hc.1,hc.2.1,hc.2.2.1,hc.2.2.2.1,fun _ _ _=>False,fun _ _ _ h=>h,fun _ _ _ _ _ h=>h.elim,fun k e j d v he=>by simp at he⟩
theorem FnEq.deepen {P:Program} {f:FuncId} {args:List PV} {ty:TypeId} {sz:Nat} (h:FnEq P f args [.row ty sz []]):FnEq P f args [.deep ty sz []]:=
 ⟨h.1,fun w X vals h0 h1 h2 h3=>(h.2 w X vals h0 h1 h2 h3).mono fun e w' ⟨rs,e1,vs,gs,q1,q2,q3,q4,q5⟩=>by
  subst e1
  refine ⟨_,rfl,vs,gs,q1,q2,q3,q4,fun i r v hr hv=>?_⟩
  cases i with
  |succ i=>cases hr
  |zero=>
   cases hr
   exact (q5 0 _ v rfl hv).empty⟩
theorem dF {P:Program} {x z:Code} {Q:Exit→AS→Prop} {s:AS} {α:Type} (I:α→AS) (J:α→Prop) (h:∀ K:AS→Prop,(∀ a s',J a→jH s' (I a)→K s')→PW P x (et K Q) s) (h2:∀ a,J a→PW P z Q (I a)):PW P x (et (PW P z Q) Q) s:=h _ fun a _ hJ hf=>no hf (h2 a hJ)
theorem ur {P:Program} {o:Oper} {s:AS} {K:AS→Prop} (id:Nat) {ty:TypeId} {sz:Nat} {es:List (List D)} (hg:ab s.hp id = some (.row ty sz es)) (hfl:i7 es) (h:PO P o ⟨s.fr,bf s.hp id (.deep 0 ty sz es),s.nx⟩ K):PO P o s K:=by
 intro X0 w0 m a w Q hs
 obtain ⟨l,hl,hok⟩:=hs.hp id _ hg
 have hdp:DpOk w (fun _=>False) ty sz es (some l):=by
  cases l with
  |nil=>exact ⟨hok,fun _ h=>h⟩
  |blk b c=>
   obtain ⟨arr,hh,hc⟩:=hok
   exact ⟨fun h=>h,arr,hh,hc.1,hc.2.1,hc.2.2.1,hc.2.2.2.1,fun _ _ _=>False,fun _ _ _ h=>h,fun _ _ _ _ _ h=>h.elim,fun k e j d v he hd hv=>(hc.2.2.2.2 k e j d v he hd hv).tr (hfl e (List.mem_of_getElem? he) d (List.mem_of_getElem? hd))⟩
 refine h X0 w0 (bT m id l fun _=>False) a w Q ?_
 refine hs.changeD (i:=id) (blk':=.deep 0 ty sz es) (F':=fun _=>False) (fun b=>l.at b) (.inr hl) (by rw [bu];simp [hg]) (fun id' hne blk hb=>by rw [bu,if_neg hne] at hb;exact hb) rfl (fun id' par k j hne ha'=>?_) (Nat.le_refl _) (hs.lt_nx hl) (KeepB.refl _ _) (fun _ _ _=>rfl) (fun b ⟨c,hb⟩=>⟨id,_,hg,⟨c,by rw [hl,hb]⟩,.inl rfl⟩) (fun b hb=>?_) (fun p e=>by cases e) (fun p ty' sz' es' e=>?_) fun _=>trivial
 ·rw [bu,if_neg hne] at ha'
  obtain ⟨q,ty',sz',es2,_,_,_,_,_,_,a1,_⟩:=hs.al id' par k j ha'
  have hpar:par≠id:=fun e=>by subst e;rw [hg] at a1;cases a1
  exact .inl ⟨hpar,by rw [bu,if_neg hpar]⟩
 ·rcases hb with ⟨c,hc⟩|hf
  ·rw [bt] at hc
   have hat:l.at b:=⟨c,Option.some.inj hc⟩
   have:=hs.own id _ b hg ⟨c,by rw [hl];exact hc⟩
   exact ⟨this.1,this.2,.inr hat⟩
  ·rw [fR] at hf
   exact hf.elim
 ·cases e
  exact hdp
end Go.Proofs.YtphakidbddamfaaGreat
set_option linter.unusedSimpArgs false
set_option linter.unusedVariables false
set_option maxHeartbeats 2000000
set_option maxRecDepth 100000
namespace Go.Proofs.YtphakidbddamfaaGreat
open Go.RowKit
theorem kg (l:List ItemD) (hn:l.length≤1048576) (hs:∀ r ∈ l,ItFit 1048576 r):FnEq Tryz.prog 120 [.d (.lst 3 (l.map ItemD.dat))] [.deep 143 3 (l.map ItemD.dat)]:=by
 have h:=iE l hn hs
 unfold eg at h
 split at h
 ·rename_i h0
  rw [List.length_eq_zero_iff.1 h0] at h ⊢
  exact h.deepen
 ·exact h
def itB (x:ItemD):Prop:=1≤x.names.length∧x.names.length≤3∧x.marks.length = x.names.length∧∀ s ∈ x.names,s.size≤8
theorem itB.fit {x:ItemD} (h:itB x):ItFit 1048576 x:=⟨by have:=h.2.1;omega,fun s hs=>by have:=h.2.2.2 s hs;omega,by have:=h.2.1;have:=h.2.2.1;omega⟩
def qy (n:Nat):List (List D):=List.replicate n [.int .i64 0]
theorem wX (n:Nat):(qy n).length = n:=List.length_replicate
theorem vi (n:Nat):qy (n + 1) = qy n++[[.int .i64 0]]:=List.replicate_succ'
theorem wR (n:Nat):qy n = (List.replicate n (0:Int)).map aa:=by unfold qy;rw [List.map_replicate];rfl
def yL (q:CodeD × List ItemD):Prop:=pcB q.1∧q.2.length≤9∧∀ x ∈ q.2,itB x
theorem kz {k:Nat} {cs:List D} (hC:Cur k cs) (hk:k≤1000000000):FnC Tryz.prog 173 3 [] cs (dd (k + 900) yL fun q=>[.row 161 4 (q.1.elements.map ElementD.dat),.row 3 1 (q.1.limits.map aa),.d (.int .i64 q.1.repeats),.d (.int .i64 q.1.bonus),.d (.int .i64 q.1.keeps),.d (.int .i64 q.1.fall),.deep 143 3 (q.2.map ItemD.dat)]) (.grp [some 6,none]):=by
 refine cq ae Tryz.func173 rfl rfl hC.len fun ty=>?_;simp only [Tryz.ntmps173,aP,aK,Nat.reduceAdd,Nat.reduceSub,aH,aG,ao,aV]
 repeat' (first|with_reducible refine bs (id:=2) ?_|with_reducible refine br (id:=2) ?_|((with_reducible first|(apply hK;clear hK K)|refine ah fun U O=>?_|apply ag|(apply Z<;>(intro hc;try simp at hc;try omega)))<;>try simp only [go_sem])|(with_reducible first|apply aj|(apply O;clear O U)|refine kN dK fun K hK=>?_|refine kO fun K hK=>?_|refine aI ?_)|(refine xS rfl fun U O=>?_;simp only [go_sem])|apply iB)
 refine CallK.curA (some 0) (jU hC (by omega)) rfl rfl rfl rfl rfl rfl ?_
 rintro c2 _ ⟨x,hx,rfl,hC⟩
 try simp only [aU,go_sem]
 obtain ⟨es,L,re,bo,ke,fa⟩:=x
 obtain ⟨e1,e24,es8,hL5⟩:=hx
 simp only at e1 e24 es8 hL5
 repeat' (first|with_reducible refine bs (id:=2) ?_|with_reducible refine br (id:=2) ?_|((with_reducible first|(apply hK;clear hK K)|refine ah fun U O=>?_|apply ag|(apply Z<;>(intro hc;try simp at hc;try omega)))<;>try simp only [go_sem])|(with_reducible first|apply aj|(apply O;clear O U)|refine kN dK fun K hK=>?_|refine kO fun K hK=>?_|refine aI ?_)|(refine xS rfl fun U O=>?_;simp only [go_sem])|apply iB)
 refine dF (fun q:List Int × List D=>⟨⟨78,[(0,.bptr 0 0),(2,.bptr 1 0),(4,.bptr 2 0)]⟩,[(0,.pbox 0 ty (q.2.map .d)),(1,.box 42 [.d (.lst 4 []),.d (.lst 1 []),.d (.int .i64 0),.d (.int .i64 0),.d (.int .i64 0),.d (.int .i64 0)]),(2,.box 42 [.row 3 es.length,.row 4 q.1.length,.d (.int .i64 re),.d (.int .i64 bo),.d (.int .i64 ke),.d (.int .i64 fa)]),(3,.row 161 4 (es.map ElementD.dat)),(4,.row 3 1 (q.1.map aa))],5⟩) (fun q=>q.1.length = 5∧Cur (k + 602) q.2) ?_ ?_
 ·intro K hK
  repeat' (first|((with_reducible first|(apply hK;clear hK K)|refine ah fun U O=>?_|apply ag|(apply Z<;>(intro hc;try simp at hc;try omega)))<;>try simp only [go_sem])|(with_reducible first|apply aj|(apply O;clear O U)|refine kN dK fun K hK=>?_|refine kO fun K hK=>?_|refine aI ?_)|(refine xS rfl fun U O=>?_;simp only [go_sem])|((first|refine CallK.cur (some 0) (bQ hC (by omega)) rfl rfl rfl rfl rfl rfl ?_);rintro c2 _ ⟨x,hx,rfl,hC⟩;try simp only [aU,go_sem])|((first|refine CallK.cur (some 0) (bQ hC (by omega)) rfl rfl rfl rfl rfl rfl ?_);rintro c2 _ ⟨x,hx,rfl,hC⟩;try simp only [aU,go_sem])|apply iB)
  ·refine aA [3,5,18,19,20,21,22,23,24,25] (fun q:Nat × List Int=>[(0,.bptr 0 0),(2,.bptr 1 0),(4,.bptr 2 0),(18,.d (.int .i64 (q.1:Int))),(3,.und),(14,.und)]) (fun q=>[(0,.pbox 0 ty (c2.map .d)),(1,.box 42 [.d (.lst 4 []),.d (.lst 1 []),.d (.int .i64 0),.d (.int .i64 0),.d (.int .i64 0),.d (.int .i64 0)]),(2,.box 42 [.row 3 es.length,.row 4 q.2.length,.d (.int .i64 re),.d (.int .i64 bo),.d (.int .i64 ke),.d (.int .i64 fa)]),(3,.row 161 4 (es.map ElementD.dat)),(4,.row 3 1 (q.2.map aa))]) 5 (fun q=>q.1≤L.length∧q.2.length = 5) (fun q=>L.length - q.1) (0,L) ⟨by simp,hL5⟩ (an [] (by simp [lk,ab]<;>omega)) ?_
   rintro ⟨i,M⟩ ⟨hi,hM⟩;simp only [bc,wipe,wl,bb,bx,rm,if_true,if_false,Nat.reduceEqDiff,Bool.false_eq_true,reduceCtorEq]
   simp only at hi hM
   by_cases hlt:i < L.length
   ·have hiM:i < M.length:=by omega
    obtain ⟨v,hv⟩:∃ v,M[i]? = some v:=⟨_,List.getElem?_eq_getElem hiM⟩
    have bf:(List.map aa M).set i [D.int .i64 9] = List.map aa (M.set i 9):=by rw [List.map_set];rfl
    repeat' (first|((with_reducible first|(apply hK;clear hK K)|refine ah fun U O=>?_|apply ag|(apply Z<;>(intro hc;try simp at hc;try omega)))<;>try simp only [go_sem,hlt,hiM,bf,cf,ap,hv,ar,aa])|(with_reducible first|apply aj|(apply O;clear O U)|refine kN dK fun K hK=>?_|refine kO fun K hK=>?_|refine aI ?_)|(refine xS rfl fun U O=>?_;simp only [go_sem,hlt,hiM,bf,cf,ap,hv,ar,aa])|apply iB)
    all_goals first
     |(exfalso;omega)
     |exact ⟨(i + 1,M.set i 9),⟨by simp only;omega,by simp only [cf];omega⟩,by simp only;omega,(an [] (by simp [lk,ab,bf,cf,-List.map_set]<;>omega))⟩
   ·repeat' (first|((with_reducible first|(apply hK;clear hK K)|refine ah fun U O=>?_|apply ag|(apply Z<;>(intro hc;try simp at hc;try omega)))<;>try simp only [go_sem,hlt])|(with_reducible first|apply aj|(apply O;clear O U)|refine kN dK fun K hK=>?_|refine kO fun K hK=>?_|refine aI ?_)|(refine xS rfl fun U O=>?_;simp only [go_sem,hlt])|apply iB)
    exact hK (M,c2) _ ⟨hM,hC⟩ (an [] (by simp [lk,ab]<;>omega))
  ·exact hK (L,c2) _ ⟨hL5,hC⟩ (an [] (by simp [lk,ab]<;>omega))
 ·rintro ⟨L,c0⟩ ⟨hL5,hC0⟩
  simp only at hL5 hC0
  dsimp only
  repeat' (first|((with_reducible first|(apply hK;clear hK K)|refine ah fun U O=>?_|apply ag|(apply Z<;>(intro hc;try simp at hc;try omega)))<;>try simp only [go_sem])|(with_reducible first|apply aj|(apply O;clear O U)|refine kN dK fun K hK=>?_|refine kO fun K hK=>?_|refine aI ?_)|(refine xS rfl fun U O=>?_;simp only [go_sem])|((first|refine CallK.cur (some 0) (a_ hC0 (by omega)) rfl rfl rfl rfl rfl rfl ?_);rintro c2 _ ⟨x,hx,rfl,hC⟩;try simp only [aU,go_sem])|((first|refine CallK.cur (some 0) (a_ hC0 (by omega)) rfl rfl rfl rfl rfl rfl ?_);rintro c2 _ ⟨x,hx,rfl,hC⟩;try simp only [aU,go_sem])|apply iB)
  obtain ⟨n,hn⟩:∃ n:Nat,1 + x = (n:Int):=⟨(1 + x).toNat,by omega⟩
  have hn9:n≤9:=by omega
  rw [hn]
  refine cS 5 rfl (by intro e he;cases he) ?_
  simp only [go_sem]
  replace hC:Cur (k + 604) c2:=hC.mono (by omega)
  clear hC0 hx hn
  refine aA [3,6,7,8,9,10,29,30,31,32,33,34,35,36,37,38,39,40,41,42,43,44,45,46,47,48,49,50,51,52,53,54,55,56,57,58,59,60,61,62,63,64,65,66,67,68,69,70,71,72,73,74,75] (fun q:Nat × List ItemD × List D=>[(0,.bptr 0 0),(2,.bptr 1 0),(4,.bptr 2 0),(7,.d (.int .i64 (q.1:Int))),(6,.row 5 q.2.1.length)]) (fun q=>[(0,.pbox 0 ty (q.2.2.map .d)),(1,.box 42 [.d (.lst 4 []),.d (.lst 1 []),.d (.int .i64 0),.d (.int .i64 0),.d (.int .i64 0),.d (.int .i64 0)]),(2,.box 42 [.row 3 es.length,.row 4 L.length,.d (.int .i64 re),.d (.int .i64 bo),.d (.int .i64 ke),.d (.int .i64 fa)]),(3,.row 161 4 (es.map ElementD.dat)),(4,.row 3 1 (L.map aa)),(5,.deep 0 143 3 (q.2.1.map ItemD.dat))]) 6 (fun q=>q.1 + q.2.1.length≤9∧Cur (k + 604 + 30 * (9 - q.1)) q.2.2∧∀ x ∈ q.2.1,itB x) (fun q=>q.1) (n,[],c2) ⟨by simp;omega,hC.mono (by simp),by simp⟩ (an [] (by simp [lk,ab]<;>omega)) ?_
  rintro ⟨j,l,c0⟩ ⟨hj,hC0,hl⟩;simp only [bc,wipe,wl,bb,bx,rm,if_true,if_false,Nat.reduceEqDiff,Bool.false_eq_true,reduceCtorEq]
  simp only at hj hC0 hl
  by_cases hj0:0 < j
  ·obtain ⟨i,rfl⟩:∃ i,j = i + 1:=⟨j - 1,by omega⟩
   have hj':(0:Int) < ((i + 1:Nat):Int):=by omega
   repeat' (first|with_reducible refine bs (id:=12) ?_|with_reducible refine br (id:=12) ?_|((with_reducible first|(apply hK;clear hK K)|refine ah fun U O=>?_|apply ag|(apply Z<;>(intro hc;try simp at hc;try omega)))<;>try simp only [go_sem,hj'])|(with_reducible first|apply aj|(apply O;clear O U)|refine kN dK fun K hK=>?_|refine kO fun K hK=>?_|refine aI ?_)|(refine xS rfl fun U O=>?_;simp only [go_sem,hj'])|apply iB)
   all_goals first
    |(exfalso;omega)
    |skip
   unfold eu
   refine cM (cI ?_)
   refine dH 9 1 3 1 rfl (ae _ _ dY) rfl ?_
   refine bw ae ?_
   simp only [go_sem]
   refine bw ae ?_
   simp only [go_sem,gc,fz]
   refine aZ ?_
   repeat' (first|((with_reducible first|(apply hK;clear hK K)|refine ah fun U O=>?_|apply ag|(apply Z<;>(intro hc;try simp at hc;try omega)))<;>try simp only [go_sem])|(with_reducible first|apply aj|(apply O;clear O U)|refine kN dK fun K hK=>?_|refine kO fun K hK=>?_|refine aI ?_)|(refine xS rfl fun U O=>?_;simp only [go_sem])|((first|refine CallK.cur (some 0) (bv (l:=[1,1,1,1,2,2,3]) hC0 (by omega) (by simp) (by simp)) rfl rfl rfl rfl rfl rfl ?_);rintro c2 _ ⟨x,hx,rfl,hC⟩;try simp only [aU,go_sem])|((first|refine CallK.cur (some 0) (bv (l:=[1,1,1,1,2,2,3]) hC0 (by omega) (by simp) (by simp)) rfl rfl rfl rfl rfl rfl ?_);rintro c2 _ ⟨x,hx,rfl,hC⟩;try simp only [aU,go_sem])|apply iB)
   have h3:1≤x∧x≤3:=by simp at hx;omega
   obtain ⟨m,rfl⟩:∃ m:Nat,x = (m:Int):=⟨x.toNat,by omega⟩
   clear hx
   replace hC:Cur (k + 604 + 30 * (9 - (i + 1)) + 2) c2:=hC
   refine aA [3,37,38,39,40,41,42,43,44,45,46,47,48,49,50,51,52,53,54,55,56,57,58,59,60,61] (fun q:List ByteArray × List D=>[(0,.bptr 0 0),(2,.bptr 1 0),(4,.bptr 2 0),(8,.bptr 6 0),(6,.row 5 l.length),(33,.und)]) (fun q=>[(0,.pbox 0 ty (q.2.map .d)),(1,.box 42 [.d (.lst 4 []),.d (.lst 1 []),.d (.int .i64 0),.d (.int .i64 0),.d (.int .i64 0),.d (.int .i64 0)]),(2,.box 42 [.row 3 es.length,.row 4 L.length,.d (.int .i64 re),.d (.int .i64 bo),.d (.int .i64 ke),.d (.int .i64 fa)]),(3,.row 161 4 (es.map ElementD.dat)),(4,.row 3 1 (L.map aa)),(5,.deep 0 143 3 (l.map ItemD.dat)),(6,.box 143 [.row 7 q.1.length,.row 8 q.1.length,.d (.bool false)]),(7,.row 9 1 (q.1.map aX)),(8,.row 3 1 (qy q.1.length))]) 9 (fun q=>q.1.length≤m∧Cur (k + 604 + 30 * (9 - (i + 1)) + 2 + 2 * q.1.length) q.2∧∀ s ∈ q.1,s.size≤8) (fun q=>m - q.1.length) ([],c2) ⟨by simp,hC.mono (by simp),by simp⟩ (an [(7,6),(8,7)] (by simp [lk,ab,qy]<;>omega)) ?_
   rintro ⟨g,c0⟩ ⟨hg,hC0,hgs⟩;simp only [bc,wipe,wl,bb,bx,rm,if_true,if_false,Nat.reduceEqDiff,Bool.false_eq_true,reduceCtorEq]
   simp only at hg hC0 hgs
   have hzl:=wX g.length
   by_cases hgm:g.length < m
   ·have hgm':(g.length:Int) < (m:Int):=by omega
    repeat' (first|((with_reducible first|(apply hK;clear hK K)|refine ah fun U O=>?_|apply ag|(apply Z<;>(intro hc;try simp at hc;try omega)))<;>try simp only [go_sem,hgm',ao])|(with_reducible first|apply aj|(apply O;clear O U)|refine kN dK fun K hK=>?_|refine kO fun K hK=>?_|refine aI ?_)|(refine xS rfl fun U O=>?_;simp only [go_sem,hgm',ao])|apply iB)
    all_goals first
     |(exfalso;omega)
     |skip
    refine cb 16 dK ay rfl (fun K hK=>?_)
    refine aT 0 rfl rfl rfl (aY rfl (ae _ _ dY) rfl rfl) ?_
    try (first|simp only [go_sem,aB,aD,aE,ao,ap,ar,ElementD.dat,he,hea]|simp only [go_sem,aB,aD,aE,ao,ap,ar,ElementD.dat])
    refine aT 2 rfl rfl rfl (aY rfl (ae _ _ gX) rfl rfl) ?_
    try (first|simp only [go_sem,aB,aD,aE,ao,ap,ar,ElementD.dat,he,hea]|simp only [go_sem,aB,aD,aE,ao,ap,ar,ElementD.dat])
    refine aT 4 rfl rfl rfl (aM (.inl rfl)) ?_
    try (first|simp only [go_sem,aB,aD,aE,ao,ap,ar,ElementD.dat,he,hea]|simp only [go_sem,aB,aD,aE,ao,ap,ar,ElementD.dat])
    refine aT 5 rfl rfl rfl (aY rfl (ae _ _ gX) rfl rfl) ?_
    try (first|simp only [go_sem,aB,aD,aE,ao,ap,ar,ElementD.dat,he,hea]|simp only [go_sem,aB,aD,aE,ao,ap,ar,ElementD.dat])
    repeat' (first
     |((with_reducible refine O _ ?_);clear O U;try (first|simp only [go_sem,aB,aD,aE,ao,ap,ar,ElementD.dat,he,hea]|simp only [go_sem,aB,aD,aE,ao,ap,ar,ElementD.dat]))
     |((with_reducible refine bB ?_);first
      |(refine aT 7 rfl rfl rfl (vz rfl (ae _ _ wj) rfl) ?_;try (first|simp only [go_sem,aB,aD,aE,ao,ap,ar,ElementD.dat,he,hea]|simp only [go_sem,aB,aD,aE,ao,ap,ar,ElementD.dat]))
      |(refine aT 14 rfl rfl rfl (aY rfl (ae _ _ dY) rfl rfl) ?_;try (first|simp only [go_sem,aB,aD,aE,ao,ap,ar,ElementD.dat,he,hea]|simp only [go_sem,aB,aD,aE,ao,ap,ar,ElementD.dat]))
      |((first|((with_reducible first|refine aS (fuel:=11) [1,3,6] ?_|refine aS (fuel:=9) [1,3,8] ?_);refine ⟨⟨_,rfl,fun U O=>?_⟩,⟨_,rfl,fun U O=>?_⟩,⟨_,rfl,fun U O=>?_⟩,trivial⟩)|((with_reducible first|refine aS (fuel:=10) [3,6] ?_|refine aS (fuel:=10) [1,6] ?_|refine aS (fuel:=8) [3,8] ?_|refine aS (fuel:=8) [1,8] ?_|refine aS (fuel:=8) [1,3] ?_|refine aS (fuel:=7) [1,9] ?_|refine aS (fuel:=6) [1,10] ?_|refine aS (fuel:=5) [1,11] ?_|refine aS (fuel:=4) [1,12] ?_);refine ⟨⟨_,rfl,fun U O=>?_⟩,⟨_,rfl,fun U O=>?_⟩,trivial⟩)|((with_reducible first|refine aS (fuel:=9) [6] ?_|refine aS (fuel:=7) [8] ?_|refine aS (fuel:=7) [3] ?_|refine aS (fuel:=6) [9] ?_|refine aS (fuel:=5) [10] ?_|refine aS (fuel:=4) [11] ?_|refine aS (fuel:=3) [12] ?_|refine aS (fuel:=3) [1] ?_|refine aS (fuel:=2) [13] ?_|refine aS (fuel:=0) [15] ?_);refine ⟨⟨_,rfl,fun U O=>?_⟩,trivial⟩))<;>((first|with_reducible refine bA rfl ?_|refine bl rfl ?_);(first|simp only [go_sem,aB,aD,aE,ao,ap,ar,ElementD.dat,he,hea]|simp only [go_sem,aB,aD,aE,ao,ap,ar,ElementD.dat])))
      |(refine bi (by decide +kernel) (hK _ ?_);clear hK K;try (first|simp only [go_sem,aB,aD,aE,ao,ap,ar,ElementD.dat,he,hea]|simp only [go_sem,aB,aD,aE,ao,ap,ar,ElementD.dat])))
     |((refine CallK.cur (some 0) (a_ hC0 (by omega)) rfl rfl rfl rfl rfl rfl ?_);(rintro c3 _ ⟨u,hu,rfl,hC3⟩);(obtain ⟨a,rfl⟩:∃ a:Nat,u = (a:Int):=⟨u.toNat,by omega⟩);(have hea:a < es.length:=(by omega));(obtain ⟨e,he⟩:∃ e,es[a]? = some e:=⟨_,List.getElem?_eq_getElem hea⟩);(try simp only [aU,go_sem]);(refine O _ ?_);(clear O U);(try simp only [go_sem]))
     |with_reducible refine aI ?_)
    all_goals
     skip
    all_goals
     repeat' (first|((with_reducible first|(apply hK;clear hK K)|refine ah fun U O=>?_|apply ag|(apply Z<;>(intro hc;try simp at hc;try omega)))<;>try simp only [go_sem,hzl])|(with_reducible first|apply aj|(apply O;clear O U)|refine kN dK fun K hK=>?_|refine kO fun K hK=>?_|refine aI ?_)|(refine xS rfl fun U O=>?_;simp only [go_sem,hzl])|apply iB)
     exact ⟨(g++[e.name],c3),⟨by simp;omega,hC3.mono (by simp;omega),cl hgs (es8 e (List.mem_of_getElem? he))⟩,by simp;omega,(an [(7,14),(8,16)] (by simp [lk,ab,aX,vi]<;>omega))⟩
   ·have hgm':¬ (g.length:Int) < (m:Int):=by omega
    have hxb:itB ⟨g,List.replicate g.length 0,false⟩:=⟨by simp only;omega,by simp only;omega,by simp,hgs⟩
    have hap:List.map ItemD.dat l++[ItemD.dat ⟨g,List.replicate g.length 0,false⟩] = List.map ItemD.dat (l++[⟨g,List.replicate g.length 0,false⟩]):=by simp
    have hl2b:=cl (p:=itB) hl hxb
    have hfit:=fun r hr=>(hl r hr).fit
    have hfit2:∀ r ∈ l++[(⟨g,List.replicate g.length 0,false⟩:ItemD)],ItFit 1048576 r:=fun r hr=>(hl2b r hr).fit
    have hown:=kg l (by omega) hfit
    rw [wR]
    repeat' (first|((with_reducible first|(apply hK;clear hK K)|refine ah fun U O=>?_|apply ag|(apply Z<;>(intro hc;try simp at hc;try omega)))<;>try simp only [go_sem,hgm',ao])|(with_reducible first|apply aj|(apply O;clear O U)|refine kN dK fun K hK=>?_|refine kO fun K hK=>?_|refine aI ?_)|(refine xS rfl fun U O=>?_;simp only [go_sem,hgm',ao])|apply iB)
    all_goals first
     |(exfalso;omega)
     |skip
    refine cb 7 dK ay rfl (fun K hK=>?_)
    refine aT 0 rfl rfl rfl (aM (.inl rfl)) ?_
    try simp only [go_sem,aB,aD,aE,hap,ao,List.length_append,aP,aK]
    repeat' (first
     |((with_reducible refine O _ ?_);clear O U;try simp only [go_sem,aB,aD,aE,hap,ao,List.length_append,aP,aK])
     |((with_reducible refine bB ?_);first
      |(refine aT 6 rfl rfl rfl (aM (.inr rfl)) ?_;try simp only [go_sem,aB,aD,aE,hap,ao,List.length_append,aP,aK])
      |((first|((with_reducible first|refine aS (fuel:=5) [1,2] ?_|refine aS (fuel:=4) [1,3] ?_);refine ⟨⟨_,rfl,fun U O=>?_⟩,⟨_,rfl,fun U O=>?_⟩,trivial⟩)|((with_reducible first|refine aS (fuel:=4) [2] ?_|refine aS (fuel:=3) [3] ?_|refine aS (fuel:=3) [1] ?_|refine aS (fuel:=2) [4] ?_|refine aS (fuel:=1) [5] ?_);refine ⟨⟨_,rfl,fun U O=>?_⟩,trivial⟩))<;>((first|with_reducible refine bA rfl ?_|refine bl rfl ?_);simp only [go_sem,aB,aD,aE,hap,ao,List.length_append,aP,aK]))
      |(refine bi (by decide +kernel) (hK _ ?_);clear hK K;try simp only [go_sem,aB,aD,aE,hap,ao,List.length_append,aP,aK]))
     |((with_reducible apply CallK.eq);(focus (with_reducible first|exact hown));(focus (first|exact rfl|(simp [RV.flat,D.sc,aa];done)));try simp only [go_sem,aB,aD,aE,hap,ao,List.length_append,aP,aK])
     |((refine bq (cs:=[.row 7 g.length,.row 8 g.length,.d (.bool false)]) (ds:=ItemD.dat ⟨g,List.replicate g.length 0,false⟩) rfl (ae _ _ ff) (by decide) rfl (by simp [dm,dA,ab,D.scB,ItemD.dat]) (by simp [a9]) (by simp only [cD,cr,ab,if_true,if_false,Nat.reduceEqDiff];exact ⟨cP _,bU _,trivial,trivial⟩) ?_);(try simp only [go_sem]);(refine O _ ?_);(clear O U);(try simp only [go_sem]))
     |((refine bG (es:=l.map ItemD.dat) (fs:=[ItemD.dat ⟨g,List.replicate g.length 0,false⟩]) (n:=l.length) (n2:=1) rfl (ae _ _ ff) rfl rfl rfl rfl (by decide) (by simp) rfl (by exact True.intro) (by exact True.intro) (by simp<;>omega) ?_);(try simp only [go_sem]);(refine O _ ?_);(clear O U);(try simp only [go_sem]))
     |((refine CallK.of (kB (l++[⟨g,List.replicate g.length 0,false⟩]) (by simp;omega) hfit2) ?_);(rintro _ ⟨l2,hl2,rfl⟩);(refine ⟨(fun _=>by simp [RV.flat]),?_⟩);(try simp only [go_sem]);(refine O _ ?_);(clear O U);(try simp only [go_sem]))
     |with_reducible refine aI ?_)
    all_goals
     skip
    all_goals
     have hl2l:=hl2.1
     have hl2i:∀ r ∈ l2,itB r:=by
      intro r hr
      obtain ⟨a,ha⟩:=List.getElem?_of_mem hr
      obtain ⟨y,h1,h2,h3⟩:=hl2.2 a r ha
      have hb:=hl2b y (List.mem_of_getElem? h1)
      unfold itB at *
      rw [h2,h3]
      exact hb
     clear hl2
     repeat' (first|((with_reducible first|(apply hK;clear hK K)|refine ah fun U O=>?_|apply ag|(apply Z<;>(intro hc;try simp at hc;try omega)))<;>try simp only [go_sem])|(with_reducible first|apply aj|(apply O;clear O U)|refine kN dK fun K hK=>?_|refine kO fun K hK=>?_|refine aI ?_)|(refine xS rfl fun U O=>?_;simp only [go_sem])|apply iB)
     refine CallK.of (uv ⟨es,L,re,bo,ke,fa⟩ l2 ⟨by simp only;omega,fun y hy=>by have:=es8 y hy;unfold tD;omega,by simp only;omega⟩ (by rw [hl2l];simp;omega) (fun r hr=>(hl2i r hr).fit)) ?_
     rintro _ ⟨b,_,rfl⟩
     refine ⟨(fun _=>by simp [RV.flat,D.sc]),?_⟩
     try simp only [go_sem]
     rw [List.length_append,List.length_singleton] at hl2l
     cases b
     ·repeat' (first|((with_reducible first|(apply hK;clear hK K)|refine ah fun U O=>?_|apply ag|(apply Z<;>(intro hc;try simp at hc;try omega)))<;>try simp only [go_sem])|(with_reducible first|apply aj|(apply O;clear O U)|refine kN dK fun K hK=>?_|refine kO fun K hK=>?_|refine aI ?_)|(refine xS rfl fun U O=>?_;simp only [go_sem])|apply iB)
      refine CallK.cur (some 0) (bQ hC0 (by omega)) rfl rfl rfl rfl rfl rfl ?_;rintro c2 _ ⟨x,hx,rfl,hC⟩;try simp only [aU,go_sem]
      cases x
      ·repeat' (first|((with_reducible first|(apply hK;clear hK K)|refine ah fun U O=>?_|apply ag|(apply Z<;>(intro hc;try simp at hc;try omega)))<;>try simp only [go_sem])|(with_reducible first|apply aj|(apply O;clear O U)|refine kN dK fun K hK=>?_|refine kO fun K hK=>?_|refine aI ?_)|(refine xS rfl fun U O=>?_;simp only [go_sem])|apply iB)
       exact ⟨(i,l,c2),⟨by simp only;omega,hC.mono (by simp only;omega),hl⟩,by simp only;omega,(an [] (by simp [lk,ab]<;>omega))⟩
      ·repeat' (first|((with_reducible first|(apply hK;clear hK K)|refine ah fun U O=>?_|apply ag|(apply Z<;>(intro hc;try simp at hc;try omega)))<;>try simp only [go_sem])|(with_reducible first|apply aj|(apply O;clear O U)|refine kN dK fun K hK=>?_|refine kO fun K hK=>?_|refine aI ?_)|(refine xS rfl fun U O=>?_;simp only [go_sem])|apply iB)
       exact ⟨(i,l2,c2),⟨by simp only;omega,hC.mono (by simp only;omega),hl2i⟩,by simp only;omega,(an [] (by simp [lk,ab]<;>omega))⟩
     ·repeat' (first|((with_reducible first|(apply hK;clear hK K)|refine ah fun U O=>?_|apply ag|(apply Z<;>(intro hc;try simp at hc;try omega)))<;>try simp only [go_sem])|(with_reducible first|apply aj|(apply O;clear O U)|refine kN dK fun K hK=>?_|refine kO fun K hK=>?_|refine aI ?_)|(refine xS rfl fun U O=>?_;simp only [go_sem])|apply iB)
      exact ⟨(i,l2,c0),⟨by simp only;omega,hC0.mono (by simp only;omega),hl2i⟩,by simp only;omega,(an [] (by simp [lk,ab]<;>omega))⟩
  ·obtain rfl:j = 0:=by omega
   have hj':¬ (0:Int) < ((0:Nat):Int):=by omega
   repeat' (first|((with_reducible first|(apply hK;clear hK K)|refine ah fun U O=>?_|apply ag|(apply Z<;>(intro hc;try simp at hc;try omega)))<;>try simp only [go_sem,hj'])|(with_reducible first|apply aj|(apply O;clear O U)|refine kN dK fun K hK=>?_|refine kO fun K hK=>?_|refine aI ?_)|(refine xS rfl fun U O=>?_;simp only [go_sem,hj'])|apply iB)
   refine uJ (id:=0) (xs:=[.row _ _,.row _ _,.d (.int .i64 re),.d (.int .i64 bo),.d (.int .i64 ke),.d (.int .i64 fa),.row _ _]) _ rfl rfl (by simp only [bj,bn,ab,lk,ao,if_true,if_false,Nat.reduceEqDiff,Nat.reduceBEq,Bool.false_eq_true,Option.some.injEq]<;>rfl) (by simp [am,lk]) rfl (Cur.len (by assumption)) ⟨(⟨es,L,re,bo,ke,fa⟩,l),⟨⟨by simp only;omega,by simp only;omega,es8,hL5⟩,by simp only;omega,hl⟩,rfl,Cur.mono (by assumption) (by omega)⟩
end Go.Proofs.YtphakidbddamfaaGreat
