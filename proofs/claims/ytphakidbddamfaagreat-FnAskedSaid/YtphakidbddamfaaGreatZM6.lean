/-
  The abstract machine: rows that are made and that grow. No program is named here.
-/
import Derived.Test.YtphakidbddamfaaGreatZM4
import Derived.Laws.Tables
import Derived.Laws.NewFold
namespace Go.Proofs.YtphakidbddamfaaGreat
open Go.RowKit
def Lies (w:World) (e sz:Nat) (l:Loc) (v:Value) (n:Nat) (xs:List Value):Prop:=
 match l with
 |.nil=>v = .slice none 0 0∧n = 0∧xs = []
 |.blk b c=>v = .slice (some ⟨b,0,none⟩) n c∧∃ arr,w.heap[b]? = some (.cells arr e (0,0))∧arr.size = c * sz∧n≤c∧c≤maxLen∧arr.toList.take (n * sz) = xs
theorem Lies.len {w:World} {e sz n:Nat} {l:Loc} {v:Value} {xs:List Value} (h:Lies w e sz l v n xs):xs.length = n * sz:=by
 cases l with
 |nil=>obtain ⟨_,rfl,rfl⟩:=h;simp
 |blk b c=>
  obtain ⟨_,arr,_,h2,h3,_,h5⟩:=h
  rw [←h5]
  have:n * sz≤c * sz:=Nat.mul_le_mul_right _ h3
  simp;omega
theorem mL {P:Program} {w:World} {t ty e:TypeId} {i:TypeInfo} {z:Value} (ht:P.underlying t = some (.slice e)) (hi:P.info? e = some i) (hz:i.zero = some z) {sz bytes:Nat} (hsz:i.size = sz) (hby:i.bytes = bytes) (hzs:z.cells.size = sz)
  {l:Loc} {v:Value} {n:Nat} {xs:List Value} (hl:Lies w e sz l v n xs) {A:Option Addr} {m c':Nat} {news:List Value} (hn:news.length = m * sz) (hA:A = none→m = 0) (hnews:∀ a,A = some a→∀ (j:Nat) u,news[j]? = some u→w.cell? (a.add j) = some u)
  (h1:∀ u ∈ news,u.oneCell' = true) (h63:n + m≤maxLen) (hb:(n + m) * bytes≤140737488355328):
  ∃ v' w' l',(Builtin.append_ #[t,t] ty #[v,.slice A m c']).run P w = .ok v' w'∧Lies w' e sz l' v' (n + m) (xs++news)∧w'.os = w.os∧w'.tape = w.tape∧w'.output = w.output∧(w.heap.size≤w'.heap.size∧w.drawn≤w'.drawn)∧
   (∀ k,k < w.heap.size→(∀ c,l≠.blk k c)→w'.heap[k]? = w.heap[k]?)∧(∀ g c,l' = .blk g c→g < w'.heap.size∧(w.heap.size≤g∨l = .blk g c)):=by
 subst hsz
 subst hby
 have hlen:(xs++news).length = (n + m) * i.size:=by rw [List.length_append,hl.len,hn,Nat.add_mul]
 have hsmall:n + m≤9223372036854775807:=by simp only [maxLen] at h63;omega
 have grown:∀ (old:Nat),old < n + m→Lies (w.drew.alloc (.cells (xs.toArray++news.toArray++Builtin.zeroCells z.cells (grownCap w (n + m) old e - (n + m))) e)) e i.size (.blk w.heap.size (grownCap w (n + m) old e)) (.slice (some ⟨w.heap.size,0,none⟩) (n + m) (grownCap w (n + m) old e)) (n + m) (xs++news):=by
  intro old ho
  have hge:=grownCap_ge w (n + m) old e
  refine ⟨rfl,_,heap_alloc_new w.drew _,?_,hge,grownCap_le_maxLen w (n + m) old e h63,?_⟩
  ·simp only [Array.size_append,List.size_toArray,size_zeroCells,hzs,hl.len,hn,←Nat.add_mul]
   congr 1
   omega
  ·simp only [Array.toList_append,List.append_assoc]
   rw [←List.append_assoc,←hlen]
   exact List.take_left
 have same:∀ o k,k < w.heap.size→(w.drew.alloc o).heap[k]? = w.heap[k]?:=fun o k hk=>Below.heap_alloc w.drew o k hk
 rcases Nat.eq_zero_or_pos m with hm0|hm0
 ·subst hm0
  have hnil:news = []:=List.eq_nil_of_length_eq_zero (by simpa using hn)
  subst hnil
  cases l with
  |nil=>
   obtain ⟨rfl,rfl,rfl⟩:=hl
   refine ⟨.slice none 0 0,w,.nil,?_,⟨rfl,rfl,rfl⟩,rfl,rfl,rfl,⟨Nat.le_refl _,Nat.le_refl _⟩,fun _ _ _=>rfl,fun _ _ e=>by cases e⟩
   cases A<;>simp [Builtin.append_,run_underlying ht,sizeOf,typeInfo,hi,Builtin.lenOf,Builtin.firstCells,loadCells,loadCellsFrom]
  |blk b c=>
   obtain ⟨rfl,arr,h2,h3,h4,h5,h6⟩:=hl
   have hlt:b < w.heap.size:=by
    rcases Nat.lt_or_ge b w.heap.size with h|h
    ·exact h
    ·rw [Array.getElem?_eq_none h] at h2;cases h2
   refine ⟨.slice (some ⟨b,0,none⟩) n c,w,.blk b c,?_,⟨rfl,arr,h2,h3,h4,h5,by simpa using h6⟩,rfl,rfl,rfl,⟨Nat.le_refl _,Nat.le_refl _⟩,fun _ _ _=>rfl,fun g c' e=>by cases e;exact ⟨hlt,.inr rfl⟩⟩
   cases A<;>simp [Builtin.append_,run_underlying ht,sizeOf,typeInfo,hi,Builtin.lenOf,Builtin.firstCells,loadCells,loadCellsFrom,h4,storeCells]
 ·obtain ⟨a,rfl⟩:∃ a,A = some a:=by
   cases A with
   |none=>have:=hA rfl;omega
   |some a=>exact ⟨a,rfl⟩
  cases l with
  |nil=>
   obtain ⟨rfl,rfl,rfl⟩:=hl
   have hr:=Go.run_append_nil (P:=P) w t ty e i z ht hi hz a m c' news hn (hnews a rfl) hm0 (by omega) (by have hb:=hb;simp only [Nat.zero_add] at hb;omega)
   have hgr:=grown 0 (by omega)
   simp only [Nat.zero_add,List.nil_append,Array.empty_append] at hgr ⊢
   exact ⟨_,_,_,hr,hgr,rfl,rfl,rfl,⟨by simp,Nat.le_succ _⟩,fun k hk _=>same _ k hk,fun g c e=>by cases e;exact ⟨by simp,.inl (Nat.le_refl _)⟩⟩
  |blk b c=>
   have hl':=hl
   obtain ⟨rfl,arr,h2,h3,h4,h5,h6⟩:=hl
   have hlt:b < w.heap.size:=by
    rcases Nat.lt_or_ge b w.heap.size with h|h
    ·exact h
    ·rw [Array.getElem?_eq_none h] at h2;cases h2
   by_cases hroom:n + m≤c
   ·have hfit:n * i.size + news.length≤arr.size:=by rw [hn,h3,←Nat.add_mul];exact Nat.mul_le_mul_right _ hroom
    have hr:=run_append_room (P:=P) w t ty e i ht hi b n c arr h2 a m c' news hn (hnews a rfl) h1 hroom hfit
    refine ⟨_,_,.blk b c,hr,⟨rfl,_,setRow_heap w b arr _ e _ h2,?_,hroom,h5,?_⟩,rfl,rfl,rfl,⟨by simp [World.setRow],Nat.le_refl _⟩,fun k hk hne=>setRow_other w b k _ (fun e=>hne c (by rw [e])),fun g c2 e=>by cases e;exact ⟨by simpa [World.setRow] using hlt,.inr rfl⟩⟩
    ·simp only [List.size_toArray,List.length_append,List.length_take,List.length_drop,Array.length_toList]
     omega
    ·show (arr.toList.take (n * i.size)++news++arr.toList.drop (n * i.size + news.length)).toArray.toList.take ((n + m) * i.size) = _
     rw [h6,←hlen]
     exact List.take_left
   ·have holds:∀ j u,xs[j]? = some u→w.cell? ((⟨b,0,none⟩:Addr).add j) = some u:=by
     intro j u hu
     have hj:j < n * i.size:=by rw [←hl'.len];exact (List.getElem?_eq_some_iff.1 hu).1
     rw [←h6,List.getElem?_take_of_lt hj] at hu
     rw [Addr.add_lit]
     simp only [World.cell?,h2,Nat.zero_add]
     simpa using hu
    have hr:=run_append_grow (P:=P) w t ty e i z ht hi hz ⟨b,0,none⟩ n c xs hl'.len holds a m c' news hn (hnews a rfl) (by omega) (by omega) (growslice_fits (by omega) hb)
    exact ⟨_,_,_,hr,grown c (by omega),rfl,rfl,rfl,⟨by simp,Nat.le_succ _⟩,fun k hk _=>same _ k hk,fun g c e=>by cases e;exact ⟨by simp,.inl (Nat.le_refl _)⟩⟩
def SrcOK (w:World) (X:Nat→Prop) (sz:Nat) (fs:List (List D)) (v:Value):Prop:=
 (∀ e,e ∈ fs→e.length = sz)∧((fs = []∧∃ A c,v = .slice A 0 c)∨∃ b off c,v = .slice (some ⟨b,off,none⟩) fs.length c∧fs.length≤c∧
  ∀ (k:Nat) (e:List D) (j:Nat) (d:D),fs[k]? = some e→e[j]? = some d→∃ u,w.cell? ⟨b,off + (k * sz + j),none⟩ = some u∧Rd w X d u)
def hH (hp:List (Nat × Blk)):PV→Option (Nat × List (List D))
 |.d (.lst sz es)=>some (sz,es)
 |.row id n=>match ae hp id with
  |some (.row _ sz es)=>if es.length = n then some (sz,es) else none
  |_=>none
 |.view id sz lo n=>match ae hp id with
  |some (.row _ sz' es)=>if sz' = sz∧lo + n≤es.length then some (sz,(es.drop lo).take n) else none
  |_=>none
 |_=>none
theorem cZ {m:Nat→Option Loc} {X:Nat→Prop} {w:World} {arr:Array Value} {c ty sz b:Nat} {es:List (List D)} (h:(Blk.row ty sz es).cellsOk m X w arr c) (hh:w.heap[b]? = some (.cells arr ty (0,0))) {k j:Nat} {e:List D} {d:D} (he:es[k]? = some e) (hd:e[j]? = some d):
  ∃ u,w.cell? ⟨b,k * sz + j,none⟩ = some u∧arr[k * sz + j]? = some u∧Rd w X d u:=by
 obtain ⟨h1,h2,h3,h4,h5⟩:=h
 have hk:=(List.getElem?_eq_some_iff.1 he).1
 have hj:j < sz:=by rw [←h4 e (List.mem_of_getElem? he)];exact (List.getElem?_eq_some_iff.1 hd).1
 have hlt:k * sz + j < arr.size:=by rw [h1];exact cr (by omega) hj
 exact ⟨arr[k * sz + j],by simp [World.cell?,hh,hlt],by simp [hlt],h5 k e j d _ he hd (by simp [hlt])⟩
section
variable {X0:Nat→Prop} {w0:Base} {m:Mp} {s:AS} {a:Act} {w:World}
theorem Sim.src (hs:Sim X0 w0 m s a w) {x:PV} {sz:Nat} {fs:List (List D)} {v:Value} (hx:hH s.hp x = some (sz,fs)) (hv:R m (aU X0 m s.hp) w x v):SrcOK w (aU X0 m s.hp) sz fs v:=by
 cases hv with
 |d x v h=>
  cases x with
  |lst sz' es=>
   cases hx
   rcases h.lst_inv with ⟨A,c,h1,h2⟩|⟨b,off,c,h1,h2,h3,h4⟩
   ·exact ⟨by rw [h1];simp,.inl ⟨h1,A,c,h2⟩⟩
   ·exact ⟨h3,.inr ⟨b,off,c,h1,h2,fun k e j d he hd=>(h4 k e j d he hd).2⟩⟩
  |_=>cases hx
 |rowN id hm=>
  simp only [hH] at hx
  split at hx
  ·split at hx
   ·rename_i hl
    cases hx
    have e0:=List.eq_nil_of_length_eq_zero hl
    exact ⟨by rw [e0];simp,.inl ⟨e0,none,0,rfl⟩⟩
   ·cases hx
  ·cases hx
 |rowB id n b c hm hn=>
  simp only [hH] at hx
  split at hx
  ·rename_i ty sz' es hg
   split at hx
   ·rename_i hl
    cases hx
    obtain ⟨arr,hh,hc⟩:=hs.blk hg hm
    refine ⟨hc.2.2.2.1,.inr ⟨b,0,c,by rw [hl],by omega,fun k e j d he hd=>?_⟩⟩
    obtain ⟨u,h1,_,h2⟩:=cZ hc hh he hd
    exact ⟨u,by rw [Nat.zero_add];exact h1,h2⟩
   ·cases hx
  ·cases hx
 |view0 id sz' lo A c=>
  simp only [hH] at hx
  split at hx
  ·split at hx
   ·cases hx;exact ⟨by simp,.inl ⟨by simp,A,c,rfl⟩⟩
   ·cases hx
  ·cases hx
 |viewB id sz' lo n b c c' hm hc'=>
  simp only [hH] at hx
  split at hx
  ·rename_i ty sz2 es hg
   split at hx
   ·rename_i hl
    obtain ⟨rfl,hl⟩:=hl
    cases hx
    obtain ⟨arr,hh,hc⟩:=hs.blk hg hm
    have hlen:((es.drop lo).take n).length = n:=by simp;omega
    refine ⟨fun e he=>hc.2.2.2.1 e (List.mem_of_mem_drop (List.mem_of_mem_take he)),.inr ⟨b,_,c',by rw [hlen],by omega,fun k e j d he hd=>?_⟩⟩
    rw [List.getElem?_take] at he
    split at he
    ·rw [List.getElem?_drop] at he
     obtain ⟨u,h1,_,h2⟩:=cZ hc hh he hd
     exact ⟨u,by rw [Nat.add_mul,Nat.add_assoc] at h1;exact h1,h2⟩
    ·cases he
   ·cases hx
  ·cases hx
 |_=>cases hx
theorem SrcOK.news {X:Nat→Prop} {sz:Nat} {fs:List (List D)} {v:Value} (h:SrcOK w X sz fs v):∃ (A:Option Addr) (c:Nat) (news:List Value),v = .slice A fs.length c∧news.length = fs.length * sz∧(A = none→fs.length = 0)∧(∀ a,A = some a→∀ (j:Nat) u,news[j]? = some u→w.cell? (a.add j) = some u)∧(∀ u ∈ news,u.oneCell' = true)∧
  ∀ (k:Nat) (e:List D) (j:Nat) (d:D) (u:Value),fs[k]? = some e→e[j]? = some d→news[k * sz + j]? = some u→Rd w X d u:=by
 obtain ⟨hz,h⟩:=h
 rcases h with ⟨rfl,A,c,rfl⟩|⟨b,off,c,rfl,_,h2⟩
 ·exact ⟨A,c,[],rfl,by simp,fun _=>rfl,fun a _ j u hu=>by simp at hu,by simp,fun k e j d u he=>by simp at he⟩
 ·have ae:∀ i,i < fs.length * sz→∃ u d,w.cell? ⟨b,off + i,none⟩ = some u∧Rd w X d u:=by
   intro i hi
   have hsz:0 < sz:=by
    rcases Nat.eq_zero_or_pos sz with h0|h0
    ·subst h0;omega
    ·exact h0
   have hk:i / sz < fs.length:=(Nat.div_lt_iff_lt_mul hsz).2 hi
   have he:=List.getElem?_eq_getElem hk
   have hj:i % sz < (fs[i / sz]).length:=by rw [hz _ (List.getElem_mem hk)];exact Nat.mod_lt _ hsz
   obtain ⟨u,h3,h4⟩:=h2 (i / sz) _ (i % sz) _ he (List.getElem?_eq_getElem hj)
   rw [Nat.mul_comm,Nat.div_add_mod] at h3
   exact ⟨u,_,h3,h4⟩
  have hnews:∀ j u,((List.range (fs.length * sz)).map fun i=>(w.cell? ⟨b,off + i,none⟩).getD undef)[j]? = some u→j < fs.length * sz∧w.cell? ⟨b,off + j,none⟩ = some u:=by
   intro j u hu
   rw [List.getElem?_map] at hu
   by_cases hj:j < fs.length * sz
   ·rw [List.getElem?_range hj] at hu
    obtain ⟨u',_,h3,_⟩:=ae j hj
    simp [h3] at hu
    subst hu
    exact ⟨hj,h3⟩
   ·rw [List.getElem?_eq_none (by simpa using hj)] at hu;cases hu
  refine ⟨_,c,(List.range (fs.length * sz)).map fun i=>(w.cell? ⟨b,off + i,none⟩).getD undef,rfl,by simp,(fun e=>by cases e),?_,?_,?_⟩
  ·intro a e j u hu
   cases e
   rw [Addr.add_lit]
   exact (hnews j u hu).2
  ·intro u hu
   obtain ⟨j,hj⟩:=List.getElem?_of_mem hu
   obtain ⟨h3,h4⟩:=hnews j u hj
   obtain ⟨u',d,h5,h6⟩:=ae j h3
   rw [h4] at h5
   cases h5
   exact h6.one
  ·intro k e j d u he hd hu
   obtain ⟨u',h3,h4⟩:=h2 k e j d he hd
   have:=(hnews _ u hu).2
   rw [h3] at this
   cases this
   exact h4
theorem l3 (hs:Sim X0 w0 m s a w) {id n ty sz:Nat} {es:List (List D)} (hg:ae s.hp id = some (.row ty sz es)) (hn:es.length = n) {v:Value} (hv:R m (aU X0 m s.hp) w (.row id n) v):
  ∃ l xs,m id = some l∧Lies w ty sz l v n xs∧∀ (k:Nat) (e:List D) (j:Nat) (d:D) (u:Value),es[k]? = some e→e[j]? = some d→xs[k * sz + j]? = some u→Rd w (aU X0 m s.hp) d u:=by
 rcases hv.row_inv with ⟨h1,rfl,rfl⟩|⟨b,c,h1,h2,rfl⟩
 ·refine ⟨.nil,[],h1,⟨rfl,rfl,rfl⟩,fun k e j d u he=>?_⟩
  rw [List.eq_nil_of_length_eq_zero hn] at he
  simp at he
 ·obtain ⟨arr,hh,hc⟩:=hs.blk hg h1
  refine ⟨.blk b c,arr.toList.take (n * sz),h1,⟨rfl,arr,hh,hc.1,h2,hc.2.2.1,rfl⟩,fun k e j d u he hd hu=>?_⟩
  rw [List.getElem?_take] at hu
  split at hu
  ·exact hc.2.2.2.2 k e j d u he hd (by simpa using hu)
  ·cases hu
theorem rU {m':Nat→Option Loc} {X':Nat→Prop} {w':World} {ty sz n:Nat} {l:Loc} {v:Value} {xs:List Value} {es:List (List D)} (h:Lies w' ty sz l v n xs) (hn:es.length = n) (hz:∀ e,e ∈ es→e.length = sz)
  (hc:∀ (k:Nat) (e:List D) (j:Nat) (d:D) (u:Value),es[k]? = some e→e[j]? = some d→xs[k * sz + j]? = some u→Rd w' X' d u):(Blk.row ty sz es).ok m' X' w' l:=by
 cases l with
 |nil=>obtain ⟨_,rfl,_⟩:=h;exact List.eq_nil_of_length_eq_zero hn
 |blk b c=>
  obtain ⟨_,arr,h2,h3,h4,h5,h6⟩:=h
  refine ⟨arr,h2,h3,by omega,h5,hz,fun k e j d u he hd hu=>hc k e j d u he hd ?_⟩
  have hk:=(List.getElem?_eq_some_iff.1 he).1
  have hj:j < sz:=by rw [←hz e (List.mem_of_getElem? he)];exact (List.getElem?_eq_some_iff.1 hd).1
  rw [←h6,List.getElem?_take_of_lt (cr (by omega) hj)]
  simpa using hu
theorem pC {m':Nat→Option Loc} {X':Nat→Prop} {w':World} {ty sz n id:Nat} {l:Loc} {v:Value} {xs:List Value} (h:Lies w' ty sz l v n xs) (hm:m' id = some l):R m' X' w' (.row id n) v:=by
 cases l with
 |nil=>obtain ⟨rfl,rfl,_⟩:=h;exact .rowN _ hm
 |blk b c=>obtain ⟨rfl,_,_,_,h4,_⟩:=h;exact .rowB _ _ _ _ hm h4
end
theorem jZ {P:Program} {o:Oper} {s:AS} {K:AS→Prop} {x y:Operand} {t e:TypeId} {sz bytes id n ty:Nat} {z:List D} {es fs:List (List D)} (ho:o.op = .call {callee:=.builtin .append,args:=#[x,y],argTypes:=#[t,t]}) (ht:cd P t (.slc e sz bytes z) = true)
  (hx:s.get x = .row id n) (hg:ae s.hp id = some (.row ty sz es)) (hty:ty = e) (hn:es.length = n) (hy:hH s.hp (s.get y) = some (sz,fs)) (hlen:es.length + fs.length≤16777216)
  (hK:K (AS.put ⟨s.fr,(s.nx,.row e sz (es++fs))::dH s.hp id,s.nx + 1⟩ o.dst (.row s.nx (n + fs.length)))):PO P o s K:=
 PO.mk fun X0 w0 m a w hs=>by
  subst hty
  have h1:=hs.get x
  rw [hx] at h1
  obtain ⟨l,xs,h2,h3,h4⟩:=l3 hs hg hn h1
  have hsrc:=hs.src hy (hs.get y)
  obtain ⟨A,c',news,h5,h6,h7,h8,h9,h10⟩:=hsrc.news
  obtain ⟨g1,⟨i,v,g2,g3,g4,g5,g6⟩,g7,g8,g9,_⟩:=dS ht
  have hzs:v.cells.size = sz:=by rw [(iG g6).1,g7]
  have hbig:(n + fs.length) * bytes≤140737488355328:=Nat.le_trans (Nat.mul_le_mul (show n + fs.length≤16777216 by omega) g9) (by decide)
  obtain ⟨v',w',l',r1,r2,r3,r4,r5,r6,r7,r8⟩:=mL (P:=P) (ty:=o.type) (c':=c') g1 g2 g5 g3 g4 hzs h3 h6 h7 h8 h9 (by unfold maxLen;omega) hbig
  have hnone:ae (dH s.hp id) s.nx = none:=by rw [cR];split<;>simp [hs.hget_nx]
  have hbe:∀ b c,l = .blk b c→(w0.w.heap.size≤b∨w0.chg b)∧b < w.heap.size:=fun b c e=>hs.owns hg (by rw [h2,e])
  refine ⟨v',w',bN m s.nx l',⟨s.fr,(s.nx,.row ty sz (es++fs))::dH s.hp id,s.nx + 1⟩,.row s.nx (n + fs.length),?_,?_,pC r2 (bp _ _ _),hK⟩
  ·have e1:(execOp a.eval o) = (do let r←Builtin.append_ #[t,t] o.type #[a.eval x,a.eval y];pure (Next.value r)):=by
    simp [execOp,ho,resolve,invoke,builtin]
   rw [e1,Sem.run_bind,h5,r1]
   rfl
  ·refine hs.change (i:=s.nx) (blk':=.row ty sz (es++fs)) (l':=l') (fun k=>∃ c,l = .blk k c) (.inl hs.hnx) (by simp [ae]) rfl (fun id' hne blk hb=>?_) (fun id' q ty' sz' es' hd=>?_) (by omega) (by omega) ⟨r3,r4,r5,r6.1,fun k hk hn=>r7 k (by have:=hs.below.size;omega) (fun c e=>by rcases (hbe k c e).1 with h|h;omega;exact hn h),.of_le r6.2⟩ (fun k hk hne=>r7 k hk (fun c e=>hne ⟨c,e⟩)) ?_ ?_ ?_
   ·rw [ae,if_neg hne,cR] at hb
    split at hb
    ·cases hb
    ·exact hb
   ·have hne:id'≠id:=fun e=>by subst e;rw [hg] at hd;cases hd
    have hne2:id'≠s.nx:=fun e=>by subst e;rw [hs.hget_nx] at hd;cases hd
    exact ⟨hne2,by rw [ae,if_neg hne2,cR,if_neg hne]⟩
   ·rintro k ⟨c,e⟩
    refine ⟨id,_,hg,⟨c,by rw [h2,e]⟩,?_⟩
    by_cases e2:id = s.nx
    ·exact .inl e2
    ·refine .inr ?_
     rw [ae,if_neg e2,cR,if_pos rfl]
   ·intro b c e
    obtain ⟨q1,q2⟩:=r8 b c e
    rcases q2 with q2|q2
    ·exact ⟨.inl (Nat.le_trans hs.below.size q2),q1,.inl q2⟩
    ·exact ⟨(hbe b c q2).1,q1,.inr ⟨c,q2⟩⟩
   ·intro hst
    refine rU r2 (by simp [hn]) (fun e' he'=>?_) (fun k e' j d u he' hd hu=>?_)
    ·rcases List.mem_append.1 he' with h|h
     ·obtain ⟨lb,hlb,hok⟩:=hs.hp id _ hg
      cases lb with
      |nil=>have:es = []:=hok;rw [this] at h;simp at h
      |blk b c=>obtain ⟨arr,_,hc⟩:=hok;exact hc.2.2.2.1 e' h
     ·exact hsrc.1 e' h
    ·have hxl:xs.length = n * sz:=h3.len
     by_cases hk:k < es.length
     ·rw [List.getElem?_append_left hk] at he'
      have hj:j < sz:=by
       have:=(List.getElem?_eq_some_iff.1 hd).1
       obtain ⟨lb,hlb,hok⟩:=hs.hp id _ hg
       cases lb with
       |nil=>have h0:es = []:=hok;rw [h0] at hk;simp at hk
       |blk b c=>obtain ⟨arr,_,hc⟩:=hok;rw [hc.2.2.2.1 e' (List.mem_of_getElem? he')] at this;exact this
      rw [List.getElem?_append_left (by rw [hxl];exact cr (by omega) hj)] at hu
      exact (h4 k e' j d u he' hd hu).mono hst
     ·rw [List.getElem?_append_right (by omega)] at he'
      have e3:n * sz≤k * sz + j:=by
       have:n * sz≤k * sz:=Nat.mul_le_mul_right _ (by omega)
       omega
      rw [List.getElem?_append_right (by rw [hxl];exact e3),hxl] at hu
      have e4:k * sz + j - n * sz = (k - es.length) * sz + j:=by
       rw [Nat.sub_mul,hn]
       have:n * sz≤k * sz:=Nat.mul_le_mul_right _ (by omega)
       omega
      rw [e4] at hu
      exact (h10 (k - es.length) e' j d u he' hd hu).mono hst
end Go.Proofs.YtphakidbddamfaaGreat
namespace Go.Proofs.YtphakidbddamfaaGreat
open Go.RowKit
theorem pU (off:Nat):∀ (l:List Value) (k:Nat) (arr:Array Value),off + k + l.length≤arr.size→
  (l.zipIdx k).foldl (fun (cs:Array Value) (p:Value × Nat)=>cs.setIfInBounds (off + p.2) p.1) arr = (bx arr.toList (off + k) l).toArray
 |[],k,arr,_=>by simp [bx]
 |v::l,k,arr,h=>by
  simp only [List.length_cons] at h
  rw [List.zipIdx_cons,List.foldl_cons,pU off l (k + 1) _ (by simp;omega)]
  congr 1
  apply List.ext_getElem?
  intro j
  rw [dg (by simp;omega),dg (by simp;omega)]
  simp only [List.length_cons]
  by_cases hj:j = off + k
  ·subst hj
   rw [if_neg (by omega),if_pos (by omega)]
   have hlt:off + k < arr.size:=by omega
   simp [hlt]
  ·by_cases h1:off + (k + 1)≤j∧j < off + (k + 1) + l.length
   ·rw [if_pos h1,if_pos (by omega)]
    rw [show j - (off + k) = (j - (off + (k + 1))) + 1 by omega]
    simp
   ·rw [if_neg h1,if_neg (by omega)]
    have:(arr.toList.set (off + k) v)[j]? = arr.toList[j]?:=List.getElem?_set_ne (by omega)
    simpa using this
def ef (place:Nat→Option (Nat × Nat)):List PV→List (Nat × PV)→Option (List PV)
 |cs,[]=>some cs
 |cs,(i,x)::r=>match place i with
  |none=>none
  |some (off,size)=>if (bg x).length = size∧off + size≤cs.length∧(bg x).all eD = true then ef place (bx cs off (bg x)) r else none
theorem fE {m:Nat→Option Loc} {X:Nat→Prop} {w:World} (place:Nat→Option (Nat × Nat)):∀ (ps:List (Nat × PV)) (qs:List (Nat × Value)) (cs cs':List PV) (arr:Array Value),ef place cs ps = some cs'→
  ps.map (·.1) = qs.map (·.1)→(∀ (j:Nat) x v,ps[j]? = some x→qs[j]? = some v→R m X w x.2 v.2)→arr.size = cs.length→(∀ (j:Nat) x v,cs[j]? = some x→arr[j]? = some v→R m X w x v∧(x = .und∨v.oneCell' = true))→
  ∃ arr',Instr.fill place arr qs = some arr'∧arr'.size = cs'.length∧cs'.length = cs.length∧∀ (j:Nat) x v,cs'[j]? = some x→arr'[j]? = some v→R m X w x v∧(x = .und∨v.oneCell' = true)
 |[],qs,cs,cs',arr,h,hk,_,hl,hc=>by
  cases h
  have:qs = []:=by simpa using hk.symm
  subst this
  exact ⟨arr,rfl,hl,rfl,hc⟩
 |(i,x)::ps,[],cs,cs',arr,h,hk,_,hl,hc=>by simp at hk
 |(i,x)::ps,(i',v)::qs,cs,cs',arr,h,hk,hR,hl,hc=>by
  simp only [List.map_cons,List.cons.injEq] at hk
  obtain ⟨rfl,hk⟩:=hk
  simp only [ef] at h
  split at h
  ·cases h
  ·rename_i off size hp
   split at h
   ·rename_i hh
    obtain ⟨h1,h2,h3⟩:=hh
    have hone:∀ y ∈ bg x,eD y = true:=List.all_eq_true.1 h3
    have hx:R m X w x v:=hR 0 (i,x) (i,v) rfl rfl
    obtain ⟨g1,g2⟩:=hx.cellsOf hone
    have hfold:v.cells.zipIdx.foldl (fun (cs:Array Value) (p:Value × Nat)=>cs.setIfInBounds (off + p.2) p.1) arr = (bx arr.toList off v.cells.toList).toArray:=by
     have:=pU off v.cells.toList 0 arr (by simp;omega)
     rw [←Array.foldl_toList]
     simpa using this
    have e2:v.cells.toList.length = (bg x).length:=by simpa using g1
    obtain ⟨arr',r1,r2,r3,r4⟩:=fE place ps qs (bx cs off (bg x)) cs' (bx arr.toList off v.cells.toList).toArray h hk (fun j x v hx hv=>hR (j + 1) x v (by simpa using hx) (by simpa using hv)) (by rw [List.size_toArray,dr (by simp;omega),dr (by omega)];simpa using hl) (fun j y u hy hu=>by
     have hu':(bx arr.toList off v.cells.toList)[j]? = some u:=by simpa using hu
     rw [dg (by simp;omega),e2] at hu'
     rw [dg (by omega)] at hy
     split at hy
     ·rename_i hin
      rw [if_pos hin] at hu'
      have:=g2 (j - off) y u hy (by simpa using hu')
      exact ⟨this.1,.inr this.2⟩
     ·rename_i hin
      rw [if_neg hin] at hu'
      exact hc j y u hy (by simpa using hu'))
    refine ⟨arr',?_,r2,by rw [r3,dr (by omega)],r4⟩
    unfold Instr.fill
    rw [hp]
    have hcond:(decide (v.cells.size≠size) || decide (off + v.cells.size > arr.size)) = false:=by
     simp;omega
    simp only [hcond,Bool.false_eq_true,if_false]
    rw [←r1,←hfold]
   ·cases h
theorem k4 {α β:Type} {g:α→Option β}:∀ (l:List α) (r:List β),l.length = r.length→(∀ (j:Nat) x y,l[j]? = some x→r[j]? = some y→g x = some y)→l.mapM g = some r
 |[],[],_,_=>by simp
 |x::l,y::r,hl,h=>by
  have h0:=h 0 x y rfl rfl
  have ih:=k4 l r (by simpa using hl) fun j x y hx hy=>h (j + 1) x y (by simpa using hx) (by simpa using hy)
  simp [List.mapM_cons,h0,ih]
 |[],_::_,hl,_=>by simp at hl
 |_::_,[],hl,_=>by simp at hl
section rules
variable {P:Program} {o:Oper} {s:AS} {K:AS→Prop} {KP:PV→Prop}
theorem u0 {t:TypeId} {parts:Array (Nat × Operand)} {n:Nat} {fs:List (Nat × Nat)} {z:List D} {cs:List PV} (ho:o.op = .build t parts) (ht:cd P t (.st n fs z) = true)
  (hf:ef (fs[·]?) (z.map .d) (parts.toList.map fun p=>(p.1,s.get p.2)) = some cs) (hK:KP (.agg cs)):PQ P o s KP:=
 PQ.pure _ hK fun m X w a hq=>by
  obtain ⟨⟨fields,h1,h2,h3⟩,i,v,h4,h5,h6,h7,h8⟩:=il ht
  obtain ⟨g1,g2⟩:=iG h7
  have hplace:fields.toList.mapM (fun f=>(P.info? f.type).map fun i=>(f.offset,i.size)) = some fs:=by
   refine k4 _ _ (by simpa using h2) fun j f p hf hp=>?_
   obtain ⟨q1,q2,i',q3,q4⟩:=h3 j f p (by simpa using hf) hp
   rw [q3]
   simp [q1,q4]
  obtain ⟨arr',r1,r2,r3,r4⟩:=fE (m:=m) (X:=X) (w:=w) (fs[·]?) _ (parts.toList.map fun p=>(p.1,a.eval p.2)) _ _ v.cells hf (by simp) (fun j x u hx hu=>by
   rw [List.getElem?_map] at hx hu
   cases hj:parts.toList[j]? with
   |none=>rw [hj] at hx;cases hx
   |some p=>
    rw [hj] at hx hu
    cases hx
    cases hu
    exact hq p.2) (by simp [g1]) (fun j x u hx hu=>by
   rw [List.getElem?_map] at hx
   cases hj:z[j]? with
   |none=>rw [hj] at hx;cases hx
   |some d=>
    rw [hj] at hx
    cases hx
    have:=g2 j d u hj hu w X
    exact ⟨.d _ _ this,.inr this.one⟩)
  refine ⟨.agg arr',fun u=>?_,.agg _ _ r2 fun j x u hx hu=>(r4 j x u hx hu).1⟩
  have hbuilt:P.built t (parts.map fun p=>(p.1,a.eval p.2)).toList = some arr':=by
   unfold Program.built
   simp only [h4,h1,h6,hplace]
   simpa using r1
  have hrun:=run_build (P:=P) u t (parts.map fun p=>(p.1,a.eval p.2)) arr' hbuilt
  simp only [execOp,ho,Sem.run_bind]
  rw [hrun]
  rfl
theorem qF {t:TypeId} {len sz:Nat} {z:List D} (ho:o.op = .build t #[]) (ht:cd P t (.arr len sz z) = true) (hK:KP (.agg (z.map .d))):PQ P o s KP:=
 PQ.pure _ hK fun m X w a hq=>by
  obtain ⟨⟨e,ie,h1,h2,h3⟩,i,v,h4,h5,h6,h7,h8⟩:=i7 ht
  obtain ⟨g1,g2⟩:=iG h7
  have hbuilt:P.built t (#[]:Array (Nat × Value)).toList = some v.cells:=by
   unfold Program.built
   simp only [h4,h1,h6,h2]
   rfl
  have hrun:=fun u=>run_build (P:=P) u t #[] v.cells hbuilt
  refine ⟨.agg v.cells,fun u=>?_,.agg _ _ (by simp [g1]) fun j x u hx hu=>?_⟩
  ·simp only [execOp,ho,Sem.run_bind,List.map_toArray,List.map_nil]
   rw [hrun]
   rfl
  ·rw [List.getElem?_map] at hx
   cases hj:z[j]? with
   |none=>rw [hj] at hx;cases hx
   |some d=>rw [hj] at hx;cases hx;exact .d _ _ (g2 j d u hj hu w X)
def dT (hp:List (Nat × Blk)):PV→Option D
 |.d x=>some x
 |.row id n=>match ae hp id with
  |some (.row _ sz es)=>if es.length = n then some (.lst sz es) else none
  |_=>none
 |_=>none
def cX (hp:List (Nat × Blk)):List PV→Option (List D)
 |[]=>some []
 |x::r=>match dT hp x,cX hp r with
  |some d,some l=>some (d::l)
  |_,_=>none
def bb:List PV→List Nat
 |[]=>[]
 |.row id _::r=>id::bb r
 |_::r=>bb r
def cp (hp:List (Nat × Blk)):List Nat→List (Nat × Blk)
 |[]=>hp
 |i::r=>dH (cp hp r) i
theorem cM (hp:List (Nat × Blk)):∀ (l:List Nat) (j:Nat),ae (cp hp l) j = if j ∈ l then none else ae hp j
 |[],j=>by simp [cp]
 |i::r,j=>by
  rw [cp,cR,cM hp r j]
  by_cases h:j = i<;>simp [h]
theorem jx {hp:List (Nat × Blk)}:∀ {xs:List PV} {ds:List D},cX hp xs = some ds→ds.length = xs.length∧∀ (j:Nat) x d,xs[j]? = some x→ds[j]? = some d→dT hp x = some d
 |[],ds,h=>by cases h;simp
 |x::r,ds,h=>by
  simp only [cX] at h
  split at h
  ·rename_i d l hd hl
   cases h
   obtain ⟨h1,h2⟩:=jx hl
   refine ⟨by simp [h1],fun j y e hy he=>?_⟩
   cases j with
   |zero=>simp at hy he;subst hy he;exact hd
   |succ j=>exact h2 j y e (by simpa using hy) (by simpa using he)
  ·cases h
theorem d8 {id n:Nat}:∀ {xs:List PV},PV.row id n ∈ xs→id ∈ bb xs
 |x::r,h=>by
  rcases List.mem_cons.1 h with h|h
  ·subst h;simp [bb]
  ·have:=d8 h
   cases x<;>simp [bb,this]
theorem iC {hp:List (Nat × Blk)}:∀ {xs:List PV} {ds:List D},cX hp xs = some ds→∀ id,id ∈ bb xs→∃ ty sz es,ae hp id = some (.row ty sz es)
 |[],ds,h,id,hi=>by simp [bb] at hi
 |x::r,ds,h,id,hi=>by
  simp only [cX] at h
  split at h
  ·rename_i d l hd hl
   have hrec:=iC hl id
   cases x with
   |row id' n=>
    simp only [bb,List.mem_cons] at hi
    rcases hi with rfl|hi
    ·simp only [dT] at hd
     split at hd
     ·exact ⟨_,_,_,by assumption⟩
     ·cases hd
    ·exact hrec hi
   |_=>exact hrec (by simpa [bb] using hi)
  ·cases h
theorem vL {X0:Nat→Prop} {w0:Base} {m:Mp} {a:Act} {w:World} (hs:Sim X0 w0 m s a w) {x:PV} {d:D} {ids:List Nat} {v:Value} (hd:dT s.hp x = some d) (hi:∀ id n,x = .row id n→id ∈ ids) (hx:R m (aU X0 m s.hp) w x v):Rd w (aU X0 m (cp s.hp ids)) d v:=by
 have hst:Stay w w (aU X0 m s.hp) (aU X0 m (cp s.hp ids)):=by
  intro b _ hb2
  refine ⟨rfl,?_⟩
  rintro (hx|⟨id,blk,h1,h2⟩)
  ·exact hb2 (.inl hx)
  ·rw [cM] at h1
   split at h1
   ·cases h1
   ·exact hb2 (.inr ⟨id,blk,h1,h2⟩)
 unfold dT at hd
 split at hd
 ·cases hd;exact hx.rd.mono hst
 ·rename_i id n
  split at hd
  ·rename_i ty sz es hg
   split at hd
   ·rename_i hn
    cases hd
    rcases hx.row_inv with ⟨h1,rfl,rfl⟩|⟨b,c,h1,h2,rfl⟩
    ·rw [List.eq_nil_of_length_eq_zero hn];exact .nil _ _ _
    ·obtain ⟨arr,hh,hc⟩:=hs.blk hg h1
     have hfree:¬ aU X0 m (cp s.hp ids) b:=by
      rintro (hx0|⟨id',blk',h3,h4⟩)
      ·have h5:=hs.x0 b hx0
       rcases (hs.owns hg h1).1 with h6|h6
       ·omega
       ·exact h5.2 h6
      ·rw [cM] at h3
       split at h3
       ·cases h3
       ·rename_i hni
        have:=hs.inj id id' _ _ b hg h3 (Blk.has_root rfl h1) h4
        subst this
        exact hni (hi id n rfl)
     rw [←hn]
     refine .lst sz es b 0 c (by omega) hc.2.2.2.1 (fun k e j d he hd=>?_) (fun k e j d u he hd hu=>?_)
     ·obtain ⟨u,q1,_,_⟩:=cZ hc hh he hd
      exact ⟨hfree,u,by rw [Nat.zero_add];exact q1⟩
     ·obtain ⟨u',q1,_,q3⟩:=cZ hc hh he hd
      rw [Nat.zero_add,q1] at hu
      cases hu
      exact q3.mono hst
   ·cases hd
  ·cases hd
 ·cases hd
def eO (sz:Nat):Nat→List D→List (List D)
 |0,_=>[]
 |n + 1,l=>l.take sz::eO sz n (l.drop sz)
theorem gv (sz:Nat):∀ (n:Nat) (l:List D),(eO sz n l).length = n
 |0,_=>rfl
 |n + 1,l=>by rw [eO,List.length_cons,gv sz n]
theorem gx (sz:Nat):∀ (n:Nat) (l:List D) (k:Nat) (e:List D),(eO sz n l)[k]? = some e→e = (l.drop (k * sz)).take sz
 |0,_,k,e,h=>by simp [eO] at h
 |n + 1,l,0,e,h=>by simp [eO] at h;simp [h]
 |n + 1,l,k + 1,e,h=>by
  have:=gx sz n (l.drop sz) k e (by simpa [eO] using h)
  rw [this,List.drop_drop,Nat.succ_mul,Nat.add_comm sz]
theorem oM {t e:TypeId} {sz bytes len:Nat} {z ds:List D} {parts:Array (Nat × Operand)} {cs:List PV} (ho:o.op = .buildSlice t len parts) (ht:cd P t (.slc e sz bytes z) = true) (hlen:len * sz≤16777216)
  (hf:ef (fun i=>some (i * sz,sz)) (List.replicate (len * sz) .und) (parts.toList.map fun p=>(p.1,s.get p.2)) = some cs) (hd:cX s.hp cs = some ds)
  (hK:K (AS.put ⟨s.fr,(s.nx,.row e sz (eO sz len ds))::cp s.hp (bb cs),s.nx + 1⟩ o.dst (.row s.nx len))):PO P o s K:=
 PO.mk fun X0 w0 m a w hs=>by
  obtain ⟨h1,⟨i,v,h4,h5,h5b,h6,h7⟩,h8,h9,_⟩:=dS ht
  obtain ⟨arr',r1,r2,r3,r4⟩:=fE (m:=m) (X:=aU X0 m s.hp) (w:=w) (fun i=>some (i * sz,sz)) _ (parts.toList.map fun p=>(p.1,a.eval p.2)) _ _ ((Array.range (len * sz)).map (v.cells[· % v.cells.size]!)) hf (by simp) (fun j x u hx hu=>by
   rw [List.getElem?_map] at hx hu
   cases hj:parts.toList[j]? with
   |none=>rw [hj] at hx;cases hx
   |some p=>
    rw [hj] at hx hu
    cases hx
    cases hu
    exact hs.get p.2) (by simp) (fun j x u hx hu=>by
   have hx':x = .und:=by
    have:=List.mem_of_getElem? hx
    exact List.eq_of_mem_replicate this
   subst hx'
   exact ⟨.und _,.inl rfl⟩)
  obtain ⟨f1,f2⟩:=jx hd
  have hsize:arr'.size = len * sz:=by rw [r2,r3];simp
  have hdl:ds.length = len * sz:=by rw [f1,←r2,hsize]
  have hkill:=hs.kill (cp s.hp (bb cs)) (fun id blk hb=>by rw [cM] at hb;split at hb;cases hb;exact hb) (fun id par k j ha=>by
   rw [cM] at ha
   split at ha
   ·cases ha
   ·obtain ⟨q,ty,sz,es,_,_,_,_,_,_,a1,_⟩:=hs.al id par k j ha
    rw [cM]
    split
    ·rename_i hmem
     obtain ⟨ty',sz',es',h'⟩:=iC hd par hmem
     rw [h'] at a1;cases a1
    ·rfl)
  have hcell:∀ (j:Nat) (d:D) (u:Value),ds[j]? = some d→arr'[j]? = some u→Rd w (aU X0 m (cp s.hp (bb cs))) d u:=by
   intro j d u hjd hju
   have hlt:j < cs.length:=by rw [←f1];exact (List.getElem?_eq_some_iff.1 hjd).1
   have hjc:=List.getElem?_eq_getElem hlt
   exact vL hs (f2 j _ d hjc hjd) (fun id n hrow=>d8 (n:=n) (by rw [←hrow];exact List.getElem_mem hlt)) (r4 j _ u hjc hju).1
  have hal:=hkill.alloc (blk:=.row e sz (eO sz len ds)) (arr:=arr') (c:=len) ⟨hsize,by rw [gv];exact Nat.le_refl _,by
    have:len≤len * sz:=Nat.le_mul_of_pos_right _ h9
    unfold maxLen;omega,fun e' he'=>by
    obtain ⟨k,hk⟩:=List.getElem?_of_mem he'
    have hkl:k < len:=by have:=(List.getElem?_eq_some_iff.1 hk).1;rwa [gv] at this
    rw [gx sz len ds k e' hk]
    have:(k + 1) * sz≤len * sz:=Nat.mul_le_mul_right _ hkl
    rw [Nat.succ_mul] at this
    simp;omega,fun k e' j d u hk hj hu=>by
    rw [gx sz len ds k e' hk,List.getElem?_take] at hj
    split at hj
    ·rw [List.getElem?_drop] at hj
     exact hcell _ d u hj hu
    ·cases hj⟩
  refine ⟨.slice (some ⟨w.heap.size,0,none⟩) len len,_,_,_,.row s.nx len,?_,hal,.rowB _ _ w.heap.size len (bp _ _ _) (Nat.le_refl _),hK⟩
  have e1:(parts.map fun p=>(p.1,a.eval p.2)).toList = parts.toList.map fun p=>(p.1,a.eval p.2):=by simp
  subst h5
  rcases Nat.eq_zero_or_pos (len * i.size) with h0|h0
  ·have hl0:len = 0:=by
    rcases Nat.eq_zero_or_pos len with h|h
    ·exact h
    ·have:=Nat.mul_pos h h9;omega
   subst hl0
   have hpn:parts.toList = []:=by
    cases hpp:parts.toList with
    |nil=>rfl
    |cons p r=>
     exfalso
     rw [hpp] at hf
     simp only [List.map_cons,ef] at hf
     split at hf
     ·rename_i hh
      have h3:=hh.2.1
      simp at h3
      omega
     ·cases hf
   have hpe:parts = #[]:=Array.ext' (by simpa using hpn)
   subst hpe
   have:arr' = #[]:=Array.eq_empty_of_size_eq_zero (by rw [hsize];exact h0)
   subst this
   simp [execOp,ho,Instr.buildSlice,run_underlying h1,sizeOf,typeInfo,h4,Instr.fill,newRow,Blk.ty,Array.range_zero']
  ·have hsm:¬ len * i.size > 2 ^ 24:=by simp;omega
   have hpos:¬ len * i.size = 0:=by omega
   simp only [execOp,ho,Sem.run_bind]
   have hrun:(Instr.buildSlice t len (parts.map fun p=>(p.1,a.eval p.2))).run P w = .ok (.slice (some ⟨w.heap.size,0,none⟩) len len) (w.alloc (.cells arr' e)):=by
    have e2:=e1
    simp only [Instr.buildSlice,Sem.run_bind,run_underlying h1,Result.andThen_ok]
    simp [sizeOf,typeInfo,zeroValue,h4,h6,hsm,hpos,r1,newRow]
   rw [hrun]
   rfl
end rules
end Go.Proofs.YtphakidbddamfaaGreat
