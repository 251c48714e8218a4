/- For all bytes, what the law FnInquiries draws and asks holds: it returns true: the statement's row, proved. No conditions. -/
import Derived.Test.YtphakidbddamfaaGreatRows
import Derived.Test.YtphakidbddamfaaGreatZQh
import Derived.Test.YtphakidbddamfaaGreatZMh
import Derived.Test.YtphakidbddamfaaGreatZJc
import Derived.Test.YtphakidbddamfaaGreatZDa
import Derived.Test.YtphakidbddamfaaGreatZDs
import Derived.Test.YtphakidbddamfaaGreatZDv
set_option linter.unusedSimpArgs false
set_option linter.unusedVariables false
set_option maxHeartbeats 2000000
set_option maxRecDepth 100000
namespace Go.Proofs.YtphakidbddamfaaGreat.lawInquiries
open Go.ChangeShapes Go.WideShapes Go.ChangeAt Go.RowKit Go.Deep
theorem law_FnInquiries_ok (xs0:List Int) (m0:xs0.length≤maxLen∧∀ x ∈ xs0,0≤x∧x≤255) (xs1:List Int) (m1:xs1.length≤maxLen∧∀ x ∈ xs1,0≤x∧x≤255):FnEq Tryz.prog 8 [.d (.lst 1 (xs0.map dg)),.d (.lst 1 (xs1.map dg))] [.d (.bool true)]:=by
 have hT:bP True = true:=aW trivial
 have hm0:=m0.1
 have hm1:=m1.1
 unfold maxLen at hm0 hm1
 refine aN ae Tryz.func8 rfl rfl ?_;simp only [Tryz.ntmps8,aP,aK,Nat.reduceAdd,Nat.reduceSub,aV]
 repeat' (first|with_reducible refine bs (id:=1) ?_|with_reducible refine br (id:=1) ?_|((with_reducible first|(refine hK _ ?_;clear hK K)|refine ah fun U O=>?_|apply ag|(apply Z<;>(intro hc;try simp at hc;try omega)))<;>try simp only [go_sem])|(with_reducible first|apply aj|(apply O;clear O U)|refine kN eH fun K hK=>?_|refine kO fun K hK=>?_|refine aI ?_)|(refine xS rfl fun U O=>?_;simp only [go_sem])|apply iB)
 unfold eu
 refine cM (cI ?_)
 refine bw ae ?_
 simp only [go_sem]
 refine bw ae ?_
 simp only [go_sem]
 refine bw ae ?_
 simp only [go_sem]
 refine bw ae ?_
 simp only [go_sem]
 refine PQ.po (wP rfl rfl rfl ?_)
 refine bw ae ?_
 simp only [go_sem]
 refine aZ ?_
 generalize IntKind.i64.wrap ((xs0.length:Int) + (xs1.length:Int)) = Wd
 by_cases hb:1048576 < Wd
 ·repeat' (first|((with_reducible first|(refine hK _ ?_;clear hK K)|refine ah fun U O=>?_|apply ag|(apply Z<;>(intro hc;try simp at hc;try omega)))<;>try simp only [go_sem,hb])|(with_reducible first|apply aj|(apply O;clear O U)|refine kN eH fun K hK=>?_|refine kO fun K hK=>?_|refine aI ?_)|(refine xS rfl fun U O=>?_;simp only [go_sem,hb])|apply iB)
  all_goals first
   |(exfalso;omega)
   |(refine ak rfl rfl (by simp [am,lk]) ?_;rfl)
 ·repeat' (first|((with_reducible first|(refine hK _ ?_;clear hK K)|refine ah fun U O=>?_|apply ag|(apply Z<;>(intro hc;try simp at hc;try omega)))<;>try simp only [go_sem,hb])|(with_reducible first|apply aj|(apply O;clear O U)|refine kN eH fun K hK=>?_|refine kO fun K hK=>?_|refine aI ?_)|(refine xS rfl fun U O=>?_;simp only [go_sem,hb])|apply iB)
  all_goals first
   |(exfalso;omega)
   |skip
  refine CallK.of (rt xs0 m0.2 hm0) ?_;rintro _ ⟨c,p,f,⟨hcp,hf⟩,rfl⟩;refine ⟨(fun h=>by cases h),?_⟩;try simp only [go_sem]
  have hcf:CdFit 1048576 c:=hcp.1.1.fit
  have hpf:=hcp.fit
  have hb1:=f5 c p f hcf hpf
  have hb2:=f4 c p f hcf hpf
  have hB:=tA c p f
  generalize (bg c p f).getD (0,0,0) = r at hb1 hb2 hB
  generalize (bg c p f).isSome = ok at hb1 hb2 hB
  obtain ⟨i,k,m⟩:=r
  simp only at hb1 hb2 hB
  repeat' (first|((with_reducible first|(refine hK _ ?_;clear hK K)|refine ah fun U O=>?_|apply ag|(apply Z<;>(intro hc;try simp at hc;try omega)))<;>try simp only [go_sem,CodeD.dat,aH,aG])|(with_reducible first|apply aj|(apply O;clear O U)|refine kN eH fun K hK=>?_|refine kO fun K hK=>?_|refine aI ?_)|(refine xS rfl fun U O=>?_;simp only [go_sem,CodeD.dat,aH,aG])|((with_reducible apply CallK.eq);(· with_reducible first|exact hb1|exact hb2);(· simp [RV.flat,D.sc,aa]);try simp only [go_sem,CodeD.dat,aH,aG])|apply iB)
  refine CallK.of (rn xs1 m1.2 hm1) ?_;rintro _ ⟨ca,pa,fa,xa,⟨hca,hfa⟩,rfl⟩;refine ⟨(fun h=>by cases h),?_⟩;try simp only [go_sem]
  have hcaf:CdFit 1048576 ca:=hca.1.1.fit
  have hpaf:=hca.fit
  have hg1:=dU ca pa fa xa hcaf hpaf
  have hg2:=j0 ca pa fa xa hcaf hpaf
  have ha1:=f5 ca pa fa hcaf hpaf
  have ha2:=f4 ca pa fa hcaf hpaf
  have hG:=s4 ca pa fa xa
  generalize (bm ca pa fa xa).getD 0 = g at hg1 hg2 hG
  generalize (bm ca pa fa xa).isSome = one at hg1 hg2 hG
  generalize (bg ca pa fa).getD (0,0,0) = r at ha1 ha2 hG
  generalize (bg ca pa fa).isSome = oka at ha1 ha2 hG
  obtain ⟨ia,ka,ma⟩:=r
  simp only at ha1 ha2 hG
  repeat' (first|((with_reducible first|(refine hK _ ?_;clear hK K)|refine ah fun U O=>?_|apply ag|(apply Z<;>(intro hc;try simp at hc;try omega)))<;>try simp only [go_sem,CodeD.dat,aH,aG])|(with_reducible first|apply aj|(apply O;clear O U)|refine kN eH fun K hK=>?_|refine kO fun K hK=>?_|refine aI ?_)|(refine xS rfl fun U O=>?_;simp only [go_sem,CodeD.dat,aH,aG])|((with_reducible apply CallK.eq);(· with_reducible first|exact hg1|exact hg2);(· simp [RV.flat,D.sc,aa]);try simp only [go_sem,CodeD.dat,aH,aG])|apply iB)
  refine CallK.of (nF xs1 m1.2 hm1) ?_;rintro _ ⟨cw,pw,qw,fw,⟨hcw,hfw⟩,rfl⟩;refine ⟨(fun h=>by cases h),?_⟩;try simp only [go_sem]
  have hcwf:CdFit 1048576 cw:=hcw.1.1.1.fit
  have hpwf:=hcw.1.fit
  have hqwf:=hcw.2.fit
  have hw1:=lD cw pw qw fw hcwf hpwf hqwf
  have hw2:=me cw pw qw fw hcwf hpwf hqwf
  obtain ⟨hWl,hW3,hWf⟩:=ue cw pw qw fw
  generalize (bp cw pw qw fw).getD [] = W at hw1 hw2 hWl hW3 hWf
  generalize (bp cw pw qw fw).isSome = three at hw1 hw2 hWf
  repeat' (first|((with_reducible first|(refine hK _ ?_;clear hK K)|refine ah fun U O=>?_|apply ag|(apply Z<;>(intro hc;try simp at hc;try omega)))<;>try simp only [go_sem,CodeD.dat,aH,aG])|(with_reducible first|apply aj|(apply O;clear O U)|refine kN eH fun K hK=>?_|refine kO fun K hK=>?_|refine aI ?_)|(refine xS rfl fun U O=>?_;simp only [go_sem,CodeD.dat,aH,aG])|((with_reducible apply CallK.eq);(· with_reducible first|exact hw1|exact hw2);(· simp [RV.flat,D.sc,aa]);try simp only [go_sem,CodeD.dat,aH,aG])|apply iB)
  refine CallK.of (qV xs1 m1.2 hm1) ?_;rintro _ ⟨q,fee,⟨hq,hfee⟩,rfl⟩;refine ⟨(fun h=>by cases h),?_⟩;try simp only [go_sem]
  have he1:=l3 q fee (by omega)
  have he2:=lB q fee (by omega)
  have hE:=sK q fee
  generalize (bW q fee).getD 0 = n at he1 he2 hE
  generalize (bW q fee).isSome = five at he1 he2 hE
  repeat' (first|((with_reducible first|(refine hK _ ?_;clear hK K)|refine ah fun U O=>?_|apply ag|(apply Z<;>(intro hc;try simp at hc;try omega)))<;>try simp only [go_sem])|(with_reducible first|apply aj|(apply O;clear O U)|refine kN eH fun K hK=>?_|refine kO fun K hK=>?_|refine aI ?_)|(refine xS rfl fun U O=>?_;simp only [go_sem])|((with_reducible apply CallK.eq);(· with_reducible first|exact he1|exact he2);(· simp [RV.flat,D.sc,aa]);try simp only [go_sem])|apply iB)
  refine CallK.of (rA xs1 m1.2 hm1) ?_;rintro _ ⟨z,st,wi,⟨hz,hst,hwi⟩,rfl⟩;refine ⟨(fun h=>by cases h),?_⟩;try simp only [go_sem]
  have hl1:=dS (mE z st wi (by omega))
  have hl2:=dS (mg z st wi (by omega))
  simp only [aH,aG,RV.data] at hl1 hl2
  obtain ⟨hTl,hTf⟩:=sQ z st wi
  generalize (ci z st wi).getD [] = T at hl1 hl2 hTl hTf
  generalize (ci z st wi).isSome = seven at hl1 hl2 hTf
  have hqT:=qp T T (by omega) (by omega)
  rw [aW rfl] at hqT
  have hqW:=qX W (by omega) (fun x hx=>by rw [hW3 x hx];decide)
  repeat' (first|with_reducible refine bs (id:=20) ?_|with_reducible refine br (id:=20) ?_|((with_reducible first|(refine hK _ ?_;clear hK K)|refine ah fun U O=>?_|apply ag|(apply Z<;>(intro hc;try simp at hc;try omega)))<;>try simp only [go_sem,bne_self_eq_false])|(with_reducible first|apply aj|(apply O;clear O U)|refine kN eH fun K hK=>?_|refine kO fun K hK=>?_|refine aI ?_)|(refine xS rfl fun U O=>?_;simp only [go_sem,bne_self_eq_false])|((with_reducible apply CallK.eq);(· with_reducible first|exact hl1|exact hl2|exact hqT|exact hqW);(· simp [RV.flat,D.sc,aa]);try simp only [go_sem,bne_self_eq_false])|apply iB)
  clear hb1 hb2 hg1 hg2 hw1 hw2 he1 he2 hl1 hl2 hqT hqW
  refine dF (fun _:Unit=>⟨⟨409,[(5,.bptr 1 0),(6,.bptr 2 0),(7,.d (.int .i64 f)),(11,.d (.bool ok)),(12,.d (.int .i64 i)),(13,.d (.int .i64 k)),(14,.d (.int .i64 m)),(32,.d (.lst 5 (q.map InquiryD.dat))),(33,.d (.int .i64 fee)),(35,.d (.bool five)),(36,.d (.int .i64 n)),(38,.d (.lst 5 (z.map InquiryD.dat))),(39,.d (.int .i64 st)),(40,.d (.int .i64 wi)),(42,.d (.bool seven)),(43,.d (.lst 1 (T.map aa))),(24,.bptr 3 0),(25,.bptr 4 0),(26,.bptr 5 0),(27,.d (.int .i64 fw)),(29,.d (.bool three)),(30,.d (.lst 1 (W.map (ax 1 aa))))]⟩,[(1,.box 42 c.cs),(2,.box 48 p.cs),(3,.box 42 cw.cs),(4,.box 48 pw.cs),(5,.box 48 qw.cs)],6⟩) (fun _=>True) ?_ ?_
  ·intro K hK
   by_cases hog:one = true∧0 < g
   ·obtain ⟨ho,hgp⟩:=hog
    obtain ⟨hoka,t,ht,hgt⟩:=hG ho hgp
    subst ho
    subst hoka
    have h3:=dU ca pa fa ⟨0,ia,ka,ma,false⟩ hcaf hpaf
    rw [ht] at h3
    simp only [Option.getD_some,Option.isSome_some] at h3
    have hgt':¬ t < g:=by omega
    repeat' (first|((with_reducible first|(refine hK _ ?_;clear hK K)|refine ah fun U O=>?_|apply ag|(apply Z<;>(intro hc;try simp at hc;try omega)))<;>try simp only [go_sem,hgp,hgt',bne_self_eq_false])|(with_reducible first|apply aj|(apply O;clear O U)|refine kN eH fun K hK=>?_|refine kO fun K hK=>?_|refine aI ?_)|(refine xS rfl fun U O=>?_;simp only [go_sem,hgp,hgt',bne_self_eq_false])|((with_reducible apply CallK.eq);(· with_reducible first|exact ha1|exact ha2|exact h3);(· simp [RV.flat,D.sc,aa]);try simp only [go_sem,hgp,hgt',bne_self_eq_false])|apply iB)
    exact hK () _ trivial (an [] (by simp [lk,ab]<;>omega))
   ·cases one
    ·repeat' (first|((with_reducible first|(refine hK _ ?_;clear hK K)|refine ah fun U O=>?_|apply ag|(apply Z<;>(intro hc;try simp at hc;try omega)))<;>try simp only [go_sem])|(with_reducible first|apply aj|(apply O;clear O U)|refine kN eH fun K hK=>?_|refine kO fun K hK=>?_|refine aI ?_)|(refine xS rfl fun U O=>?_;simp only [go_sem])|apply iB)
     exact hK () _ trivial (an [] (by simp [lk,ab]<;>omega))
    ·have hg0:¬ 0 < g:=fun h=>hog ⟨rfl,h⟩
     repeat' (first|((with_reducible first|(refine hK _ ?_;clear hK K)|refine ah fun U O=>?_|apply ag|(apply Z<;>(intro hc;try simp at hc;try omega)))<;>try simp only [go_sem,hg0])|(with_reducible first|apply aj|(apply O;clear O U)|refine kN eH fun K hK=>?_|refine kO fun K hK=>?_|refine aI ?_)|(refine xS rfl fun U O=>?_;simp only [go_sem,hg0])|apply iB)
     exact hK () _ trivial (an [] (by simp [lk,ab]<;>omega))
  rintro ⟨⟩ _
  try dsimp only
  clear ha1 ha2 hG hca hcaf hpaf
  refine cM ?_
  refine dF (fun _:Unit=>⟨⟨409,[(5,.bptr 1 0),(6,.bptr 2 0),(7,.d (.int .i64 f)),(11,.d (.bool ok)),(12,.d (.int .i64 i)),(13,.d (.int .i64 k)),(14,.d (.int .i64 m)),(32,.d (.lst 5 (q.map InquiryD.dat))),(33,.d (.int .i64 fee)),(35,.d (.bool five)),(36,.d (.int .i64 n)),(38,.d (.lst 5 (z.map InquiryD.dat))),(39,.d (.int .i64 st)),(40,.d (.int .i64 wi)),(42,.d (.bool seven)),(43,.d (.lst 1 (T.map aa)))]⟩,[(1,.box 42 c.cs),(2,.box 48 p.cs)],6⟩) (fun _=>True) ?_ ?_
  ·intro K hK
   cases three
   ·repeat' (first|((with_reducible first|(refine hK _ ?_;clear hK K)|refine ah fun U O=>?_|apply ag|(apply Z<;>(intro hc;try simp at hc;try omega)))<;>try simp only [go_sem])|(with_reducible first|apply aj|(apply O;clear O U)|refine kN eH fun K hK=>?_|refine kO fun K hK=>?_|refine aI ?_)|(refine xS rfl fun U O=>?_;simp only [go_sem])|apply iB)
    exact hK () _ trivial (an [] (by simp [lk,ab]<;>omega))
   ·obtain ⟨⟨hA1,hA2⟩,hWg⟩:=hWf rfl
    have hs1:=iX cw pw fw hcwf hpwf hA1
    have hs2:=iX cw qw fw hcwf hqwf hA2
    have hsb1:=gd hA1
    have hsb2:=gd hA2
    generalize bF cw pw fw = s1 at hs1 hsb1 hWg
    generalize bF cw qw fw = s2 at hs2 hsb2 hWg
    repeat' (first|((with_reducible first|(refine hK _ ?_;clear hK K)|refine ah fun U O=>?_|apply ag|(apply Z<;>(intro hc;try simp at hc;try omega)))<;>try simp only [go_sem,ao])|(with_reducible first|apply aj|(apply O;clear O U)|refine kN eH fun K hK=>?_|refine kO fun K hK=>?_|refine aI ?_)|(refine xS rfl fun U O=>?_;simp only [go_sem,ao])|((with_reducible apply CallK.eq);(· with_reducible first|exact hs1|exact hs2);(· simp [RV.flat,D.sc,aa]);try simp only [go_sem,ao])|apply iB)
    refine aA [4,60,61,62,325,326,327,328,329,330,331,332,333,334,335,336,337,338,339,340,341,342,343,344,345,346,347,348,349,350,351,352,353,354,355,356,357,358] (fun j:Nat=>[(5,.bptr 1 0),(6,.bptr 2 0),(7,.d (.int .i64 f)),(11,.d (.bool ok)),(12,.d (.int .i64 i)),(13,.d (.int .i64 k)),(14,.d (.int .i64 m)),(32,.d (.lst 5 (q.map InquiryD.dat))),(33,.d (.int .i64 fee)),(35,.d (.bool five)),(36,.d (.int .i64 n)),(38,.d (.lst 5 (z.map InquiryD.dat))),(39,.d (.int .i64 st)),(40,.d (.int .i64 wi)),(42,.d (.bool seven)),(43,.d (.lst 1 (T.map aa))),(24,.bptr 3 0),(25,.bptr 4 0),(27,.d (.int .i64 fw)),(29,.d (.bool true)),(30,.d (.lst 1 (W.map (ax 1 aa)))),(55,.d (.int .i64 s1)),(57,.d (.int .i64 s2)),(323,.d (.lst 1 (W.map (ax 1 aa)))),(324,.d (.int .i64 (W.length:Int))),(325,.d (.int .i64 (j:Int)))]) (fun _=>[(1,.box 42 c.cs),(2,.box 48 p.cs),(3,.box 42 cw.cs),(4,.box 48 pw.cs)]) 6 (fun j=>j≤W.length) (fun j=>W.length - j) 0 (Nat.zero_le _) (an [] (by simp [lk,ab]<;>omega)) ?_
    rintro j hj;simp only [bc,wipe,wl,bb,bx,rm,if_true,if_false,Nat.reduceEqDiff,Bool.false_eq_true,reduceCtorEq]
    by_cases hlt:j < W.length
    ·obtain ⟨y,hy⟩:∃ y,W[j]? = some y:=⟨_,List.getElem?_eq_getElem hlt⟩
     obtain ⟨hy3,t,ht,hts,htb⟩:=hWg y (List.mem_of_getElem? hy)
     obtain ⟨y0,y1,y2,rfl⟩:∃ y0 y1 y2,y = [y0,y1,y2]:=by
      match y,hy3 with
      |[y0,y1,y2],_=>exact ⟨y0,y1,y2,rfl⟩
     simp only [List.getD_cons_zero,List.getD_cons_succ] at ht
     have h3:=dU cw pw fw ⟨0,y0,y1,y2,false⟩ hcwf hpwf
     rw [ht] at h3
     simp only [Option.getD_some,Option.isSome_some] at h3
     have hle:¬ s1 + t≤s2:=by omega
     have ht1:Int.toNat 1 = 1:=rfl
     have ht2:Int.toNat 2 = 2:=rfl
     repeat' (first|((with_reducible first|(refine hK _ ?_;clear hK K)|refine ah fun U O=>?_|apply ag|(apply Z<;>(intro hc;try simp at hc;try omega)))<;>try simp only [go_sem,ao,ap,hy,ar,ax,aa,ht1,ht2,hlt,hle,aH,aG,aP,aK])|(with_reducible first|apply aj|(apply O;clear O U)|refine kN eH fun K hK=>?_|refine kO fun K hK=>?_|refine aI ?_)|(refine xS rfl fun U O=>?_;simp only [go_sem,ao,ap,hy,ar,ax,aa,ht1,ht2,hlt,hle,aH,aG,aP,aK])|(refine qS rfl fun U O=>?_;simp only [go_sem,ao,ap,hy,ar,ax,aa,ht1,ht2,hlt,hle,aH,aG,aP,aK])|((with_reducible first|apply CallK.eq|apply CallQ.eqs);(· with_reducible first|exact h3);(· first|exact rfl|(simp [RV.flat,D.sc,aa];done));try simp only [go_sem,ao,ap,hy,ar,ax,aa,ht1,ht2,hlt,hle,aH,aG,aP,aK])|(with_reducible refine az eH ae ay (by kernel_rfl) (fun K hK=>?_))|(with_reducible refine aO ae ay (by kernel_rfl) ?_)|apply iB)
     exact ⟨j + 1,by omega,by omega,(an [] (by simp [lk,ab]<;>omega))⟩
    ·repeat' (first|((with_reducible first|(refine hK _ ?_;clear hK K)|refine ah fun U O=>?_|apply ag|(apply Z<;>(intro hc;try simp at hc;try omega)))<;>try simp only [go_sem,hlt])|(with_reducible first|apply aj|(apply O;clear O U)|refine kN eH fun K hK=>?_|refine kO fun K hK=>?_|refine aI ?_)|(refine xS rfl fun U O=>?_;simp only [go_sem,hlt])|apply iB)
     exact hK () _ trivial (an [] (by simp [lk,ab]<;>omega))
  rintro ⟨⟩ _
  try dsimp only
  clear hWf hcw hcwf hpwf hqwf
  refine cM ?_
  refine dF (fun _:Unit=>⟨⟨409,[(5,.bptr 1 0),(6,.bptr 2 0),(7,.d (.int .i64 f)),(11,.d (.bool ok)),(12,.d (.int .i64 i)),(13,.d (.int .i64 k)),(14,.d (.int .i64 m)),(32,.d (.lst 5 (q.map InquiryD.dat))),(33,.d (.int .i64 fee)),(35,.d (.bool five)),(36,.d (.int .i64 n))]⟩,[(1,.box 42 c.cs),(2,.box 48 p.cs)],6⟩) (fun _=>True) ?_ ?_
  ·intro K hK
   cases seven
   ·repeat' (first|((with_reducible first|(refine hK _ ?_;clear hK K)|refine ah fun U O=>?_|apply ag|(apply Z<;>(intro hc;try simp at hc;try omega)))<;>try simp only [go_sem])|(with_reducible first|apply aj|(apply O;clear O U)|refine kN eH fun K hK=>?_|refine kO fun K hK=>?_|refine aI ?_)|(refine xS rfl fun U O=>?_;simp only [go_sem])|apply iB)
    exact hK () _ trivial (an [] (by simp [lk,ab]<;>omega))
   ·obtain ⟨⟨t1,t2,t3,t4⟩,hTi⟩:=hTf rfl
    repeat' (first|((with_reducible first|(refine hK _ ?_;clear hK K)|refine ah fun U O=>?_|apply ag|(apply Z<;>(intro hc;try simp at hc;try omega)))<;>try simp only [go_sem,ao])|(with_reducible first|apply aj|(apply O;clear O U)|refine kN eH fun K hK=>?_|refine kO fun K hK=>?_|refine aI ?_)|(refine xS rfl fun U O=>?_;simp only [go_sem,ao])|apply iB)
    refine aA [4,63,64,362,363,364,365,366,367,368,369,370,371,372,373,374,375,376,377] (fun j:Nat=>[(5,.bptr 1 0),(6,.bptr 2 0),(7,.d (.int .i64 f)),(11,.d (.bool ok)),(12,.d (.int .i64 i)),(13,.d (.int .i64 k)),(14,.d (.int .i64 m)),(32,.d (.lst 5 (q.map InquiryD.dat))),(33,.d (.int .i64 fee)),(35,.d (.bool five)),(36,.d (.int .i64 n)),(38,.d (.lst 5 (z.map InquiryD.dat))),(39,.d (.int .i64 st)),(40,.d (.int .i64 wi)),(42,.d (.bool true)),(43,.d (.lst 1 (T.map aa))),(360,.d (.lst 5 (z.map InquiryD.dat))),(361,.d (.int .i64 (z.length:Int))),(362,.d (.int .i64 (j:Int)))]) (fun _=>[(1,.box 42 c.cs),(2,.box 48 p.cs)]) 6 (fun j=>j≤z.length) (fun j=>z.length - j) 0 (Nat.zero_le _) (an [] (by simp [lk,ab]<;>omega)) ?_
    rintro j hj;simp only [bc,wipe,wl,bb,bx,rm,if_true,if_false,Nat.reduceEqDiff,Bool.false_eq_true,reduceCtorEq]
    by_cases hlt:j < z.length
    ·obtain ⟨y,hy⟩:∃ y,z[j]? = some y:=⟨_,List.getElem?_eq_getElem hlt⟩
     have hq1:=w_ T (j:Int) (by omega)
     rw [hTi j y hy] at hq1
     repeat' (first|((with_reducible first|(refine hK _ ?_;clear hK K)|refine ah fun U O=>?_|apply ag|(apply Z<;>(intro hc;try simp at hc;try omega)))<;>try simp only [go_sem,ao,ap,hy,ar,InquiryD.dat,hlt,bne_self_eq_false])|(with_reducible first|apply aj|(apply O;clear O U)|refine kN eH fun K hK=>?_|refine kO fun K hK=>?_|refine aI ?_)|(refine xS rfl fun U O=>?_;simp only [go_sem,ao,ap,hy,ar,InquiryD.dat,hlt,bne_self_eq_false])|(refine qS rfl fun U O=>?_;simp only [go_sem,ao,ap,hy,ar,InquiryD.dat,hlt,bne_self_eq_false])|((with_reducible first|apply CallK.eq|apply CallQ.eqs);(· with_reducible first|exact hq1);(· first|exact rfl|(simp [RV.flat,D.sc,aa];done));try simp only [go_sem,ao,ap,hy,ar,InquiryD.dat,hlt,bne_self_eq_false])|(with_reducible refine az eH ae ay (by kernel_rfl) (fun K hK=>?_))|(with_reducible refine aO ae ay (by kernel_rfl) ?_)|apply iB)
     exact ⟨j + 1,by omega,by omega,(an [] (by simp [lk,ab]<;>omega))⟩
    ·repeat' (first|((with_reducible first|(refine hK _ ?_;clear hK K)|refine ah fun U O=>?_|apply ag|(apply Z<;>(intro hc;try simp at hc;try omega)))<;>try simp only [go_sem,hlt])|(with_reducible first|apply aj|(apply O;clear O U)|refine kN eH fun K hK=>?_|refine kO fun K hK=>?_|refine aI ?_)|(refine xS rfl fun U O=>?_;simp only [go_sem,hlt])|apply iB)
     exact hK () _ trivial (an [] (by simp [lk,ab]<;>omega))
  rintro ⟨⟩ _
  try dsimp only
  clear hTf
  refine cM ?_
  refine dF (fun _:Unit=>⟨⟨409,[(5,.bptr 1 0),(6,.bptr 2 0),(7,.d (.int .i64 f)),(11,.d (.bool ok)),(12,.d (.int .i64 i)),(13,.d (.int .i64 k)),(14,.d (.int .i64 m))]⟩,[(1,.box 42 c.cs),(2,.box 48 p.cs)],6⟩) (fun _=>True) ?_ ?_
  ·intro K hK
   cases five
   ·repeat' (first|((with_reducible first|(refine hK _ ?_;clear hK K)|refine ah fun U O=>?_|apply ag|(apply Z<;>(intro hc;try simp at hc;try omega)))<;>try simp only [go_sem])|(with_reducible first|apply aj|(apply O;clear O U)|refine kN eH fun K hK=>?_|refine kO fun K hK=>?_|refine aI ?_)|(refine xS rfl fun U O=>?_;simp only [go_sem])|apply iB)
    exact hK () _ trivial (an [] (by simp [lk,ab]<;>omega))
   ·obtain ⟨hq20,⟨hf0,hf1⟩,hn0,hn1⟩:=hE rfl
    have hM:fee * (q.length:Int)≤10000 * 20:=Int.mul_le_mul hf1 (by omega) (by omega) (by omega)
    have hM0:0≤fee * (q.length:Int):=Int.mul_nonneg hf0 (by omega)
    have h1:¬ n < 0:=by omega
    have h2:¬ fee * (q.length:Int) < n:=by omega
    repeat' (first|((with_reducible first|(refine hK _ ?_;clear hK K)|refine ah fun U O=>?_|apply ag|(apply Z<;>(intro hc;try simp at hc;try omega)))<;>try simp only [go_sem,h1,h2,ao])|(with_reducible first|apply aj|(apply O;clear O U)|refine kN eH fun K hK=>?_|refine kO fun K hK=>?_|refine aI ?_)|(refine xS rfl fun U O=>?_;simp only [go_sem,h1,h2,ao])|apply iB)
    exact hK () _ trivial (an [] (by simp [lk,ab]<;>omega))
  rintro ⟨⟩ _
  try dsimp only
  cases ok
  ·repeat' (first|((with_reducible first|(refine hK _ ?_;clear hK K)|refine ah fun U O=>?_|apply ag|(apply Z<;>(intro hc;try simp at hc;try omega)))<;>try simp only [go_sem])|(with_reducible first|apply aj|(apply O;clear O U)|refine kN eH fun K hK=>?_|refine kO fun K hK=>?_|refine aI ?_)|(refine xS rfl fun U O=>?_;simp only [go_sem])|apply iB)
   refine ak rfl rfl (by simp [am,lk]) ?_;rfl
  ·obtain ⟨t,ht,ht0⟩:=hB rfl
   have h3:=dU c p f ⟨0,i,k,m,false⟩ hcf hpf
   rw [ht] at h3
   simp only [Option.getD_some,Option.isSome_some] at h3
   repeat' (first|((with_reducible first|(refine hK _ ?_;clear hK K)|refine ah fun U O=>?_|apply ag|(apply Z<;>(intro hc;try simp at hc;try omega)))<;>try simp only [go_sem,ht0])|(with_reducible first|apply aj|(apply O;clear O U)|refine kN eH fun K hK=>?_|refine kO fun K hK=>?_|refine aI ?_)|(refine xS rfl fun U O=>?_;simp only [go_sem,ht0])|((with_reducible apply CallK.eq);(· with_reducible first|exact h3);(· simp [RV.flat,D.sc,aa]);try simp only [go_sem,ht0])|apply iB)
   refine ak rfl rfl (by simp [am,lk]) ?_;rfl
theorem own:ownKnob Tryz.prog.godebug = none:=by kernel_rfl
theorem rJ:laidOutB Tryz.prog = true:=by kernel_rfl
set_option linter.unusedVariables false in
set_option maxRecDepth 100000 in
theorem xB (os:Os) (started:os.Started) (H:Type) (enc:TypeId × Value→H):
  ReturnsInHanded {} Tryz.checked os 8 .any (Rows.fnInquiriesSpec.pre6 enc Tryz.prog Tryz.f8 Rows.fnInquiriesRow.domain false) (Rows.fnInquiriesSpec.post enc Tryz.prog Tryz.f8 false true false false):=by
 refine returnsInHanded_of_change (C:=Tryz.checked) own started (by kernel_rfl) Tryz.func8
  (ChangeSpec.witness6 (enc:=enc) (C:=Tryz.checked) false ⟨#[],#[.slice none 0 0,.slice none 0 0],[]⟩ 8 (by kernel_rfl) (by kernel_rfl) (by kernel_rfl) (by kernel_rfl)) ?_
 intro W base args ds gs before hval0 hW hcnd _
 have hval:∀ (j:Nat) t v,Tryz.f8.params[j]? = some t→args[j]? = some v→Value.okWide Tryz.prog W .any base t v:=hval0
 have hW':=hW
 obtain ⟨p,q,hA0,hV,rfl,hfz,hnd⟩:=hW
 have hA:DataW.TrodAll enc Tryz.prog W 0 (fun _=>true) true Tryz.f8.params.toList args.toList ds p:=hA0
 rw [Tryz.params8] at hA hval
 obtain ⟨v0,vs0,d0,ds0,p0,q0,hargs,rfl,rfl,h0,r0⟩:=trodAll_cons hA
 obtain ⟨v1,vs1,d1,ds1,p1,q1,rfl,rfl,rfl,h1,r1⟩:=trodAll_cons r0
 obtain ⟨rfl,rfl,rfl⟩:=trodAll_nil r1
 obtain rfl:args = #[v0,v1]:=by cases args;simp_all
 obtain ⟨rfl,rfl⟩:=trodVars_none hV
 have k0:=h0
 have lt0:=py k0
 obtain ⟨s0,len0,cap0,rfl⟩:=okWide_slice Tryz.underlying72 (hval 0 72 v0 rfl rfl)
 obtain ⟨fuel0,hf0⟩:=h0
 obtain ⟨x0,m0,rd0⟩:=open_bytes.2 _ _ _ hf0
 have R0:=ob rfl rd0
 clear hf0
 have k1:=h1
 have lt1:=py k1
 obtain ⟨s1,len1,cap1,rfl⟩:=okWide_slice Tryz.underlying72 (hval 1 72 v1 rfl rfl)
 obtain ⟨fuel1,hf1⟩:=h1
 obtain ⟨x1,m1,rd1⟩:=open_bytes.2 _ _ _ hf1
 have R1:=ob rfl rd1
 clear hf1
 clear hA0 hval0
 refine (yG (law_FnInquiries_ok x0 m0 x1 m1) W (xH W) _ rfl (yk R0 R1)).mono fun e W' ⟨he,bel⟩=>?_
 subst he
 exact ⟨_,rfl,_,_,_,[],_,[],hW',trodAll_mk1 (shut_bool Tryz.underlying4 _),(trodAll_cons_mk (Below.trod rJ (by kernel_rfl) (of_decide_eq_true (by kernel_rfl)) k0 bel lt0) (trodAll_cons_mk (Below.trod rJ (by kernel_rfl) (of_decide_eq_true (by kernel_rfl)) k1 bel lt1) trodAll_mk0)),rfl,bel.frame _,fun h=>by cases h⟩
theorem bc:Rows.fnInquiriesRow.holds Tryz.pinned (OpenSpec.ofChange Rows.fnInquiriesSpec):=
 OpenClaim.holds_of_wide 8 Tryz.f8 rfl rfl rfl rfl rfl rfl rfl ⟨rfl,rfl,rfl,rfl,rfl⟩ rfl rfl rfl rfl rfl (by kernel_rfl) Tryz.func8 (by kernel_rfl)
  (of_decide_eq_true (by kernel_rfl)) (by unfold Func.isWrapper;first|(rw [if_pos (by decide +kernel)];kernel_rfl)|(rw [if_neg (by decide +kernel)];exact ⟨rfl,rfl⟩))
  (fun os started H enc _=>xB os started H enc)
theorem proved:Rows.FnInquiriesSaid:=bc
end Go.Proofs.YtphakidbddamfaaGreat.lawInquiries
