/- TalkHears -/
import Derived.Test.YtcjicjfbippmnaaGreatMTHear9
set_option maxRecDepth 100000
set_option maxHeartbeats 32000000
namespace Go.Proofs.YtcjicjfbippmnaaGreat
open Go.RowKit Ear
set_option linter.unusedVariables false

theorem Zcs (x y:Fr) (p q:Rat) (w:World) (hx:Nm w x p) (hy:Nm w y q) (sp:Sz p 190000) (sq:Sz q 190000):Calls Tryz.prog 65 #[x.val,y.val] w (Qn (p + q) w):=by
 obtain ⟨xn,xA,xc,xN,xB,xd,xD⟩:=x;obtain ⟨h1,h2,h3,HxN,HxD⟩:=hx;simp only at h1 h2 h3 HxN HxD;subst h1 h2 h3;obtain ⟨yn,yA,yc,yN,yB,yd,yD⟩:=y;obtain ⟨h1,h2,h3,HyN,HyD⟩:=hy;simp only at h1 h2 h3 HyN HyD;subst h1 h2 h3;simp only [Fr.val];have s1:=sp.num;have s2:=sp.den;have s3:=sq.num;have s4:=sq.den;have l1:(nd (qn p * q.den)).length <= 380000:=by have:=JM (qn p) q.den;omega
 have l2:(nd (qn q * p.den)).length <= 380000:=by have:=JM (qn q) p.den;omega
 have l3:(nd (p.den * q.den)).length <= 380000:=by have:=JM p.den q.den;omega
 have d0:p.den * q.den ≠ 0:=Wb4 p.den_nz q.den_nz;have HPQ:=zH (Ze5 p q);go_enter Tryz.func65,Tryz.ntmps65;go_wp2_with fail;obtain ⟨W,hW⟩:∃ W:World,W = ((w.alloc (.cells #[.bool (qs p),.slice xA (nd (qn p)).length xc,.slice xB (nd p.den).length xd] 119)).alloc (.cells #[.bool (qs q),.slice yA (nd (qn q)).length yc,.slice yB (nd q.den).length yd] 119)).alloc (.cells #[.bool false,.slice none 0 0,.slice none 0 0] 119):=⟨_,rfl⟩;have hs:W.heap.size = w.heap.size + 3:=by rw [hW];simp
 have HB0:Hid (Below w.heap.size w W):=zH (by rw [hW];exact (al2 w _ _).alloc (by simp;omega) _);have HBX:Hid (Bt 119 W (w.heap.size + 1 + 1)):=zH (by rw [hW];have:=Bt.new 119 ((w.alloc (.cells #[.bool (qs p),.slice xA (nd (qn p)).length xc,.slice xB (nd p.den).length xd] 119)).alloc (.cells #[.bool (qs q),.slice yA (nd (qn q)).length yc,.slice yB (nd q.den).length yd] 119));simpa using this);have HC:Hid (∀ u,Below W.heap.size W u -> u.cell? ⟨w.heap.size,0,none⟩ = some (.bool (qs p)) /\ u.cell? ⟨w.heap.size,1,none⟩ = some (.slice xA (nd (qn p)).length xc) /\ u.cell? ⟨w.heap.size,2,none⟩ = some (.slice xB (nd p.den).length xd) /\ u.cell? ⟨w.heap.size + 1,0,none⟩ = some (.bool (qs q)) /\ u.cell? ⟨w.heap.size + 1,1,none⟩ = some (.slice yA (nd (qn q)).length yc) /\ u.cell? ⟨w.heap.size + 1,2,none⟩ = some (.slice yB (nd q.den).length yd)):=zH (fun u hu=>by
  rw [hu.cell (p:=⟨w.heap.size,0,none⟩) (by simp;omega),hu.cell (p:=⟨w.heap.size,1,none⟩) (by simp;omega),hu.cell (p:=⟨w.heap.size,2,none⟩) (by simp;omega),hu.cell (p:=⟨w.heap.size + 1,0,none⟩) (by simp;omega),hu.cell (p:=⟨w.heap.size + 1,1,none⟩) (by simp;omega),hu.cell (p:=⟨w.heap.size + 1,2,none⟩) (by simp;omega),hW];simp [go_sem])
 have HxN1:=zH (HxN.below HB0.out);have HxD1:=zH (HxD.below HB0.out);have HyN1:=zH (HyN.below HB0.out);have HyD1:=zH (HyD.below HB0.out);clear HxN HxD HyN HyD;rw [<- hW];clear hW;refine Xz 53 rfl (by kernel_rfl) (by kernel_rfl) (by kernel_rfl) (fun u=>Below W.heap.size W u) (fun u u'=>Below u.heap.size u u') (Gl [isV (.pointer (some ⟨w.heap.size,1,none⟩)),isV (.slice xA (nd (qn p)).length xc),isV (.pointer (some ⟨w.heap.size + 1,2,none⟩)),isV (.slice yB (nd q.den).length yd),isNd ((qn p) * (q.den)),isV (.pointer (some ⟨w.heap.size + 1,1,none⟩)),isV (.slice yA (nd (qn q)).length yc),isV (.pointer (some ⟨w.heap.size,2,none⟩)),isV (.slice xB (nd p.den).length xd),isNd ((qn q) * (p.den)),isV (.pointer (some ⟨w.heap.size,2,none⟩)),isV (.slice xB (nd p.den).length xd),isV (.pointer (some ⟨w.heap.size + 1,2,none⟩)),isV (.slice yB (nd q.den).length yd),isNd ((p.den) * (q.den)),isNd ((qn p) * (q.den)),isNd ((qn q) * (p.den)),isNd ((p.den) * (q.den))]) (Gl.keep (by
   intro p hp;simp only [List.mem_cons,List.not_mem_nil,or_false] at hp;rcases hp with rfl | rfl | rfl | rfl | rfl | rfl | rfl | rfl | rfl | rfl | rfl | rfl | rfl | rfl | rfl | rfl | rfl | rfl
   ·exact Keeps.isV _
   ·exact Keeps.isV _
   ·exact Keeps.isV _
   ·exact Keeps.isV _
   ·exact Keeps.isNd _
   ·exact Keeps.isV _
   ·exact Keeps.isV _
   ·exact Keeps.isV _
   ·exact Keeps.isV _
   ·exact Keeps.isNd _
   ·exact Keeps.isV _
   ·exact Keeps.isV _
   ·exact Keeps.isV _
   ·exact Keeps.isV _
   ·exact Keeps.isNd _
   ·exact Keeps.isNd _
   ·exact Keeps.isNd _
   ·exact Keeps.isNd _)) ?_ ?_ ?_
 ·exact (Wp _ W).drew
 ·simp only [Jt];refine ⟨?_,?_,?_,?_,?_,?_,?_,?_,?_,?_,?_,?_,?_,?_,?_,?_,?_,?_,trivial⟩
  ·intro bb u su dp kp K hK;have e2:gT bb 2 = .pointer (some ⟨w.heap.size,0,none⟩):=kp 2 (by kernel_rfl);go_simp;exact hK _ _ su bR rfl
  ·intro bb u su dp kp K hK;have e8:gT bb 8 = .pointer (some ⟨w.heap.size,1,none⟩):=dp 0 _ rfl (by kernel_rfl);obtain ⟨cc0,cc1,cc2,cc3,cc4,cc5⟩:=HC.out u su;go_simp;exact hK _ _ su bR rfl
  ·intro bb u su dp kp K hK;have e3:gT bb 3 = .pointer (some ⟨w.heap.size + 1,0,none⟩):=kp 3 (by kernel_rfl);go_simp;exact hK _ _ su bR rfl
  ·intro bb u su dp kp K hK;have e10:gT bb 10 = .pointer (some ⟨w.heap.size + 1,2,none⟩):=dp 2 _ rfl (by kernel_rfl);obtain ⟨cc0,cc1,cc2,cc3,cc4,cc5⟩:=HC.out u su;go_simp;exact hK _ _ su bR rfl
  ·intro bb u su dp kp K hK;have e9:gT bb 9 = .slice xA (nd (qn p)).length xc:=dp 1 _ rfl (by kernel_rfl);have e11:gT bb 11 = .slice yB (nd q.den).length yd:=dp 3 _ rfl (by kernel_rfl);go_simp;refine (Zz xA yB xc yd (nd (qn p)) (nd (q.den)) u (HxN1.out.below su) (HyD1.out.below su) (by omega) (by omega) ((qn p) * (q.den)) (zH (by rw [Ju,Ju];simp))).mono ?_;rintro e w' ⟨A,c,rfl,h1,h2,h3,h4⟩;go_simp;exact hK _ _ (su.trans (h4.mono su.size)) h4 ⟨A,c,rfl,zH (Jz h1 h2 h3)⟩
  ·intro bb u su dp kp K hK;have e3:gT bb 3 = .pointer (some ⟨w.heap.size + 1,0,none⟩):=kp 3 (by kernel_rfl);go_simp;exact hK _ _ su bR rfl
  ·intro bb u su dp kp K hK;have e13:gT bb 13 = .pointer (some ⟨w.heap.size + 1,1,none⟩):=dp 5 _ rfl (by kernel_rfl);obtain ⟨cc0,cc1,cc2,cc3,cc4,cc5⟩:=HC.out u su;go_simp;exact hK _ _ su bR rfl
  ·intro bb u su dp kp K hK;have e2:gT bb 2 = .pointer (some ⟨w.heap.size,0,none⟩):=kp 2 (by kernel_rfl);go_simp;exact hK _ _ su bR rfl
  ·intro bb u su dp kp K hK;have e15:gT bb 15 = .pointer (some ⟨w.heap.size,2,none⟩):=dp 7 _ rfl (by kernel_rfl);obtain ⟨cc0,cc1,cc2,cc3,cc4,cc5⟩:=HC.out u su;go_simp;exact hK _ _ su bR rfl
  ·intro bb u su dp kp K hK;have e14:gT bb 14 = .slice yA (nd (qn q)).length yc:=dp 6 _ rfl (by kernel_rfl);have e16:gT bb 16 = .slice xB (nd p.den).length xd:=dp 8 _ rfl (by kernel_rfl);go_simp;refine (Zz yA xB yc xd (nd (qn q)) (nd (p.den)) u (HyN1.out.below su) (HxD1.out.below su) (by omega) (by omega) ((qn q) * (p.den)) (zH (by rw [Ju,Ju];simp))).mono ?_;rintro e w' ⟨A,c,rfl,h1,h2,h3,h4⟩;go_simp;exact hK _ _ (su.trans (h4.mono su.size)) h4 ⟨A,c,rfl,zH (Jz h1 h2 h3)⟩
  ·intro bb u su dp kp K hK;have e2:gT bb 2 = .pointer (some ⟨w.heap.size,0,none⟩):=kp 2 (by kernel_rfl);go_simp;exact hK _ _ su bR rfl
  ·intro bb u su dp kp K hK;have e18:gT bb 18 = .pointer (some ⟨w.heap.size,2,none⟩):=dp 10 _ rfl (by kernel_rfl);obtain ⟨cc0,cc1,cc2,cc3,cc4,cc5⟩:=HC.out u su;go_simp;exact hK _ _ su bR rfl
  ·intro bb u su dp kp K hK;have e3:gT bb 3 = .pointer (some ⟨w.heap.size + 1,0,none⟩):=kp 3 (by kernel_rfl);go_simp;exact hK _ _ su bR rfl
  ·intro bb u su dp kp K hK;have e20:gT bb 20 = .pointer (some ⟨w.heap.size + 1,2,none⟩):=dp 12 _ rfl (by kernel_rfl);obtain ⟨cc0,cc1,cc2,cc3,cc4,cc5⟩:=HC.out u su;go_simp;exact hK _ _ su bR rfl
  ·intro bb u su dp kp K hK;have e19:gT bb 19 = .slice xB (nd p.den).length xd:=dp 11 _ rfl (by kernel_rfl);have e21:gT bb 21 = .slice yB (nd q.den).length yd:=dp 13 _ rfl (by kernel_rfl);go_simp;refine (Zz xB yB xd yd (nd (p.den)) (nd (q.den)) u (HxD1.out.below su) (HyD1.out.below su) (by omega) (by omega) ((p.den) * (q.den)) (zH (by rw [Ju,Ju];simp))).mono ?_;rintro e w' ⟨A,c,rfl,h1,h2,h3,h4⟩;go_simp;exact hK _ _ (su.trans (h4.mono su.size)) h4 ⟨A,c,rfl,zH (Jz h1 h2 h3)⟩
  ·intro bb u su dp kp K hK;obtain ⟨A12,c12,e12,D12⟩:∃ A c,gT bb 12 = .slice A (nd ((qn p) * (q.den))).length c /\ Hid (Dg u A c (nd ((qn p) * (q.den)))):=dp 4 _ rfl (by kernel_rfl);go_simp;exact hK _ _ su bR ⟨A12,c12,rfl,D12⟩
  ·intro bb u su dp kp K hK;obtain ⟨A17,c17,e17,D17⟩:∃ A c,gT bb 17 = .slice A (nd ((qn q) * (p.den))).length c /\ Hid (Dg u A c (nd ((qn q) * (p.den)))):=dp 9 _ rfl (by kernel_rfl);go_simp;exact hK _ _ su bR ⟨A17,c17,rfl,D17⟩
  ·intro bb u su dp kp K hK;obtain ⟨A22,c22,e22,D22⟩:∃ A c,gT bb 22 = .slice A (nd ((p.den) * (q.den))).length c /\ Hid (Dg u A c (nd ((p.den) * (q.den)))):=dp 14 _ rfl (by kernel_rfl);go_simp;exact hK _ _ su bR ⟨A22,c22,rfl,D22⟩
 ·intro bb u hN hdf su hG sm;obtain ⟨A5,c5,e5,D5⟩:∃ A c,gT bb 5 = .slice A (nd ((qn p) * (q.den))).length c /\ Hid (Dg u A c (nd ((qn p) * (q.den)))):=hG 15 _ rfl;obtain ⟨A6,c6,e6,D6⟩:∃ A c,gT bb 6 = .slice A (nd ((qn q) * (p.den))).length c /\ Hid (Dg u A c (nd ((qn q) * (p.den)))):=hG 16 _ rfl;obtain ⟨A7,c7,e7,D7⟩:∃ A c,gT bb 7 = .slice A (nd ((p.den) * (q.den))).length c /\ Hid (Dg u A c (nd ((p.den) * (q.den)))):=hG 17 _ rfl;have e2:gT bb 2 = .pointer (some ⟨w.heap.size,0,none⟩):=sm 2 (by kernel_rfl);have e3:gT bb 3 = .pointer (some ⟨w.heap.size + 1,0,none⟩):=sm 3 (by kernel_rfl);have e4:gT bb 4 = .pointer (some ⟨w.heap.size + 1 + 1,0,none⟩):=sm 4 (by kernel_rfl);rw [JL bb 53 hN];simp only [show List.range 53 = [0,1,2,3,4,5,6,7,8,9,10,11,12,13,14,15,16,17,18,19,20,21,22,23,24,25,26,27,28,29,30,31,32,33,34,35,36,37,38,39,40,41,42,43,44,45,46,47,48,49,50,51,52] from rfl,WaG,Wa3,e5,e6,e7,e2,e3,e4,hdf];clear e5 e6 e7 e2 e3 e4 hG sm hN hdf;generalize gT bb 0 = z0,gT bb 1 = z1,gT bb 8 = z8,gT bb 9 = z9,gT bb 10 = z10,gT bb 11 = z11,gT bb 12 = z12,gT bb 13 = z13,gT bb 14 = z14,gT bb 15 = z15,gT bb 16 = z16,gT bb 17 = z17,gT bb 18 = z18,gT bb 19 = z19,gT bb 20 = z20,gT bb 21 = z21,gT bb 22 = z22,gT bb 23 = z23,gT bb 24 = z24,gT bb 25 = z25,gT bb 26 = z26,gT bb 27 = z27,gT bb 28 = z28,gT bb 29 = z29,gT bb 30 = z30,gT bb 31 = z31,gT bb 32 = z32,gT bb 33 = z33,gT bb 34 = z34,gT bb 35 = z35,gT bb 36 = z36,gT bb 37 = z37,gT bb 38 = z38,gT bb 39 = z39,gT bb 40 = z40,gT bb 41 = z41,gT bb 42 = z42,gT bb 43 = z43,gT bb 44 = z44,gT bb 45 = z45,gT bb 46 = z46,gT bb 47 = z47,gT bb 48 = z48,gT bb 49 = z49,gT bb 50 = z50,gT bb 51 = z51,gT bb 52 = z52;have HBXV:=zH (HBX.out.below su);have HB0V:=zH (HB0.out.trans (su.mono HB0.out.size));have HCV:=zH (fun u' (hu':Below u.heap.size u u')=>HC.out u' (su.trans (hu'.mono su.size)));have SUV:=zH su;obtain ⟨V,rfl⟩:∃ X,X = u:=⟨_,rfl⟩;clear su;generalize qn p * q.den = n1 at *
  generalize qn q * p.den = n2 at *
  generalize p.den * q.den = m at *
  have HCF:Hid (∀ u',Below V.heap.size V u' -> (u'.cell? ⟨w.heap.size,0,none⟩ = some (.bool (qs p)) /\ u'.cell? ⟨w.heap.size + 1,0,none⟩ = some (.bool (qs q)))):=zH (fun u' hu'=>by obtain ⟨x0,x1,x2,x3,x4,x5⟩:=HCV.out u' hu';exact ⟨x0,x3⟩);obtain ⟨y0,y1⟩:=HCF.out V bR;clear HC HCV HB0 HBX SUV HxN1 HxD1 HyN1 HyD1 s1 s2 s3 s4;have LS:Hid ((nd (n1 + n2)).length <= 400000):=zH (tR (Xx n1 n2 380000 (by omega) (by omega)) (by decide));by_cases hs:qs p = qs q
  ·have hq:(qs p == qs q) = true:=by rw [hs];simp
   have HE:Hid (p + q = fq (qs p) (n1 + n2) m):=zH (by rw [HPQ.out,WA hs]);have HQ:=zH hq;have HS:=zH hs;clear hs hq HPQ;generalize qs p = sp at *
   generalize qs q = sq at *
   obtain rfl:=HS.out;clear HQ HS;go_wp2_with fail;refine Jj 7 53 rfl (by kernel_rfl) (by kernel_rfl) (by kernel_rfl) (by kernel_rfl) (fun u=>Below V.heap.size V u) (fun u u'=>Below u.heap.size u u') (Gl [isV (.pointer (some ⟨w.heap.size,0,none⟩)),isV (.bool sp),isV (.slice A5 (nd n1).length c5),isV (.slice A6 (nd n2).length c6),isNd ((n1) + (n2)),isV (.slice A7 (nd m).length c7),isNm (fq (sp) ((n1) + (n2)) (m))]) (Gl.keep (by
     intro p hp;simp only [List.mem_cons,List.not_mem_nil,or_false] at hp;rcases hp with rfl | rfl | rfl | rfl | rfl | rfl | rfl
     ·exact Keeps.isV _
     ·exact Keeps.isV _
     ·exact Keeps.isV _
     ·exact Keeps.isV _
     ·exact Keeps.isNd _
     ·exact Keeps.isV _
     ·exact Keeps.isNm _)) ?_ ?_ ?_
   ·exact (Wp _ V).drew
   ·simp only [List.pop_toArray,List.dropLast,Jt];refine ⟨?_,?_,?_,?_,?_,?_,?_,trivial⟩
    ·intro bb u su dp kp K hK;have e2:gT bb 2 = .pointer (some ⟨w.heap.size,0,none⟩):=kp 2 (by kernel_rfl);go_simp;exact hK _ _ su bR rfl
    ·intro bb u su dp kp K hK;have e28:gT bb 28 = .pointer (some ⟨w.heap.size,0,none⟩):=dp 0 _ rfl (by kernel_rfl);obtain ⟨cc0,cc1⟩:=HCF.out u su;go_simp;exact hK _ _ su bR rfl
    ·intro bb u su dp kp K hK;have e5:gT bb 5 = .slice A5 (nd n1).length c5:=kp 5 (by kernel_rfl);go_simp;exact hK _ _ su bR rfl
    ·intro bb u su dp kp K hK;have e6:gT bb 6 = .slice A6 (nd n2).length c6:=kp 6 (by kernel_rfl);go_simp;exact hK _ _ su bR rfl
    ·intro bb u su dp kp K hK;have e30:gT bb 30 = .slice A5 (nd n1).length c5:=dp 2 _ rfl (by kernel_rfl);have e31:gT bb 31 = .slice A6 (nd n2).length c6:=dp 3 _ rfl (by kernel_rfl);go_simp;refine (Zfx A5 A6 c5 c6 (nd (n1)) (nd (n2)) u (D5.out.below su) (D6.out.below su) (by omega) (by omega) ((n1) + (n2)) (zH (by rw [Ju,Ju];omega))).mono ?_;rintro e w' ⟨A,c,rfl,h1,h2,h3,h4⟩;go_simp;exact hK _ _ (su.trans (h4.mono su.size)) h4 ⟨A,c,rfl,zH (Jz h1 h2 h3)⟩
    ·intro bb u su dp kp K hK;have e7:gT bb 7 = .slice A7 (nd m).length c7:=kp 7 (by kernel_rfl);go_simp;exact hK _ _ su bR rfl
    ·intro bb u su dp kp K hK;have e29:gT bb 29 = .bool sp:=dp 1 _ rfl (by kernel_rfl);obtain ⟨A32,c32,e32,D32⟩:∃ A c,gT bb 32 = .slice A (nd ((n1) + (n2))).length c /\ Hid (Dg u A c (nd ((n1) + (n2)))):=dp 4 _ rfl (by kernel_rfl);have e33:gT bb 33 = .slice A7 (nd m).length c7:=dp 5 _ rfl (by kernel_rfl);go_simp;refine (XP (sp) A32 A7 c32 c7 ((n1) + (n2)) (m) u D32.out (D7.out.below su) LS.out (by omega) d0).mono ?_;rintro e w' ⟨r,rfl,hr,h4⟩;go_simp;exact hK _ _ (su.trans (h4.mono su.size)) h4 ⟨r,rfl,zH hr⟩
   ·intro bb u hN hdf su hG sm;obtain ⟨r,e34,hr⟩:∃ r:Fr,gT bb 34 = r.val /\ Hid (Nm u r (fq (sp) ((n1) + (n2)) (m))):=hG 6 _ rfl;have e4:gT bb 4 = .pointer (some ⟨w.heap.size + 1 + 1,0,none⟩):=sm 4 (by kernel_rfl);have BX2:=zH (HBXV.out.below su);obtain ⟨c0,c1,c2,f0,f1,f2⟩:=BX2.out.facts;have HB2:=zH (HB0V.out.trans (su.mono HB0V.out.size));clear su hG sm;rw [JL bb 53 hN];simp only [show List.range 53 = [0,1,2,3,4,5,6,7,8,9,10,11,12,13,14,15,16,17,18,19,20,21,22,23,24,25,26,27,28,29,30,31,32,33,34,35,36,37,38,39,40,41,42,43,44,45,46,47,48,49,50,51,52] from rfl,WaG,Wa3,e4,e34,hdf];clear e4 e34 hN hdf;generalize gT bb 0 = z0,gT bb 1 = z1,gT bb 2 = z2,gT bb 3 = z3,gT bb 5 = z5,gT bb 6 = z6,gT bb 7 = z7,gT bb 8 = z8,gT bb 9 = z9,gT bb 10 = z10,gT bb 11 = z11,gT bb 12 = z12,gT bb 13 = z13,gT bb 14 = z14,gT bb 15 = z15,gT bb 16 = z16,gT bb 17 = z17,gT bb 18 = z18,gT bb 19 = z19,gT bb 20 = z20,gT bb 21 = z21,gT bb 22 = z22,gT bb 23 = z23,gT bb 24 = z24,gT bb 25 = z25,gT bb 26 = z26,gT bb 27 = z27,gT bb 28 = z28,gT bb 29 = z29,gT bb 30 = z30,gT bb 31 = z31,gT bb 32 = z32,gT bb 33 = z33,gT bb 35 = z35,gT bb 36 = z36,gT bb 37 = z37,gT bb 38 = z38,gT bb 39 = z39,gT bb 40 = z40,gT bb 41 = z41,gT bb 42 = z42,gT bb 43 = z43,gT bb 44 = z44,gT bb 45 = z45,gT bb 46 = z46,gT bb 47 = z47,gT bb 48 = z48,gT bb 49 = z49,gT bb 50 = z50,gT bb 51 = z51,gT bb 52 = z52;obtain ⟨rn,rA,rc,rN,rB,rd,rD⟩:=r;refine PopQ.last rfl rfl (fun K hK=>?_);go_simp;refine hK _ _ ?_;clear hK K;go_wp2_with fail;obtain ⟨g0,g1,g2⟩:=Zy (.bool rn) (.slice rA rN.length rc) (.slice rB rD.length rd) c0 c1 c2;refine WB (v:=.agg #[.bool rn,.slice rA rN.length rc,.slice rB rD.length rd]) (by simp [results,Tryz.results65,go_sem,g0,g1,g2]) rfl ?_;exact ⟨⟨rn,rA,rc,rN,rB,rd,rD⟩,rfl,(by rw [HE.out];exact YL hr.out BX2.out _ _ _),Ji HB2.out (by omega) _ _ _⟩
  ·have hq:(qs p == qs q) = false:=by simp [hs]
   rcases WaS n1 n2 with hc | hc
   ·have HE:Hid (p + q = fq (qs q) (n2 - n1) m):=zH (by rw [HPQ.out,Ww hs,WA hc]);have CC:=zH (YE A5 A6 c5 c6 n1 n2 V D5.out D6.out (by omega) (-1) (zH (Yu hc)));have LD:Hid ((nd (n2 - n1)).length <= 400000):=zH (tR (Jl (Wd3 _ _)) (by omega));clear HPQ hs;generalize qs p = sp at *
    generalize qs q = sq at *
    go_wp2_with fail;refine CC.out.mono ?_;rintro e w' ⟨rfl,n9,rfl⟩;have X9:Hid (Bt 119 (V.drewN n9) (w.heap.size + 1 + 1)):=zH (HBXV.out.below (Jb _ _));have B9:Hid (Below w.heap.size w (V.drewN n9)):=zH (HB0V.out.trans (Jb _ _));have D59:Hid (Dg (V.drewN n9) A5 c5 (nd n1)):=zH (D5.out.below (Jb _ _));have D69:Hid (Dg (V.drewN n9) A6 c6 (nd n2)):=zH (D6.out.below (Jb _ _));have D79:Hid (Dg (V.drewN n9) A7 c7 (nd m)):=zH (D7.out.below (Jb _ _));have HC9:Hid (∀ u',Below (V.drewN n9).heap.size (V.drewN n9) u' -> (u'.cell? ⟨w.heap.size,0,none⟩ = some (.bool sp) /\ u'.cell? ⟨w.heap.size + 1,0,none⟩ = some (.bool sq))):=zH (fun u' hu'=>HCF.out u' ((Jb V n9).trans hu'));clear CC D5 D6 D7 HBXV HB0V HCF y0 y1;generalize V.drewN n9 = V9 at *
    go_wp2_with fail;refine Jj 7 53 rfl (by kernel_rfl) (by kernel_rfl) (by kernel_rfl) (by kernel_rfl) (fun u=>Below V9.heap.size V9 u) (fun u u'=>Below u.heap.size u u') (Gl [isV (.pointer (some ⟨w.heap.size + 1,0,none⟩)),isV (.bool sq),isV (.slice A6 (nd n2).length c6),isV (.slice A5 (nd n1).length c5),isNd ((n2) - (n1)),isV (.slice A7 (nd m).length c7),isNm (fq (sq) ((n2) - (n1)) (m))]) (Gl.keep (by
      intro p hp;simp only [List.mem_cons,List.not_mem_nil,or_false] at hp;rcases hp with rfl | rfl | rfl | rfl | rfl | rfl | rfl
      ·exact Keeps.isV _
      ·exact Keeps.isV _
      ·exact Keeps.isV _
      ·exact Keeps.isV _
      ·exact Keeps.isNd _
      ·exact Keeps.isV _
      ·exact Keeps.isNm _)) ?_ ?_ ?_
    ·exact (Wp _ V9).drew
    ·simp only [List.pop_toArray,List.dropLast,Jt];refine ⟨?_,?_,?_,?_,?_,?_,?_,trivial⟩
     ·intro bb u su dp kp K hK;have e3:gT bb 3 = .pointer (some ⟨w.heap.size + 1,0,none⟩):=kp 3 (by kernel_rfl);go_simp;exact hK _ _ su bR rfl
     ·intro bb u su dp kp K hK;have e39:gT bb 39 = .pointer (some ⟨w.heap.size + 1,0,none⟩):=dp 0 _ rfl (by kernel_rfl);obtain ⟨cc0,cc1⟩:=HC9.out u su;go_simp;exact hK _ _ su bR rfl
     ·intro bb u su dp kp K hK;have e6:gT bb 6 = .slice A6 (nd n2).length c6:=kp 6 (by kernel_rfl);go_simp;exact hK _ _ su bR rfl
     ·intro bb u su dp kp K hK;have e5:gT bb 5 = .slice A5 (nd n1).length c5:=kp 5 (by kernel_rfl);go_simp;exact hK _ _ su bR rfl
     ·intro bb u su dp kp K hK;have e41:gT bb 41 = .slice A6 (nd n2).length c6:=dp 2 _ rfl (by kernel_rfl);have e42:gT bb 42 = .slice A5 (nd n1).length c5:=dp 3 _ rfl (by kernel_rfl);go_simp;refine (Zcu A6 A5 c6 c5 (nd (n2)) (nd (n1)) u (D69.out.below su) (D59.out.below su) (Jl (by omega)) (by omega) ((n2) - (n1)) (zH (by rw [Ju,Ju];omega))).mono ?_;rintro e w' ⟨A,c,rfl,h1,h2,h3,h4⟩;go_simp;exact hK _ _ (su.trans (h4.mono su.size)) h4 ⟨A,c,rfl,zH (Jz h1 h2 h3)⟩
     ·intro bb u su dp kp K hK;have e7:gT bb 7 = .slice A7 (nd m).length c7:=kp 7 (by kernel_rfl);go_simp;exact hK _ _ su bR rfl
     ·intro bb u su dp kp K hK;have e40:gT bb 40 = .bool sq:=dp 1 _ rfl (by kernel_rfl);obtain ⟨A43,c43,e43,D43⟩:∃ A c,gT bb 43 = .slice A (nd ((n2) - (n1))).length c /\ Hid (Dg u A c (nd ((n2) - (n1)))):=dp 4 _ rfl (by kernel_rfl);have e44:gT bb 44 = .slice A7 (nd m).length c7:=dp 5 _ rfl (by kernel_rfl);go_simp;refine (XP (sq) A43 A7 c43 c7 ((n2) - (n1)) (m) u D43.out (D79.out.below su) LD.out (by omega) d0).mono ?_;rintro e w' ⟨r,rfl,hr,h4⟩;go_simp;exact hK _ _ (su.trans (h4.mono su.size)) h4 ⟨r,rfl,zH hr⟩
    ·intro bb u hN hdf su hG sm;obtain ⟨r,e45,hr⟩:∃ r:Fr,gT bb 45 = r.val /\ Hid (Nm u r (fq (sq) ((n2) - (n1)) (m))):=hG 6 _ rfl;have e4:gT bb 4 = .pointer (some ⟨w.heap.size + 1 + 1,0,none⟩):=sm 4 (by kernel_rfl);have BX2:=zH (X9.out.below su);obtain ⟨c0,c1,c2,f0,f1,f2⟩:=BX2.out.facts;have HB2:=zH (B9.out.trans (su.mono B9.out.size));clear su hG sm;rw [JL bb 53 hN];simp only [show List.range 53 = [0,1,2,3,4,5,6,7,8,9,10,11,12,13,14,15,16,17,18,19,20,21,22,23,24,25,26,27,28,29,30,31,32,33,34,35,36,37,38,39,40,41,42,43,44,45,46,47,48,49,50,51,52] from rfl,WaG,Wa3,e4,e45,hdf];clear e4 e45 hN hdf;generalize gT bb 0 = z0,gT bb 1 = z1,gT bb 2 = z2,gT bb 3 = z3,gT bb 5 = z5,gT bb 6 = z6,gT bb 7 = z7,gT bb 8 = z8,gT bb 9 = z9,gT bb 10 = z10,gT bb 11 = z11,gT bb 12 = z12,gT bb 13 = z13,gT bb 14 = z14,gT bb 15 = z15,gT bb 16 = z16,gT bb 17 = z17,gT bb 18 = z18,gT bb 19 = z19,gT bb 20 = z20,gT bb 21 = z21,gT bb 22 = z22,gT bb 23 = z23,gT bb 24 = z24,gT bb 25 = z25,gT bb 26 = z26,gT bb 27 = z27,gT bb 28 = z28,gT bb 29 = z29,gT bb 30 = z30,gT bb 31 = z31,gT bb 32 = z32,gT bb 33 = z33,gT bb 34 = z34,gT bb 35 = z35,gT bb 36 = z36,gT bb 37 = z37,gT bb 38 = z38,gT bb 39 = z39,gT bb 40 = z40,gT bb 41 = z41,gT bb 42 = z42,gT bb 43 = z43,gT bb 44 = z44,gT bb 46 = z46,gT bb 47 = z47,gT bb 48 = z48,gT bb 49 = z49,gT bb 50 = z50,gT bb 51 = z51,gT bb 52 = z52;obtain ⟨rn,rA,rc,rN,rB,rd,rD⟩:=r;refine PopQ.last rfl rfl (fun K hK=>?_);go_simp;refine hK _ _ ?_;clear hK K;go_wp2_with fail;obtain ⟨g0,g1,g2⟩:=Zy (.bool rn) (.slice rA rN.length rc) (.slice rB rD.length rd) c0 c1 c2;refine WB (v:=.agg #[.bool rn,.slice rA rN.length rc,.slice rB rD.length rd]) (by simp [results,Tryz.results65,go_sem,g0,g1,g2]) rfl ?_;exact ⟨⟨rn,rA,rc,rN,rB,rd,rD⟩,rfl,(by rw [HE.out];exact YL hr.out BX2.out _ _ _),Ji HB2.out (by omega) _ _ _⟩
   ·have HE:Hid (p + q = fq (qs p) (n1 - n2) m):=zH (by rw [HPQ.out,Ww hs,Ww (by omega)]);obtain ⟨r3,hr3,hr30⟩:∃ r3,Uv n1 n2 = r3 /\ ¬ r3 < 0:=by
     rcases WaS n2 n1 with h | h
     ·exact ⟨1,Yf h,by decide⟩
     ·exact ⟨0,Yv (by omega),by decide⟩
    have CC:=zH (YE A5 A6 c5 c6 n1 n2 V D5.out D6.out (by omega) r3 (zH hr3));have LD:Hid ((nd (n1 - n2)).length <= 400000):=zH (tR (Jl (Wd3 _ _)) (by omega));clear hr3;clear HPQ hs;generalize qs p = sp at *
    generalize qs q = sq at *
    go_wp2_with fail;refine CC.out.mono ?_;rintro e w' ⟨rfl,n9,rfl⟩;have X9:Hid (Bt 119 (V.drewN n9) (w.heap.size + 1 + 1)):=zH (HBXV.out.below (Jb _ _));have B9:Hid (Below w.heap.size w (V.drewN n9)):=zH (HB0V.out.trans (Jb _ _));have D59:Hid (Dg (V.drewN n9) A5 c5 (nd n1)):=zH (D5.out.below (Jb _ _));have D69:Hid (Dg (V.drewN n9) A6 c6 (nd n2)):=zH (D6.out.below (Jb _ _));have D79:Hid (Dg (V.drewN n9) A7 c7 (nd m)):=zH (D7.out.below (Jb _ _));have HC9:Hid (∀ u',Below (V.drewN n9).heap.size (V.drewN n9) u' -> (u'.cell? ⟨w.heap.size,0,none⟩ = some (.bool sp) /\ u'.cell? ⟨w.heap.size + 1,0,none⟩ = some (.bool sq))):=zH (fun u' hu'=>HCF.out u' ((Jb V n9).trans hu'));clear CC D5 D6 D7 HBXV HB0V HCF y0 y1;generalize V.drewN n9 = V9 at *
    go_wp2_with fail;refine Jj 7 53 rfl (by kernel_rfl) (by kernel_rfl) (by kernel_rfl) (by kernel_rfl) (fun u=>Below V9.heap.size V9 u) (fun u u'=>Below u.heap.size u u') (Gl [isV (.pointer (some ⟨w.heap.size,0,none⟩)),isV (.bool sp),isV (.slice A5 (nd n1).length c5),isV (.slice A6 (nd n2).length c6),isNd ((n1) - (n2)),isV (.slice A7 (nd m).length c7),isNm (fq (sp) ((n1) - (n2)) (m))]) (Gl.keep (by
      intro p hp;simp only [List.mem_cons,List.not_mem_nil,or_false] at hp;rcases hp with rfl | rfl | rfl | rfl | rfl | rfl | rfl
      ·exact Keeps.isV _
      ·exact Keeps.isV _
      ·exact Keeps.isV _
      ·exact Keeps.isV _
      ·exact Keeps.isNd _
      ·exact Keeps.isV _
      ·exact Keeps.isNm _)) ?_ ?_ ?_
    ·exact (Wp _ V9).drew
    ·simp only [List.pop_toArray,List.dropLast,Jt];refine ⟨?_,?_,?_,?_,?_,?_,?_,trivial⟩
     ·intro bb u su dp kp K hK;have e2:gT bb 2 = .pointer (some ⟨w.heap.size,0,none⟩):=kp 2 (by kernel_rfl);go_simp;exact hK _ _ su bR rfl
     ·intro bb u su dp kp K hK;have e46:gT bb 46 = .pointer (some ⟨w.heap.size,0,none⟩):=dp 0 _ rfl (by kernel_rfl);obtain ⟨cc0,cc1⟩:=HC9.out u su;go_simp;exact hK _ _ su bR rfl
     ·intro bb u su dp kp K hK;have e5:gT bb 5 = .slice A5 (nd n1).length c5:=kp 5 (by kernel_rfl);go_simp;exact hK _ _ su bR rfl
     ·intro bb u su dp kp K hK;have e6:gT bb 6 = .slice A6 (nd n2).length c6:=kp 6 (by kernel_rfl);go_simp;exact hK _ _ su bR rfl
     ·intro bb u su dp kp K hK;have e48:gT bb 48 = .slice A5 (nd n1).length c5:=dp 2 _ rfl (by kernel_rfl);have e49:gT bb 49 = .slice A6 (nd n2).length c6:=dp 3 _ rfl (by kernel_rfl);go_simp;refine (Zcu A5 A6 c5 c6 (nd (n1)) (nd (n2)) u (D59.out.below su) (D69.out.below su) (Jl (by omega)) (by omega) ((n1) - (n2)) (zH (by rw [Ju,Ju];omega))).mono ?_;rintro e w' ⟨A,c,rfl,h1,h2,h3,h4⟩;go_simp;exact hK _ _ (su.trans (h4.mono su.size)) h4 ⟨A,c,rfl,zH (Jz h1 h2 h3)⟩
     ·intro bb u su dp kp K hK;have e7:gT bb 7 = .slice A7 (nd m).length c7:=kp 7 (by kernel_rfl);go_simp;exact hK _ _ su bR rfl
     ·intro bb u su dp kp K hK;have e47:gT bb 47 = .bool sp:=dp 1 _ rfl (by kernel_rfl);obtain ⟨A50,c50,e50,D50⟩:∃ A c,gT bb 50 = .slice A (nd ((n1) - (n2))).length c /\ Hid (Dg u A c (nd ((n1) - (n2)))):=dp 4 _ rfl (by kernel_rfl);have e51:gT bb 51 = .slice A7 (nd m).length c7:=dp 5 _ rfl (by kernel_rfl);go_simp;refine (XP (sp) A50 A7 c50 c7 ((n1) - (n2)) (m) u D50.out (D79.out.below su) LD.out (by omega) d0).mono ?_;rintro e w' ⟨r,rfl,hr,h4⟩;go_simp;exact hK _ _ (su.trans (h4.mono su.size)) h4 ⟨r,rfl,zH hr⟩
    ·intro bb u hN hdf su hG sm;obtain ⟨r,e52,hr⟩:∃ r:Fr,gT bb 52 = r.val /\ Hid (Nm u r (fq (sp) ((n1) - (n2)) (m))):=hG 6 _ rfl;have e4:gT bb 4 = .pointer (some ⟨w.heap.size + 1 + 1,0,none⟩):=sm 4 (by kernel_rfl);have BX2:=zH (X9.out.below su);obtain ⟨c0,c1,c2,f0,f1,f2⟩:=BX2.out.facts;have HB2:=zH (B9.out.trans (su.mono B9.out.size));clear su hG sm;rw [JL bb 53 hN];simp only [show List.range 53 = [0,1,2,3,4,5,6,7,8,9,10,11,12,13,14,15,16,17,18,19,20,21,22,23,24,25,26,27,28,29,30,31,32,33,34,35,36,37,38,39,40,41,42,43,44,45,46,47,48,49,50,51,52] from rfl,WaG,Wa3,e4,e52,hdf];clear e4 e52 hN hdf;generalize gT bb 0 = z0,gT bb 1 = z1,gT bb 2 = z2,gT bb 3 = z3,gT bb 5 = z5,gT bb 6 = z6,gT bb 7 = z7,gT bb 8 = z8,gT bb 9 = z9,gT bb 10 = z10,gT bb 11 = z11,gT bb 12 = z12,gT bb 13 = z13,gT bb 14 = z14,gT bb 15 = z15,gT bb 16 = z16,gT bb 17 = z17,gT bb 18 = z18,gT bb 19 = z19,gT bb 20 = z20,gT bb 21 = z21,gT bb 22 = z22,gT bb 23 = z23,gT bb 24 = z24,gT bb 25 = z25,gT bb 26 = z26,gT bb 27 = z27,gT bb 28 = z28,gT bb 29 = z29,gT bb 30 = z30,gT bb 31 = z31,gT bb 32 = z32,gT bb 33 = z33,gT bb 34 = z34,gT bb 35 = z35,gT bb 36 = z36,gT bb 37 = z37,gT bb 38 = z38,gT bb 39 = z39,gT bb 40 = z40,gT bb 41 = z41,gT bb 42 = z42,gT bb 43 = z43,gT bb 44 = z44,gT bb 45 = z45,gT bb 46 = z46,gT bb 47 = z47,gT bb 48 = z48,gT bb 49 = z49,gT bb 50 = z50,gT bb 51 = z51;obtain ⟨rn,rA,rc,rN,rB,rd,rD⟩:=r;refine PopQ.last rfl rfl (fun K hK=>?_);go_simp;refine hK _ _ ?_;clear hK K;go_wp2_with fail;obtain ⟨g0,g1,g2⟩:=Zy (.bool rn) (.slice rA rN.length rc) (.slice rB rD.length rd) c0 c1 c2;refine WB (v:=.agg #[.bool rn,.slice rA rN.length rc,.slice rB rD.length rd]) (by simp [results,Tryz.results65,go_sem,g0,g1,g2]) rfl ?_;exact ⟨⟨rn,rA,rc,rN,rB,rd,rD⟩,rfl,(by rw [HE.out];exact YL hr.out BX2.out _ _ _),Ji HB2.out (by omega) _ _ _⟩
end Go.Proofs.YtcjicjfbippmnaaGreat
namespace Go.Proofs.YtcjicjfbippmnaaGreat
open Go.RowKit Ear
set_option linter.unusedVariables false

structure Fv (w:World) (x:Fr) (q:Rat):Prop where
 n:Dg w x.A x.c x.N
 d:Dg w x.B x.d x.D
 val:fq x.neg (vl x.N).toNat (vl x.D).toNat = q
theorem Fv.below {w w':World} {x:Fr} {q:Rat} (h:Fv w x q) (hb:Below w.heap.size w w'):Fv w' x q:=⟨h.n.below hb,h.d.below hb,h.val⟩
theorem ZhR (d:Nat):(vl (den d)).toNat = if d = 1 then 0 else d:=by
 unfold den;split
 ·rfl
 ·rw [Ju];simp
theorem ZiR (a:Bool) (n d:Nat):fq a n (vl (den d)).toNat = fq a n d:=by
 rw [ZhR];split
 ·subst_vars;rfl
 ·rfl
theorem Fq.fv {w:World} {x:Fr} {q:Rat} (h:Fq w x q):Fv w x q:=
 ⟨h.ok.n,h.ok.d,by rw [h.neg,h.num,h.dn,ZiR,Ju,WcN,XX]⟩
theorem ZhS (d:Nat):(den d).length <= (nd d).length:=by
 unfold den;split
 ·simp
 ·exact WK _
structure Few (x:Fr) (k:Nat):Prop where
 n:x.N.length <= k
 d:x.D.length <= k
theorem Fq.few {w:World} {x:Fr} {q:Rat} {k:Nat} (h:Fq w x q) (hs:Sz q k):Few x k:=
 ⟨by rw [h.num];exact hs.num,by rw [h.dn];exact tR (ZhS _) hs.den⟩
theorem Fv.sz {w:World} {x:Fr} {q:Rat} {k:Nat} (h:Fv w x q) (hf:Few x k) (hk : 1 <= k):Sz q k:=by
 rw [<- h.val];have hn:(nd (vl x.N).toNat).length <= k:=tR (JD h.n.dig (by have:=Jx h.n.dig;omega)) hf.n;by_cases h0:(vl x.D).toNat = 0
 ·have e:fq x.neg (vl x.N).toNat (vl x.D).toNat = fq x.neg (vl x.N).toNat 1:=by rw [h0];rfl
  rw [e];exact Sz.fq (by decide) hn (by rw [YN];exact hk)
 ·exact Sz.fq h0 hn (tR (JD h.d.dig (by have:=Jx h.d.dig;omega)) hf.d)
theorem XZ (x:Fr) (q:Rat) (w:World) (hx:Fv w x q) (hf:Few x 390000):Calls Tryz.prog 63 #[x.val] w (Qn q w):=by
 obtain ⟨xn,xA,xc,xN,xB,xd,xD⟩:=x;obtain ⟨HxN,HxD,hval⟩:=hx;obtain ⟨f1,f2⟩:=hf;simp only at HxN HxD hval f1 f2;simp only [Fr.val];have hn0:=Jx HxN.dig;have hd0:=Jx HxD.dig;obtain ⟨n,hn⟩:∃ n:Nat,(vl xN).toNat = n:=⟨_,rfl⟩;obtain ⟨v,hv⟩:∃ v:Nat,(vl xD).toNat = v:=⟨_,rfl⟩;have HNV:Hid (vl xN = (n:Int)):=zH (by omega);have HDV:Hid (vl xD = (v:Int)):=zH (by omega);rw [hn,hv] at hval;have HQ:=zH hval.symm;have LN:Hid ((nd n).length <= 400000):=zH (tR (JD HxN.dig HNV.out) (by omega));have LD:Hid ((nd v).length <= 400000):=zH (tR (JD HxD.dig HDV.out) (by omega));clear hn hv hval hn0 hd0;obtain ⟨W,hW⟩:∃ W:World,W = (w.alloc (.cells #[.bool xn,.slice xA xN.length xc,.slice xB xD.length xd] 28)).alloc (.cells #[.bool false,.slice none 0 0,.slice none 0 0] 119):=⟨_,rfl⟩;have hs:W.heap.size = w.heap.size + 2:=by rw [hW];simp
 have HB0:Hid (Below w.heap.size w W):=zH (by rw [hW];exact al2 w _ _);have HBX:Hid (Bt 119 W (w.heap.size + 1)):=zH (by rw [hW];have:=Bt.new 119 (w.alloc (.cells #[.bool xn,.slice xA xN.length xc,.slice xB xD.length xd] 28));simpa using this);have HC0:Hid (∀ u,Below W.heap.size W u -> u.cell? ⟨w.heap.size,0,none⟩ = some (.bool xn) /\ u.cell? ⟨w.heap.size,1,none⟩ = some (.slice xA xN.length xc) /\ u.cell? ⟨w.heap.size,2,none⟩ = some (.slice xB xD.length xd)):=zH (fun u hu=>by
  rw [hu.cell (p:=⟨w.heap.size,0,none⟩) (by simp;omega),hu.cell (p:=⟨w.heap.size,1,none⟩) (by simp;omega),hu.cell (p:=⟨w.heap.size,2,none⟩) (by simp;omega),hW];simp [go_sem])
 have HxN1:=zH (HxN.below HB0.out);have HxD1:=zH (HxD.below HB0.out);have T1:=zH (Zm xB xd xD W HxD1.out (by omega) v HDV);clear HxN HxD;go_enter Tryz.func63,Tryz.ntmps63;go_wp2_with fail;rw [<- hW];clear hW;refine T1.out.mono ?_;rintro e w2 ⟨A3,c3,rfl,s1,s2,s3,s4⟩;have D3:=zH (Jz s1 s2 s3);have SV:=zH s4;clear s1 s2 s3 s4 T1;by_cases hv0:v = 0
 ·subst hv0;have hl:(nd 0).length = 0:=by rw [JG];rfl
  rw [hl];clear hl;have HE:Hid (q = fq xn n 1):=zH (by rw [HQ.out];rfl);have S1:=zH (Ym 1 w2 (by decide));clear D3 HQ;go_wp2_with fail;refine S1.out.mono ?_;rintro e w3 ⟨A3,c3,rfl,s1,s2,s3,s4⟩;have D3:=zH (Jz s1 s2 s3);have SV3:=zH (SV.out.trans (s4.mono SV.out.size));clear s1 s2 s3 s4 S1 SV;have L1:Hid ((nd 1).length <= 400000):=zH (by rw [YN];decide);have HxN3:=zH (HxN1.out.below SV3.out);have HBXV:=zH (HBX.out.below SV3.out);have HB0V:=zH (HB0.out.trans (SV3.out.mono HB0.out.size));have HC:=zH (fun u' (hu':Below w3.heap.size w3 u')=>(fun h=>(⟨h.1,h.2.1⟩ : _ /\ _)) (HC0.out u' (SV3.out.trans (hu'.mono SV3.out.size))));clear HBX HB0 HC0 HxN1 HxD1 SV3;obtain ⟨V,rfl⟩:∃ X,X = w3:=⟨_,rfl⟩;have HBX:=HBXV;have HB0:=HB0V;go_wp2_with fail;refine Jj 7 18 rfl (by kernel_rfl) (by kernel_rfl) (by kernel_rfl) (by kernel_rfl) (fun u=>Below V.heap.size V u) (fun u u'=>Below u.heap.size u u') (Gl [isV (.pointer (some ⟨w.heap.size,0,none⟩)),isV (.bool xn),isV (.pointer (some ⟨w.heap.size,1,none⟩)),isV (.slice xA xN.length xc),isNd (n),isV (.slice A3 (nd 1).length c3),isNm (fq (xn) (n) (1))]) (Gl.keep (by
    intro p hp;simp only [List.mem_cons,List.not_mem_nil,or_false] at hp;rcases hp with rfl | rfl | rfl | rfl | rfl | rfl | rfl
    ·exact Keeps.isV _
    ·exact Keeps.isV _
    ·exact Keeps.isV _
    ·exact Keeps.isV _
    ·exact Keeps.isNd _
    ·exact Keeps.isV _
    ·exact Keeps.isNm _)) ?_ ?_ ?_
  ·exact (Wp _ V).drew
  ·simp only [List.pop_toArray,List.dropLast,Jt];refine ⟨?_,?_,?_,?_,?_,?_,?_,trivial⟩
   ·intro bb u su dp kp K hK;have e1:gT bb 1 = .pointer (some ⟨w.heap.size,0,none⟩):=kp 1 (by kernel_rfl);go_simp;exact hK _ _ su bR rfl
   ·intro bb u su dp kp K hK;have e11:gT bb 11 = .pointer (some ⟨w.heap.size,0,none⟩):=dp 0 _ rfl (by kernel_rfl);obtain ⟨cc0,cc1⟩:=HC.out u su;go_simp;exact hK _ _ su bR rfl
   ·intro bb u su dp kp K hK;have e1:gT bb 1 = .pointer (some ⟨w.heap.size,0,none⟩):=kp 1 (by kernel_rfl);go_simp;exact hK _ _ su bR rfl
   ·intro bb u su dp kp K hK;have e13:gT bb 13 = .pointer (some ⟨w.heap.size,1,none⟩):=dp 2 _ rfl (by kernel_rfl);obtain ⟨cc0,cc1⟩:=HC.out u su;go_simp;exact hK _ _ su bR rfl
   ·intro bb u su dp kp K hK;have e14:gT bb 14 = .slice xA xN.length xc:=dp 3 _ rfl (by kernel_rfl);go_simp;refine (Zm xA xc xN u (HxN3.out.below su) (by omega) (n) (zH HNV.out)).mono ?_;rintro e w' ⟨A,c,rfl,h1,h2,h3,h4⟩;go_simp;exact hK _ _ (su.trans (h4.mono su.size)) h4 ⟨A,c,rfl,zH (Jz h1 h2 h3)⟩
   ·intro bb u su dp kp K hK;have e3:gT bb 3 = .slice A3 (nd 1).length c3:=kp 3 (by kernel_rfl);go_simp;exact hK _ _ su bR rfl
   ·intro bb u su dp kp K hK;have e12:gT bb 12 = .bool xn:=dp 1 _ rfl (by kernel_rfl);obtain ⟨A15,c15,e15,D15⟩:∃ A c,gT bb 15 = .slice A (nd (n)).length c /\ Hid (Dg u A c (nd (n))):=dp 4 _ rfl (by kernel_rfl);have e16:gT bb 16 = .slice A3 (nd 1).length c3:=dp 5 _ rfl (by kernel_rfl);go_simp;refine (XP (xn) A15 A3 c15 c3 (n) (1) u D15.out (D3.out.below su) LN.out L1.out (by decide)).mono ?_;rintro e w' ⟨r,rfl,hr,h4⟩;go_simp;exact hK _ _ (su.trans (h4.mono su.size)) h4 ⟨r,rfl,zH hr⟩
  ·intro bb u hN hdf su hG sm;obtain ⟨r,e17,hr⟩:∃ r:Fr,gT bb 17 = r.val /\ Hid (Nm u r (fq (xn) (n) (1))):=hG 6 _ rfl;have e2:gT bb 2 = .pointer (some ⟨w.heap.size + 1,0,none⟩):=sm 2 (by kernel_rfl);have BX2:=zH (HBX.out.below su);obtain ⟨c0,c1,c2,f0,f1,f2⟩:=BX2.out.facts;have HB2:=zH (HB0.out.trans (su.mono HB0.out.size));clear su hG sm;rw [JL bb 18 hN];simp only [show List.range 18 = [0,1,2,3,4,5,6,7,8,9,10,11,12,13,14,15,16,17] from rfl,WaG,Wa3,e2,e17,hdf];clear e2 e17 hN hdf;generalize gT bb 0 = z0,gT bb 1 = z1,gT bb 3 = z3,gT bb 4 = z4,gT bb 5 = z5,gT bb 6 = z6,gT bb 7 = z7,gT bb 8 = z8,gT bb 9 = z9,gT bb 10 = z10,gT bb 11 = z11,gT bb 12 = z12,gT bb 13 = z13,gT bb 14 = z14,gT bb 15 = z15,gT bb 16 = z16;obtain ⟨rn,rA,rc,rN,rB,rd,rD⟩:=r;refine PopQ.last rfl rfl (fun K hK=>?_);go_simp;refine hK _ _ ?_;clear hK K;go_wp2_with fail;obtain ⟨g0,g1,g2⟩:=Zy (.bool rn) (.slice rA rN.length rc) (.slice rB rD.length rd) c0 c1 c2;refine WB (v:=.agg #[.bool rn,.slice rA rN.length rc,.slice rB rD.length rd]) (by simp [results,Tryz.results63,go_sem,g0,g1,g2]) rfl ?_;exact ⟨⟨rn,rA,rc,rN,rB,rd,rD⟩,rfl,(by rw [HE.out];exact YL hr.out BX2.out _ _ _),Ji HB2.out (by omega) _ _ _⟩
 ·have hl0:(nd v).length ≠ 0:=fun e=>hv0 (Jw.1 e);have hq:(((nd v).length:Int) == 0) = false:=Wz.2 (by omega);have HE:=HQ;have HxN3:=zH (HxN1.out.below SV.out);have HBXV:=zH (HBX.out.below SV.out);have HB0V:=zH (HB0.out.trans (SV.out.mono HB0.out.size));have HC:=zH (fun u' (hu':Below w2.heap.size w2 u')=>(fun h=>(⟨h.1,h.2.1⟩ : _ /\ _)) (HC0.out u' (SV.out.trans (hu'.mono SV.out.size))));clear HBX HB0 HC0 HxN1 HxD1 SV hl0;obtain ⟨V,rfl⟩:∃ X,X = w2:=⟨_,rfl⟩;have HBX:=HBXV;have HB0:=HB0V;go_wp2_with fail;refine Jj 7 18 rfl (by kernel_rfl) (by kernel_rfl) (by kernel_rfl) (by kernel_rfl) (fun u=>Below V.heap.size V u) (fun u u'=>Below u.heap.size u u') (Gl [isV (.pointer (some ⟨w.heap.size,0,none⟩)),isV (.bool xn),isV (.pointer (some ⟨w.heap.size,1,none⟩)),isV (.slice xA xN.length xc),isNd (n),isV (.slice A3 (nd v).length c3),isNm (fq (xn) (n) (v))]) (Gl.keep (by
    intro p hp;simp only [List.mem_cons,List.not_mem_nil,or_false] at hp;rcases hp with rfl | rfl | rfl | rfl | rfl | rfl | rfl
    ·exact Keeps.isV _
    ·exact Keeps.isV _
    ·exact Keeps.isV _
    ·exact Keeps.isV _
    ·exact Keeps.isNd _
    ·exact Keeps.isV _
    ·exact Keeps.isNm _)) ?_ ?_ ?_
  ·exact (Wp _ V).drew
  ·simp only [List.pop_toArray,List.dropLast,Jt];refine ⟨?_,?_,?_,?_,?_,?_,?_,trivial⟩
   ·intro bb u su dp kp K hK;have e1:gT bb 1 = .pointer (some ⟨w.heap.size,0,none⟩):=kp 1 (by kernel_rfl);go_simp;exact hK _ _ su bR rfl
   ·intro bb u su dp kp K hK;have e11:gT bb 11 = .pointer (some ⟨w.heap.size,0,none⟩):=dp 0 _ rfl (by kernel_rfl);obtain ⟨cc0,cc1⟩:=HC.out u su;go_simp;exact hK _ _ su bR rfl
   ·intro bb u su dp kp K hK;have e1:gT bb 1 = .pointer (some ⟨w.heap.size,0,none⟩):=kp 1 (by kernel_rfl);go_simp;exact hK _ _ su bR rfl
   ·intro bb u su dp kp K hK;have e13:gT bb 13 = .pointer (some ⟨w.heap.size,1,none⟩):=dp 2 _ rfl (by kernel_rfl);obtain ⟨cc0,cc1⟩:=HC.out u su;go_simp;exact hK _ _ su bR rfl
   ·intro bb u su dp kp K hK;have e14:gT bb 14 = .slice xA xN.length xc:=dp 3 _ rfl (by kernel_rfl);go_simp;refine (Zm xA xc xN u (HxN3.out.below su) (by omega) (n) (zH HNV.out)).mono ?_;rintro e w' ⟨A,c,rfl,h1,h2,h3,h4⟩;go_simp;exact hK _ _ (su.trans (h4.mono su.size)) h4 ⟨A,c,rfl,zH (Jz h1 h2 h3)⟩
   ·intro bb u su dp kp K hK;have e3:gT bb 3 = .slice A3 (nd v).length c3:=kp 3 (by kernel_rfl);go_simp;exact hK _ _ su bR rfl
   ·intro bb u su dp kp K hK;have e12:gT bb 12 = .bool xn:=dp 1 _ rfl (by kernel_rfl);obtain ⟨A15,c15,e15,D15⟩:∃ A c,gT bb 15 = .slice A (nd (n)).length c /\ Hid (Dg u A c (nd (n))):=dp 4 _ rfl (by kernel_rfl);have e16:gT bb 16 = .slice A3 (nd v).length c3:=dp 5 _ rfl (by kernel_rfl);go_simp;refine (XP (xn) A15 A3 c15 c3 (n) (v) u D15.out (D3.out.below su) LN.out LD.out hv0).mono ?_;rintro e w' ⟨r,rfl,hr,h4⟩;go_simp;exact hK _ _ (su.trans (h4.mono su.size)) h4 ⟨r,rfl,zH hr⟩
  ·intro bb u hN hdf su hG sm;obtain ⟨r,e17,hr⟩:∃ r:Fr,gT bb 17 = r.val /\ Hid (Nm u r (fq (xn) (n) (v))):=hG 6 _ rfl;have e2:gT bb 2 = .pointer (some ⟨w.heap.size + 1,0,none⟩):=sm 2 (by kernel_rfl);have BX2:=zH (HBX.out.below su);obtain ⟨c0,c1,c2,f0,f1,f2⟩:=BX2.out.facts;have HB2:=zH (HB0.out.trans (su.mono HB0.out.size));clear su hG sm;rw [JL bb 18 hN];simp only [show List.range 18 = [0,1,2,3,4,5,6,7,8,9,10,11,12,13,14,15,16,17] from rfl,WaG,Wa3,e2,e17,hdf];clear e2 e17 hN hdf;generalize gT bb 0 = z0,gT bb 1 = z1,gT bb 3 = z3,gT bb 4 = z4,gT bb 5 = z5,gT bb 6 = z6,gT bb 7 = z7,gT bb 8 = z8,gT bb 9 = z9,gT bb 10 = z10,gT bb 11 = z11,gT bb 12 = z12,gT bb 13 = z13,gT bb 14 = z14,gT bb 15 = z15,gT bb 16 = z16;obtain ⟨rn,rA,rc,rN,rB,rd,rD⟩:=r;refine PopQ.last rfl rfl (fun K hK=>?_);go_simp;refine hK _ _ ?_;clear hK K;go_wp2_with fail;obtain ⟨g0,g1,g2⟩:=Zy (.bool rn) (.slice rA rN.length rc) (.slice rB rD.length rd) c0 c1 c2;refine WB (v:=.agg #[.bool rn,.slice rA rN.length rc,.slice rB rD.length rd]) (by simp [results,Tryz.results63,go_sem,g0,g1,g2]) rfl ?_;exact ⟨⟨rn,rA,rc,rN,rB,rd,rD⟩,rfl,(by rw [HE.out];exact YL hr.out BX2.out _ _ _),Ji HB2.out (by omega) _ _ _⟩
end Go.Proofs.YtcjicjfbippmnaaGreat
