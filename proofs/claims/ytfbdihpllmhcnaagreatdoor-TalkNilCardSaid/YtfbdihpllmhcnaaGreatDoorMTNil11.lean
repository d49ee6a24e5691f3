/- TalkNil -/
import Derived.Test.YtfbdihpllmhcnaaGreatDoorMTNil10
set_option maxRecDepth 100000
set_option maxHeartbeats 32000000
namespace Go.Proofs.YtfbdihpllmhcnaaGreatDoor
open Go.RowKit Ear
set_option linter.unusedVariables false

theorem ZbB (x y:Fr) (p q:Rat) (w:World) (hx:Nm w x p) (hy:Nm w y q) (sp:Sz p 190000) (sq:Sz q 190000):Calls Tryz.prog 76 #[x.val,y.val] w (Uw (p + q) w):=by
 obtain ⟨xn,xA,xc,xN,xB,xd,xD⟩:=x
 obtain ⟨h1,h2,h3,HxN,HxD⟩:=hx
 simp only at h1 h2 h3 HxN HxD
 subst h1 h2 h3
 obtain ⟨yn,yA,yc,yN,yB,yd,yD⟩:=y
 obtain ⟨h1,h2,h3,HyN,HyD⟩:=hy
 simp only at h1 h2 h3 HyN HyD
 subst h1 h2 h3
 simp only [Fr.val]
 have s1:=sp.num
 have s2:=sp.den
 have s3:=sq.num
 have s4:=sq.den
 have l1:(nd (qn p * q.den)).length <= 380000:=by have:=JM (qn p) q.den;omega
 have l2:(nd (qn q * p.den)).length <= 380000:=by have:=JM (qn q) p.den;omega
 have l3:(nd (p.den * q.den)).length <= 380000:=by have:=JM p.den q.den;omega
 have d0:p.den * q.den ≠ 0:=Nat.mul_ne_zero p.den_nz q.den_nz
 have HPQ:=zH (Zd3 p q)
 go_enter Tryz.func76,Tryz.ntmps76
 go_wp2_with fail
 obtain ⟨W,hW⟩:∃ W:World,W = ((w.alloc (.cells #[.bool (qs p),.slice xA (nd (qn p)).length xc,.slice xB (nd p.den).length xd] 158)).alloc (.cells #[.bool (qs q),.slice yA (nd (qn q)).length yc,.slice yB (nd q.den).length yd] 158)).alloc (.cells #[.bool false,.slice none 0 0,.slice none 0 0] 158):=⟨_,rfl⟩
 have hs:W.heap.size = w.heap.size + 3:=by rw [hW];simp
 have HB0:Hid (Below w.heap.size w W):=zH (by rw [hW];exact (al2 w _ _).alloc (by simp;omega) _)
 have HBX:Hid (Bt 158 W (w.heap.size + 1 + 1)):=zH (by rw [hW];have:=Bt.new 158 ((w.alloc (.cells #[.bool (qs p),.slice xA (nd (qn p)).length xc,.slice xB (nd p.den).length xd] 158)).alloc (.cells #[.bool (qs q),.slice yA (nd (qn q)).length yc,.slice yB (nd q.den).length yd] 158));simpa using this)
 have HC:Hid (∀ u,Below W.heap.size W u -> u.cell? ⟨w.heap.size,0,none⟩ = some (.bool (qs p)) /\ u.cell? ⟨w.heap.size,1,none⟩ = some (.slice xA (nd (qn p)).length xc) /\ u.cell? ⟨w.heap.size,2,none⟩ = some (.slice xB (nd p.den).length xd) /\ u.cell? ⟨w.heap.size + 1,0,none⟩ = some (.bool (qs q)) /\ u.cell? ⟨w.heap.size + 1,1,none⟩ = some (.slice yA (nd (qn q)).length yc) /\ u.cell? ⟨w.heap.size + 1,2,none⟩ = some (.slice yB (nd q.den).length yd)):=zH (fun u hu=>by
  rw [hu.cell (p:=⟨w.heap.size,0,none⟩) (by simp;omega),hu.cell (p:=⟨w.heap.size,1,none⟩) (by simp;omega),hu.cell (p:=⟨w.heap.size,2,none⟩) (by simp;omega),hu.cell (p:=⟨w.heap.size + 1,0,none⟩) (by simp;omega),hu.cell (p:=⟨w.heap.size + 1,1,none⟩) (by simp;omega),hu.cell (p:=⟨w.heap.size + 1,2,none⟩) (by simp;omega),hW]
  simp [go_sem])
 have HxN1:=zH (HxN.below HB0.out)
 have HxD1:=zH (HxD.below HB0.out)
 have HyN1:=zH (HyN.below HB0.out)
 have HyD1:=zH (HyD.below HB0.out)
 clear HxN HxD HyN HyD
 rw [<- hW]
 clear hW
 refine XX 53 rfl (by kernel_rfl) (by kernel_rfl) (by kernel_rfl) (fun u=>Below W.heap.size W u) (fun u u'=>Below u.heap.size u u') (Gl [isV (.pointer (some ⟨w.heap.size,1,none⟩)),isV (.slice xA (nd (qn p)).length xc),isV (.pointer (some ⟨w.heap.size + 1,2,none⟩)),isV (.slice yB (nd q.den).length yd),isNd ((qn p) * (q.den)),isV (.pointer (some ⟨w.heap.size + 1,1,none⟩)),isV (.slice yA (nd (qn q)).length yc),isV (.pointer (some ⟨w.heap.size,2,none⟩)),isV (.slice xB (nd p.den).length xd),isNd ((qn q) * (p.den)),isV (.pointer (some ⟨w.heap.size,2,none⟩)),isV (.slice xB (nd p.den).length xd),isV (.pointer (some ⟨w.heap.size + 1,2,none⟩)),isV (.slice yB (nd q.den).length yd),isNd ((p.den) * (q.den)),isNd ((qn p) * (q.den)),isNd ((qn q) * (p.den)),isNd ((p.den) * (q.den))]) (Gl.keep (by
   intro p hp
   simp only [List.mem_cons,List.not_mem_nil,or_false] at hp
   rcases hp with rfl | rfl | rfl | rfl | rfl | rfl | rfl | rfl | rfl | rfl | rfl | rfl | rfl | rfl | rfl | rfl | rfl | rfl
   ·exact Keeps.isV _
   ·exact Keeps.isV _
   ·exact Keeps.isV _
   ·exact Keeps.isV _
   ·exact Keeps.isNd _
   ·exact Keeps.isV _
   ·exact Keeps.isV _
   ·exact Keeps.isV _
   ·exact Keeps.isV _
   ·exact Keeps.isNd _
   ·exact Keeps.isV _
   ·exact Keeps.isV _
   ·exact Keeps.isV _
   ·exact Keeps.isV _
   ·exact Keeps.isNd _
   ·exact Keeps.isNd _
   ·exact Keeps.isNd _
   ·exact Keeps.isNd _)) ?_ ?_ ?_
 ·exact (Below.refl _ W).drew
 ·simp only [Jp]
  refine ⟨?_,?_,?_,?_,?_,?_,?_,?_,?_,?_,?_,?_,?_,?_,?_,?_,?_,?_,trivial⟩
  ·intro bb u su dp kp K hK
   have e2:gT bb 2 = .pointer (some ⟨w.heap.size,0,none⟩):=kp 2 (by kernel_rfl)
   go_simp
   exact hK _ _ su bR rfl
  ·intro bb u su dp kp K hK
   have e8:gT bb 8 = .pointer (some ⟨w.heap.size,1,none⟩):=dp 0 _ rfl (by kernel_rfl)
   obtain ⟨cc0,cc1,cc2,cc3,cc4,cc5⟩:=HC.out u su
   go_simp
   exact hK _ _ su bR rfl
  ·intro bb u su dp kp K hK
   have e3:gT bb 3 = .pointer (some ⟨w.heap.size + 1,0,none⟩):=kp 3 (by kernel_rfl)
   go_simp
   exact hK _ _ su bR rfl
  ·intro bb u su dp kp K hK
   have e10:gT bb 10 = .pointer (some ⟨w.heap.size + 1,2,none⟩):=dp 2 _ rfl (by kernel_rfl)
   obtain ⟨cc0,cc1,cc2,cc3,cc4,cc5⟩:=HC.out u su
   go_simp
   exact hK _ _ su bR rfl
  ·intro bb u su dp kp K hK
   have e9:gT bb 9 = .slice xA (nd (qn p)).length xc:=dp 1 _ rfl (by kernel_rfl)
   have e11:gT bb 11 = .slice yB (nd q.den).length yd:=dp 3 _ rfl (by kernel_rfl)
   go_simp
   refine (YZ xA yB xc yd (nd (qn p)) (nd (q.den)) u (HxN1.out.below su) (HyD1.out.below su) (by omega) (by omega) ((qn p) * (q.den)) (zH (by rw [Jw,Jw];simp))).mono ?_
   rintro e w' ⟨A,c,rfl,h1,h2,h3,h4⟩
   go_simp
   exact hK _ _ (su.trans (h4.mono su.size)) h4 ⟨A,c,rfl,zH (Jy h1 h2 h3)⟩
  ·intro bb u su dp kp K hK
   have e3:gT bb 3 = .pointer (some ⟨w.heap.size + 1,0,none⟩):=kp 3 (by kernel_rfl)
   go_simp
   exact hK _ _ su bR rfl
  ·intro bb u su dp kp K hK
   have e13:gT bb 13 = .pointer (some ⟨w.heap.size + 1,1,none⟩):=dp 5 _ rfl (by kernel_rfl)
   obtain ⟨cc0,cc1,cc2,cc3,cc4,cc5⟩:=HC.out u su
   go_simp
   exact hK _ _ su bR rfl
  ·intro bb u su dp kp K hK
   have e2:gT bb 2 = .pointer (some ⟨w.heap.size,0,none⟩):=kp 2 (by kernel_rfl)
   go_simp
   exact hK _ _ su bR rfl
  ·intro bb u su dp kp K hK
   have e15:gT bb 15 = .pointer (some ⟨w.heap.size,2,none⟩):=dp 7 _ rfl (by kernel_rfl)
   obtain ⟨cc0,cc1,cc2,cc3,cc4,cc5⟩:=HC.out u su
   go_simp
   exact hK _ _ su bR rfl
  ·intro bb u su dp kp K hK
   have e14:gT bb 14 = .slice yA (nd (qn q)).length yc:=dp 6 _ rfl (by kernel_rfl)
   have e16:gT bb 16 = .slice xB (nd p.den).length xd:=dp 8 _ rfl (by kernel_rfl)
   go_simp
   refine (YZ yA xB yc xd (nd (qn q)) (nd (p.den)) u (HyN1.out.below su) (HxD1.out.below su) (by omega) (by omega) ((qn q) * (p.den)) (zH (by rw [Jw,Jw];simp))).mono ?_
   rintro e w' ⟨A,c,rfl,h1,h2,h3,h4⟩
   go_simp
   exact hK _ _ (su.trans (h4.mono su.size)) h4 ⟨A,c,rfl,zH (Jy h1 h2 h3)⟩
  ·intro bb u su dp kp K hK
   have e2:gT bb 2 = .pointer (some ⟨w.heap.size,0,none⟩):=kp 2 (by kernel_rfl)
   go_simp
   exact hK _ _ su bR rfl
  ·intro bb u su dp kp K hK
   have e18:gT bb 18 = .pointer (some ⟨w.heap.size,2,none⟩):=dp 10 _ rfl (by kernel_rfl)
   obtain ⟨cc0,cc1,cc2,cc3,cc4,cc5⟩:=HC.out u su
   go_simp
   exact hK _ _ su bR rfl
  ·intro bb u su dp kp K hK
   have e3:gT bb 3 = .pointer (some ⟨w.heap.size + 1,0,none⟩):=kp 3 (by kernel_rfl)
   go_simp
   exact hK _ _ su bR rfl
  ·intro bb u su dp kp K hK
   have e20:gT bb 20 = .pointer (some ⟨w.heap.size + 1,2,none⟩):=dp 12 _ rfl (by kernel_rfl)
   obtain ⟨cc0,cc1,cc2,cc3,cc4,cc5⟩:=HC.out u su
   go_simp
   exact hK _ _ su bR rfl
  ·intro bb u su dp kp K hK
   have e19:gT bb 19 = .slice xB (nd p.den).length xd:=dp 11 _ rfl (by kernel_rfl)
   have e21:gT bb 21 = .slice yB (nd q.den).length yd:=dp 13 _ rfl (by kernel_rfl)
   go_simp
   refine (YZ xB yB xd yd (nd (p.den)) (nd (q.den)) u (HxD1.out.below su) (HyD1.out.below su) (by omega) (by omega) ((p.den) * (q.den)) (zH (by rw [Jw,Jw];simp))).mono ?_
   rintro e w' ⟨A,c,rfl,h1,h2,h3,h4⟩
   go_simp
   exact hK _ _ (su.trans (h4.mono su.size)) h4 ⟨A,c,rfl,zH (Jy h1 h2 h3)⟩
  ·intro bb u su dp kp K hK
   obtain ⟨A12,c12,e12,D12⟩:∃ A c,gT bb 12 = .slice A (nd ((qn p) * (q.den))).length c /\ Hid (Dg u A c (nd ((qn p) * (q.den)))):=dp 4 _ rfl (by kernel_rfl)
   go_simp
   exact hK _ _ su bR ⟨A12,c12,rfl,D12⟩
  ·intro bb u su dp kp K hK
   obtain ⟨A17,c17,e17,D17⟩:∃ A c,gT bb 17 = .slice A (nd ((qn q) * (p.den))).length c /\ Hid (Dg u A c (nd ((qn q) * (p.den)))):=dp 9 _ rfl (by kernel_rfl)
   go_simp
   exact hK _ _ su bR ⟨A17,c17,rfl,D17⟩
  ·intro bb u su dp kp K hK
   obtain ⟨A22,c22,e22,D22⟩:∃ A c,gT bb 22 = .slice A (nd ((p.den) * (q.den))).length c /\ Hid (Dg u A c (nd ((p.den) * (q.den)))):=dp 14 _ rfl (by kernel_rfl)
   go_simp
   exact hK _ _ su bR ⟨A22,c22,rfl,D22⟩
 ·intro bb u hN hdf su hG sm
  obtain ⟨A5,c5,e5,D5⟩:∃ A c,gT bb 5 = .slice A (nd ((qn p) * (q.den))).length c /\ Hid (Dg u A c (nd ((qn p) * (q.den)))):=hG 15 _ rfl
  obtain ⟨A6,c6,e6,D6⟩:∃ A c,gT bb 6 = .slice A (nd ((qn q) * (p.den))).length c /\ Hid (Dg u A c (nd ((qn q) * (p.den)))):=hG 16 _ rfl
  obtain ⟨A7,c7,e7,D7⟩:∃ A c,gT bb 7 = .slice A (nd ((p.den) * (q.den))).length c /\ Hid (Dg u A c (nd ((p.den) * (q.den)))):=hG 17 _ rfl
  have e2:gT bb 2 = .pointer (some ⟨w.heap.size,0,none⟩):=sm 2 (by kernel_rfl)
  have e3:gT bb 3 = .pointer (some ⟨w.heap.size + 1,0,none⟩):=sm 3 (by kernel_rfl)
  have e4:gT bb 4 = .pointer (some ⟨w.heap.size + 1 + 1,0,none⟩):=sm 4 (by kernel_rfl)
  rw [JS bb 53 hN]
  simp only [show List.range 53 = [0,1,2,3,4,5,6,7,8,9,10,11,12,13,14,15,16,17,18,19,20,21,22,23,24,25,26,27,28,29,30,31,32,33,34,35,36,37,38,39,40,41,42,43,44,45,46,47,48,49,50,51,52] from rfl,List.map_cons,List.map_nil,e5,e6,e7,e2,e3,e4,hdf]
  clear e5 e6 e7 e2 e3 e4 hG sm hN hdf
  generalize gT bb 0 = z0,gT bb 1 = z1,gT bb 8 = z8,gT bb 9 = z9,gT bb 10 = z10,gT bb 11 = z11,gT bb 12 = z12,gT bb 13 = z13,gT bb 14 = z14,gT bb 15 = z15,gT bb 16 = z16,gT bb 17 = z17,gT bb 18 = z18,gT bb 19 = z19,gT bb 20 = z20,gT bb 21 = z21,gT bb 22 = z22,gT bb 23 = z23,gT bb 24 = z24,gT bb 25 = z25,gT bb 26 = z26,gT bb 27 = z27,gT bb 28 = z28,gT bb 29 = z29,gT bb 30 = z30,gT bb 31 = z31,gT bb 32 = z32,gT bb 33 = z33,gT bb 34 = z34,gT bb 35 = z35,gT bb 36 = z36,gT bb 37 = z37,gT bb 38 = z38,gT bb 39 = z39,gT bb 40 = z40,gT bb 41 = z41,gT bb 42 = z42,gT bb 43 = z43,gT bb 44 = z44,gT bb 45 = z45,gT bb 46 = z46,gT bb 47 = z47,gT bb 48 = z48,gT bb 49 = z49,gT bb 50 = z50,gT bb 51 = z51,gT bb 52 = z52
  have HBXV:=zH (HBX.out.below su)
  have HB0V:=zH (HB0.out.trans (su.mono HB0.out.size))
  have HCV:=zH (fun u' (hu':Below u.heap.size u u')=>HC.out u' (su.trans (hu'.mono su.size)))
  have SUV:=zH su
  obtain ⟨V,rfl⟩:∃ X,X = u:=⟨_,rfl⟩
  clear su
  generalize qn p * q.den = n1 at *
  generalize qn q * p.den = n2 at *
  generalize p.den * q.den = m at *
  have HCF:Hid (∀ u',Below V.heap.size V u' -> (u'.cell? ⟨w.heap.size,0,none⟩ = some (.bool (qs p)) /\ u'.cell? ⟨w.heap.size + 1,0,none⟩ = some (.bool (qs q)))):=zH (fun u' hu'=>by obtain ⟨x0,x1,x2,x3,x4,x5⟩:=HCV.out u' hu';exact ⟨x0,x3⟩)
  obtain ⟨y0,y1⟩:=HCF.out V bR
  clear HC HCV HB0 HBX SUV HxN1 HxD1 HyN1 HyD1 s1 s2 s3 s4
  have LS:Hid ((nd (n1 + n2)).length <= 400000):=zH (tR (Xs n1 n2 380000 (by omega) (by omega)) (by decide))
  by_cases hs:qs p = qs q
  ·have hq:(qs p == qs q) = true:=by rw [hs];simp
   have HE:Hid (p + q = fq (qs p) (n1 + n2) m):=zH (by rw [HPQ.out,if_pos hs])
   have HQ:=zH hq
   have HS:=zH hs
   clear hs hq HPQ
   generalize qs p = sp at *
   generalize qs q = sq at *
   obtain rfl:=HS.out
   clear HQ HS
   go_wp2_with fail
   refine Jj 7 53 rfl (by kernel_rfl) (by kernel_rfl) (by kernel_rfl) (by kernel_rfl) (fun u=>Below V.heap.size V u) (fun u u'=>Below u.heap.size u u') (Gl [isV (.pointer (some ⟨w.heap.size,0,none⟩)),isV (.bool sp),isV (.slice A5 (nd n1).length c5),isV (.slice A6 (nd n2).length c6),isNd ((n1) + (n2)),isV (.slice A7 (nd m).length c7),isNm (fq (sp) ((n1) + (n2)) (m))]) (Gl.keep (by
     intro p hp
     simp only [List.mem_cons,List.not_mem_nil,or_false] at hp
     rcases hp with rfl | rfl | rfl | rfl | rfl | rfl | rfl
     ·exact Keeps.isV _
     ·exact Keeps.isV _
     ·exact Keeps.isV _
     ·exact Keeps.isV _
     ·exact Keeps.isNd _
     ·exact Keeps.isV _
     ·exact Keeps.isNm _)) ?_ ?_ ?_
   ·exact (Below.refl _ V).drew
   ·simp only [List.pop_toArray,List.dropLast,Jp]
    refine ⟨?_,?_,?_,?_,?_,?_,?_,trivial⟩
    ·intro bb u su dp kp K hK
     have e2:gT bb 2 = .pointer (some ⟨w.heap.size,0,none⟩):=kp 2 (by kernel_rfl)
     go_simp
     exact hK _ _ su bR rfl
    ·intro bb u su dp kp K hK
     have e28:gT bb 28 = .pointer (some ⟨w.heap.size,0,none⟩):=dp 0 _ rfl (by kernel_rfl)
     obtain ⟨cc0,cc1⟩:=HCF.out u su
     go_simp
     exact hK _ _ su bR rfl
    ·intro bb u su dp kp K hK
     have e5:gT bb 5 = .slice A5 (nd n1).length c5:=kp 5 (by kernel_rfl)
     go_simp
     exact hK _ _ su bR rfl
    ·intro bb u su dp kp K hK
     have e6:gT bb 6 = .slice A6 (nd n2).length c6:=kp 6 (by kernel_rfl)
     go_simp
     exact hK _ _ su bR rfl
    ·intro bb u su dp kp K hK
     have e30:gT bb 30 = .slice A5 (nd n1).length c5:=dp 2 _ rfl (by kernel_rfl)
     have e31:gT bb 31 = .slice A6 (nd n2).length c6:=dp 3 _ rfl (by kernel_rfl)
     go_simp
     refine (ZeD A5 A6 c5 c6 (nd (n1)) (nd (n2)) u (D5.out.below su) (D6.out.below su) (by omega) (by omega) ((n1) + (n2)) (zH (by rw [Jw,Jw];omega))).mono ?_
     rintro e w' ⟨A,c,rfl,h1,h2,h3,h4⟩
     go_simp
     exact hK _ _ (su.trans (h4.mono su.size)) h4 ⟨A,c,rfl,zH (Jy h1 h2 h3)⟩
    ·intro bb u su dp kp K hK
     have e7:gT bb 7 = .slice A7 (nd m).length c7:=kp 7 (by kernel_rfl)
     go_simp
     exact hK _ _ su bR rfl
    ·intro bb u su dp kp K hK
     have e29:gT bb 29 = .bool sp:=dp 1 _ rfl (by kernel_rfl)
     obtain ⟨A32,c32,e32,D32⟩:∃ A c,gT bb 32 = .slice A (nd ((n1) + (n2))).length c /\ Hid (Dg u A c (nd ((n1) + (n2)))):=dp 4 _ rfl (by kernel_rfl)
     have e33:gT bb 33 = .slice A7 (nd m).length c7:=dp 5 _ rfl (by kernel_rfl)
     go_simp
     refine (Xr (sp) A32 A7 c32 c7 ((n1) + (n2)) (m) u D32.out (D7.out.below su) LS.out (by omega) d0).mono ?_
     rintro e w' ⟨r,rfl,hr,h4⟩
     go_simp
     exact hK _ _ (su.trans (h4.mono su.size)) h4 ⟨r,rfl,zH hr⟩
   ·intro bb u hN hdf su hG sm
    obtain ⟨r,e34,hr⟩:∃ r:Fr,gT bb 34 = r.val /\ Hid (Nm u r (fq (sp) ((n1) + (n2)) (m))):=hG 6 _ rfl
    have e4:gT bb 4 = .pointer (some ⟨w.heap.size + 1 + 1,0,none⟩):=sm 4 (by kernel_rfl)
    have BX2:=zH (HBXV.out.below su)
    obtain ⟨c0,c1,c2,f0,f1,f2⟩:=BX2.out.facts
    have HB2:=zH (HB0V.out.trans (su.mono HB0V.out.size))
    clear su hG sm
    rw [JS bb 53 hN]
    simp only [show List.range 53 = [0,1,2,3,4,5,6,7,8,9,10,11,12,13,14,15,16,17,18,19,20,21,22,23,24,25,26,27,28,29,30,31,32,33,34,35,36,37,38,39,40,41,42,43,44,45,46,47,48,49,50,51,52] from rfl,List.map_cons,List.map_nil,e4,e34,hdf]
    clear e4 e34 hN hdf
    generalize gT bb 0 = z0,gT bb 1 = z1,gT bb 2 = z2,gT bb 3 = z3,gT bb 5 = z5,gT bb 6 = z6,gT bb 7 = z7,gT bb 8 = z8,gT bb 9 = z9,gT bb 10 = z10,gT bb 11 = z11,gT bb 12 = z12,gT bb 13 = z13,gT bb 14 = z14,gT bb 15 = z15,gT bb 16 = z16,gT bb 17 = z17,gT bb 18 = z18,gT bb 19 = z19,gT bb 20 = z20,gT bb 21 = z21,gT bb 22 = z22,gT bb 23 = z23,gT bb 24 = z24,gT bb 25 = z25,gT bb 26 = z26,gT bb 27 = z27,gT bb 28 = z28,gT bb 29 = z29,gT bb 30 = z30,gT bb 31 = z31,gT bb 32 = z32,gT bb 33 = z33,gT bb 35 = z35,gT bb 36 = z36,gT bb 37 = z37,gT bb 38 = z38,gT bb 39 = z39,gT bb 40 = z40,gT bb 41 = z41,gT bb 42 = z42,gT bb 43 = z43,gT bb 44 = z44,gT bb 45 = z45,gT bb 46 = z46,gT bb 47 = z47,gT bb 48 = z48,gT bb 49 = z49,gT bb 50 = z50,gT bb 51 = z51,gT bb 52 = z52
    obtain ⟨rn,rA,rc,rN,rB,rd,rD⟩:=r
    refine PopQ.last rfl rfl (fun K hK=>?_)
    go_simp
    refine hK _ _ ?_
    clear hK K
    go_wp2_with fail
    obtain ⟨g0,g1,g2⟩:=Zy (.bool rn) (.slice rA rN.length rc) (.slice rB rD.length rd) c0 c1 c2
    refine bodyPost_ret (v:=.agg #[.bool rn,.slice rA rN.length rc,.slice rB rD.length rd]) (by simp [results,Tryz.results76,go_sem,g0,g1,g2]) rfl ?_
    exact ⟨⟨rn,rA,rc,rN,rB,rd,rD⟩,rfl,(by rw [HE.out];exact Yj hr.out BX2.out _ _ _),Jh HB2.out (by omega) _ _ _⟩
  ·have hq:(qs p == qs q) = false:=by simp [hs]
   rcases Nat.lt_or_ge n1 n2 with hc | hc
   ·have HE:Hid (p + q = fq (qs q) (n2 - n1) m):=zH (by rw [HPQ.out,if_neg hs,if_pos hc])
    have CC:=zH (Yf A5 A6 c5 c6 n1 n2 V D5.out D6.out (by omega) (-1) (zH (Yk hc)))
    have LD:Hid ((nd (n2 - n1)).length <= 400000):=zH (tR (Jg (Nat.sub_le _ _)) (by omega))
    clear HPQ hs
    generalize qs p = sp at *
    generalize qs q = sq at *
    go_wp2_with fail
    refine CC.out.mono ?_
    rintro e w' ⟨rfl,n9,rfl⟩
    have X9:Hid (Bt 158 (V.drewN n9) (w.heap.size + 1 + 1)):=zH (HBXV.out.below (Ja _ _))
    have B9:Hid (Below w.heap.size w (V.drewN n9)):=zH (HB0V.out.trans (Ja _ _))
    have D59:Hid (Dg (V.drewN n9) A5 c5 (nd n1)):=zH (D5.out.below (Ja _ _))
    have D69:Hid (Dg (V.drewN n9) A6 c6 (nd n2)):=zH (D6.out.below (Ja _ _))
    have D79:Hid (Dg (V.drewN n9) A7 c7 (nd m)):=zH (D7.out.below (Ja _ _))
    have HC9:Hid (∀ u',Below (V.drewN n9).heap.size (V.drewN n9) u' -> (u'.cell? ⟨w.heap.size,0,none⟩ = some (.bool sp) /\ u'.cell? ⟨w.heap.size + 1,0,none⟩ = some (.bool sq))):=zH (fun u' hu'=>HCF.out u' ((Ja V n9).trans hu'))
    clear CC D5 D6 D7 HBXV HB0V HCF y0 y1
    generalize V.drewN n9 = V9 at *
    go_wp2_with fail
    refine Jj 7 53 rfl (by kernel_rfl) (by kernel_rfl) (by kernel_rfl) (by kernel_rfl) (fun u=>Below V9.heap.size V9 u) (fun u u'=>Below u.heap.size u u') (Gl [isV (.pointer (some ⟨w.heap.size + 1,0,none⟩)),isV (.bool sq),isV (.slice A6 (nd n2).length c6),isV (.slice A5 (nd n1).length c5),isNd ((n2) - (n1)),isV (.slice A7 (nd m).length c7),isNm (fq (sq) ((n2) - (n1)) (m))]) (Gl.keep (by
      intro p hp
      simp only [List.mem_cons,List.not_mem_nil,or_false] at hp
      rcases hp with rfl | rfl | rfl | rfl | rfl | rfl | rfl
      ·exact Keeps.isV _
      ·exact Keeps.isV _
      ·exact Keeps.isV _
      ·exact Keeps.isV _
      ·exact Keeps.isNd _
      ·exact Keeps.isV _
      ·exact Keeps.isNm _)) ?_ ?_ ?_
    ·exact (Below.refl _ V9).drew
    ·simp only [List.pop_toArray,List.dropLast,Jp]
     refine ⟨?_,?_,?_,?_,?_,?_,?_,trivial⟩
     ·intro bb u su dp kp K hK
      have e3:gT bb 3 = .pointer (some ⟨w.heap.size + 1,0,none⟩):=kp 3 (by kernel_rfl)
      go_simp
      exact hK _ _ su bR rfl
     ·intro bb u su dp kp K hK
      have e39:gT bb 39 = .pointer (some ⟨w.heap.size + 1,0,none⟩):=dp 0 _ rfl (by kernel_rfl)
      obtain ⟨cc0,cc1⟩:=HC9.out u su
      go_simp
      exact hK _ _ su bR rfl
     ·intro bb u su dp kp K hK
      have e6:gT bb 6 = .slice A6 (nd n2).length c6:=kp 6 (by kernel_rfl)
      go_simp
      exact hK _ _ su bR rfl
     ·intro bb u su dp kp K hK
      have e5:gT bb 5 = .slice A5 (nd n1).length c5:=kp 5 (by kernel_rfl)
      go_simp
      exact hK _ _ su bR rfl
     ·intro bb u su dp kp K hK
      have e41:gT bb 41 = .slice A6 (nd n2).length c6:=dp 2 _ rfl (by kernel_rfl)
      have e42:gT bb 42 = .slice A5 (nd n1).length c5:=dp 3 _ rfl (by kernel_rfl)
      go_simp
      refine (ZbD A6 A5 c6 c5 (nd (n2)) (nd (n1)) u (D69.out.below su) (D59.out.below su) (Jg (by omega)) (by omega) ((n2) - (n1)) (zH (by rw [Jw,Jw];omega))).mono ?_
      rintro e w' ⟨A,c,rfl,h1,h2,h3,h4⟩
      go_simp
      exact hK _ _ (su.trans (h4.mono su.size)) h4 ⟨A,c,rfl,zH (Jy h1 h2 h3)⟩
     ·intro bb u su dp kp K hK
      have e7:gT bb 7 = .slice A7 (nd m).length c7:=kp 7 (by kernel_rfl)
      go_simp
      exact hK _ _ su bR rfl
     ·intro bb u su dp kp K hK
      have e40:gT bb 40 = .bool sq:=dp 1 _ rfl (by kernel_rfl)
      obtain ⟨A43,c43,e43,D43⟩:∃ A c,gT bb 43 = .slice A (nd ((n2) - (n1))).length c /\ Hid (Dg u A c (nd ((n2) - (n1)))):=dp 4 _ rfl (by kernel_rfl)
      have e44:gT bb 44 = .slice A7 (nd m).length c7:=dp 5 _ rfl (by kernel_rfl)
      go_simp
      refine (Xr (sq) A43 A7 c43 c7 ((n2) - (n1)) (m) u D43.out (D79.out.below su) LD.out (by omega) d0).mono ?_
      rintro e w' ⟨r,rfl,hr,h4⟩
      go_simp
      exact hK _ _ (su.trans (h4.mono su.size)) h4 ⟨r,rfl,zH hr⟩
    ·intro bb u hN hdf su hG sm
     obtain ⟨r,e45,hr⟩:∃ r:Fr,gT bb 45 = r.val /\ Hid (Nm u r (fq (sq) ((n2) - (n1)) (m))):=hG 6 _ rfl
     have e4:gT bb 4 = .pointer (some ⟨w.heap.size + 1 + 1,0,none⟩):=sm 4 (by kernel_rfl)
     have BX2:=zH (X9.out.below su)
     obtain ⟨c0,c1,c2,f0,f1,f2⟩:=BX2.out.facts
     have HB2:=zH (B9.out.trans (su.mono B9.out.size))
     clear su hG sm
     rw [JS bb 53 hN]
     simp only [show List.range 53 = [0,1,2,3,4,5,6,7,8,9,10,11,12,13,14,15,16,17,18,19,20,21,22,23,24,25,26,27,28,29,30,31,32,33,34,35,36,37,38,39,40,41,42,43,44,45,46,47,48,49,50,51,52] from rfl,List.map_cons,List.map_nil,e4,e45,hdf]
     clear e4 e45 hN hdf
     generalize gT bb 0 = z0,gT bb 1 = z1,gT bb 2 = z2,gT bb 3 = z3,gT bb 5 = z5,gT bb 6 = z6,gT bb 7 = z7,gT bb 8 = z8,gT bb 9 = z9,gT bb 10 = z10,gT bb 11 = z11,gT bb 12 = z12,gT bb 13 = z13,gT bb 14 = z14,gT bb 15 = z15,gT bb 16 = z16,gT bb 17 = z17,gT bb 18 = z18,gT bb 19 = z19,gT bb 20 = z20,gT bb 21 = z21,gT bb 22 = z22,gT bb 23 = z23,gT bb 24 = z24,gT bb 25 = z25,gT bb 26 = z26,gT bb 27 = z27,gT bb 28 = z28,gT bb 29 = z29,gT bb 30 = z30,gT bb 31 = z31,gT bb 32 = z32,gT bb 33 = z33,gT bb 34 = z34,gT bb 35 = z35,gT bb 36 = z36,gT bb 37 = z37,gT bb 38 = z38,gT bb 39 = z39,gT bb 40 = z40,gT bb 41 = z41,gT bb 42 = z42,gT bb 43 = z43,gT bb 44 = z44,gT bb 46 = z46,gT bb 47 = z47,gT bb 48 = z48,gT bb 49 = z49,gT bb 50 = z50,gT bb 51 = z51,gT bb 52 = z52
     obtain ⟨rn,rA,rc,rN,rB,rd,rD⟩:=r
     refine PopQ.last rfl rfl (fun K hK=>?_)
     go_simp
     refine hK _ _ ?_
     clear hK K
     go_wp2_with fail
     obtain ⟨g0,g1,g2⟩:=Zy (.bool rn) (.slice rA rN.length rc) (.slice rB rD.length rd) c0 c1 c2
     refine bodyPost_ret (v:=.agg #[.bool rn,.slice rA rN.length rc,.slice rB rD.length rd]) (by simp [results,Tryz.results76,go_sem,g0,g1,g2]) rfl ?_
     exact ⟨⟨rn,rA,rc,rN,rB,rd,rD⟩,rfl,(by rw [HE.out];exact Yj hr.out BX2.out _ _ _),Jh HB2.out (by omega) _ _ _⟩
   ·have HE:Hid (p + q = fq (qs p) (n1 - n2) m):=zH (by rw [HPQ.out,if_neg hs,if_neg (by omega)])
    obtain ⟨r3,hr3,hr30⟩:∃ r3,VM n1 n2 = r3 /\ ¬ r3 < 0:=by
     rcases Nat.lt_or_ge n2 n1 with h | h
     ·exact ⟨1,X8 h,by decide⟩
     ·exact ⟨0,Yl (by omega),by decide⟩
    have CC:=zH (Yf A5 A6 c5 c6 n1 n2 V D5.out D6.out (by omega) r3 (zH hr3))
    have LD:Hid ((nd (n1 - n2)).length <= 400000):=zH (tR (Jg (Nat.sub_le _ _)) (by omega))
    clear hr3
    clear HPQ hs
    generalize qs p = sp at *
    generalize qs q = sq at *
    go_wp2_with fail
    refine CC.out.mono ?_
    rintro e w' ⟨rfl,n9,rfl⟩
    have X9:Hid (Bt 158 (V.drewN n9) (w.heap.size + 1 + 1)):=zH (HBXV.out.below (Ja _ _))
    have B9:Hid (Below w.heap.size w (V.drewN n9)):=zH (HB0V.out.trans (Ja _ _))
    have D59:Hid (Dg (V.drewN n9) A5 c5 (nd n1)):=zH (D5.out.below (Ja _ _))
    have D69:Hid (Dg (V.drewN n9) A6 c6 (nd n2)):=zH (D6.out.below (Ja _ _))
    have D79:Hid (Dg (V.drewN n9) A7 c7 (nd m)):=zH (D7.out.below (Ja _ _))
    have HC9:Hid (∀ u',Below (V.drewN n9).heap.size (V.drewN n9) u' -> (u'.cell? ⟨w.heap.size,0,none⟩ = some (.bool sp) /\ u'.cell? ⟨w.heap.size + 1,0,none⟩ = some (.bool sq))):=zH (fun u' hu'=>HCF.out u' ((Ja V n9).trans hu'))
    clear CC D5 D6 D7 HBXV HB0V HCF y0 y1
    generalize V.drewN n9 = V9 at *
    go_wp2_with fail
    refine Jj 7 53 rfl (by kernel_rfl) (by kernel_rfl) (by kernel_rfl) (by kernel_rfl) (fun u=>Below V9.heap.size V9 u) (fun u u'=>Below u.heap.size u u') (Gl [isV (.pointer (some ⟨w.heap.size,0,none⟩)),isV (.bool sp),isV (.slice A5 (nd n1).length c5),isV (.slice A6 (nd n2).length c6),isNd ((n1) - (n2)),isV (.slice A7 (nd m).length c7),isNm (fq (sp) ((n1) - (n2)) (m))]) (Gl.keep (by
      intro p hp
      simp only [List.mem_cons,List.not_mem_nil,or_false] at hp
      rcases hp with rfl | rfl | rfl | rfl | rfl | rfl | rfl
      ·exact Keeps.isV _
      ·exact Keeps.isV _
      ·exact Keeps.isV _
      ·exact Keeps.isV _
      ·exact Keeps.isNd _
      ·exact Keeps.isV _
      ·exact Keeps.isNm _)) ?_ ?_ ?_
    ·exact (Below.refl _ V9).drew
    ·simp only [List.pop_toArray,List.dropLast,Jp]
     refine ⟨?_,?_,?_,?_,?_,?_,?_,trivial⟩
     ·intro bb u su dp kp K hK
      have e2:gT bb 2 = .pointer (some ⟨w.heap.size,0,none⟩):=kp 2 (by kernel_rfl)
      go_simp
      exact hK _ _ su bR rfl
     ·intro bb u su dp kp K hK
      have e46:gT bb 46 = .pointer (some ⟨w.heap.size,0,none⟩):=dp 0 _ rfl (by kernel_rfl)
      obtain ⟨cc0,cc1⟩:=HC9.out u su
      go_simp
      exact hK _ _ su bR rfl
     ·intro bb u su dp kp K hK
      have e5:gT bb 5 = .slice A5 (nd n1).length c5:=kp 5 (by kernel_rfl)
      go_simp
      exact hK _ _ su bR rfl
     ·intro bb u su dp kp K hK
      have e6:gT bb 6 = .slice A6 (nd n2).length c6:=kp 6 (by kernel_rfl)
      go_simp
      exact hK _ _ su bR rfl
     ·intro bb u su dp kp K hK
      have e48:gT bb 48 = .slice A5 (nd n1).length c5:=dp 2 _ rfl (by kernel_rfl)
      have e49:gT bb 49 = .slice A6 (nd n2).length c6:=dp 3 _ rfl (by kernel_rfl)
      go_simp
      refine (ZbD A5 A6 c5 c6 (nd (n1)) (nd (n2)) u (D59.out.below su) (D69.out.below su) (Jg (by omega)) (by omega) ((n1) - (n2)) (zH (by rw [Jw,Jw];omega))).mono ?_
      rintro e w' ⟨A,c,rfl,h1,h2,h3,h4⟩
      go_simp
      exact hK _ _ (su.trans (h4.mono su.size)) h4 ⟨A,c,rfl,zH (Jy h1 h2 h3)⟩
     ·intro bb u su dp kp K hK
      have e7:gT bb 7 = .slice A7 (nd m).length c7:=kp 7 (by kernel_rfl)
      go_simp
      exact hK _ _ su bR rfl
     ·intro bb u su dp kp K hK
      have e47:gT bb 47 = .bool sp:=dp 1 _ rfl (by kernel_rfl)
      obtain ⟨A50,c50,e50,D50⟩:∃ A c,gT bb 50 = .slice A (nd ((n1) - (n2))).length c /\ Hid (Dg u A c (nd ((n1) - (n2)))):=dp 4 _ rfl (by kernel_rfl)
      have e51:gT bb 51 = .slice A7 (nd m).length c7:=dp 5 _ rfl (by kernel_rfl)
      go_simp
      refine (Xr (sp) A50 A7 c50 c7 ((n1) - (n2)) (m) u D50.out (D79.out.below su) LD.out (by omega) d0).mono ?_
      rintro e w' ⟨r,rfl,hr,h4⟩
      go_simp
      exact hK _ _ (su.trans (h4.mono su.size)) h4 ⟨r,rfl,zH hr⟩
    ·intro bb u hN hdf su hG sm
     obtain ⟨r,e52,hr⟩:∃ r:Fr,gT bb 52 = r.val /\ Hid (Nm u r (fq (sp) ((n1) - (n2)) (m))):=hG 6 _ rfl
     have e4:gT bb 4 = .pointer (some ⟨w.heap.size + 1 + 1,0,none⟩):=sm 4 (by kernel_rfl)
     have BX2:=zH (X9.out.below su)
     obtain ⟨c0,c1,c2,f0,f1,f2⟩:=BX2.out.facts
     have HB2:=zH (B9.out.trans (su.mono B9.out.size))
     clear su hG sm
     rw [JS bb 53 hN]
     simp only [show List.range 53 = [0,1,2,3,4,5,6,7,8,9,10,11,12,13,14,15,16,17,18,19,20,21,22,23,24,25,26,27,28,29,30,31,32,33,34,35,36,37,38,39,40,41,42,43,44,45,46,47,48,49,50,51,52] from rfl,List.map_cons,List.map_nil,e4,e52,hdf]
     clear e4 e52 hN hdf
     generalize gT bb 0 = z0,gT bb 1 = z1,gT bb 2 = z2,gT bb 3 = z3,gT bb 5 = z5,gT bb 6 = z6,gT bb 7 = z7,gT bb 8 = z8,gT bb 9 = z9,gT bb 10 = z10,gT bb 11 = z11,gT bb 12 = z12,gT bb 13 = z13,gT bb 14 = z14,gT bb 15 = z15,gT bb 16 = z16,gT bb 17 = z17,gT bb 18 = z18,gT bb 19 = z19,gT bb 20 = z20,gT bb 21 = z21,gT bb 22 = z22,gT bb 23 = z23,gT bb 24 = z24,gT bb 25 = z25,gT bb 26 = z26,gT bb 27 = z27,gT bb 28 = z28,gT bb 29 = z29,gT bb 30 = z30,gT bb 31 = z31,gT bb 32 = z32,gT bb 33 = z33,gT bb 34 = z34,gT bb 35 = z35,gT bb 36 = z36,gT bb 37 = z37,gT bb 38 = z38,gT bb 39 = z39,gT bb 40 = z40,gT bb 41 = z41,gT bb 42 = z42,gT bb 43 = z43,gT bb 44 = z44,gT bb 45 = z45,gT bb 46 = z46,gT bb 47 = z47,gT bb 48 = z48,gT bb 49 = z49,gT bb 50 = z50,gT bb 51 = z51
     obtain ⟨rn,rA,rc,rN,rB,rd,rD⟩:=r
     refine PopQ.last rfl rfl (fun K hK=>?_)
     go_simp
     refine hK _ _ ?_
     clear hK K
     go_wp2_with fail
     obtain ⟨g0,g1,g2⟩:=Zy (.bool rn) (.slice rA rN.length rc) (.slice rB rD.length rd) c0 c1 c2
     refine bodyPost_ret (v:=.agg #[.bool rn,.slice rA rN.length rc,.slice rB rD.length rd]) (by simp [results,Tryz.results76,go_sem,g0,g1,g2]) rfl ?_
     exact ⟨⟨rn,rA,rc,rN,rB,rd,rD⟩,rfl,(by rw [HE.out];exact Yj hr.out BX2.out _ _ _),Jh HB2.out (by omega) _ _ _⟩
end Go.Proofs.YtfbdihpllmhcnaaGreatDoor
