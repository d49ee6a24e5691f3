/- TalkClusters -/
import Derived.Test.YtcjicjfbippmnaaGreatMTClus39
set_option maxRecDepth 100000
set_option maxHeartbeats 32000000
namespace Go.Proofs.YtcjicjfbippmnaaGreat
open Go.RowKit Ear
set_option linter.unusedVariables false

theorem ZaQ (x y:Fr) (p q:Rat) (w:World) (hx:Fv w x p) (hy:Fv w y q) (fx:Few x 90000) (fy:Few y 90000):Calls Tryz.prog 60 #[x.val,y.val] w (Yr (p + q) w):=by
 obtain ⟨xn,xA,xc,xN,xB,xd,xD⟩:=x;obtain ⟨x1,x2,HxE,HxV,HxN0,HxL,Hx0,HxS⟩:=hx.opened fx;simp only at HxE HxV HxN0 HxL HxS;obtain ⟨yn,yA,yc,yN,yB,yd,yD⟩:=y;obtain ⟨y1,y2,HyE,HyV,HyN0,HyL,Hy0,HyS⟩:=hy.opened fy;simp only at HyE HyV HyN0 HyL HyS;have HPQ:Hid (p + q = if xn = yn then fq xn (x1 * y2 + y1 * x2) (x2 * y2) else if y1 * x2 <= x1 * y2 then fq xn (x1 * y2 - y1 * x2) (x2 * y2) else fq yn (y1 * x2 - x1 * y2) (x2 * y2)):=zH (by
  rw [HxE,HyE];split
  ·rename_i h;subst h;exact UR Hx0 Hy0
  ·rename_i h;split
   ·rename_i h2;exact US Hx0 Hy0 h h2
   ·rename_i h2;exact Zbc Hx0 Hy0 h (by omega))
 have l1:(nd (x1 * y2)).length <= 180000:=by have:=JH x1 y2;omega
 have l2:(nd (y1 * x2)).length <= 180000:=by have:=JH y1 x2;omega
 have l3:(nd (x2 * y2)).length <= 180000:=by have:=JH x2 y2;omega
 clear hx hy fx fy HxE HyE;obtain ⟨W,hW⟩:∃ W:World,W = ((w.alloc (.cells #[.bool xn,.slice xA xN.length xc,.slice xB xD.length xd] 28)).alloc (.cells #[.bool yn,.slice yA yN.length yc,.slice yB yD.length yd] 28)).alloc (.cells #[.bool false,.slice none 0 0,.slice none 0 0] 28):=⟨_,rfl⟩;have hs:W.heap.size = w.heap.size + 3:=by rw [hW];simp
 have HB0:Hid (Below w.heap.size w W):=zH (by rw [hW];exact (al2 w _ _).alloc (by simp;omega) _);have HBX:Hid (Bt 28 W (w.heap.size + 1 + 1)):=zH (by rw [hW];have:=Bt.new 28 ((w.alloc (.cells #[.bool xn,.slice xA xN.length xc,.slice xB xD.length xd] 28)).alloc (.cells #[.bool yn,.slice yA yN.length yc,.slice yB yD.length yd] 28));simpa using this);have HC:Hid (∀ u,Below W.heap.size W u -> u.cell? ⟨w.heap.size,0,none⟩ = some (.bool xn) /\ u.cell? ⟨w.heap.size,1,none⟩ = some (.slice xA xN.length xc) /\ u.cell? ⟨w.heap.size,2,none⟩ = some (.slice xB xD.length xd) /\ u.cell? ⟨w.heap.size + 1,0,none⟩ = some (.bool yn) /\ u.cell? ⟨w.heap.size + 1,1,none⟩ = some (.slice yA yN.length yc) /\ u.cell? ⟨w.heap.size + 1,2,none⟩ = some (.slice yB yD.length yd)):=zH (fun u hu=>by
  rw [hu.cell (p:=⟨w.heap.size,0,none⟩) (by simp;omega),hu.cell (p:=⟨w.heap.size,1,none⟩) (by simp;omega),hu.cell (p:=⟨w.heap.size,2,none⟩) (by simp;omega),hu.cell (p:=⟨w.heap.size + 1,0,none⟩) (by simp;omega),hu.cell (p:=⟨w.heap.size + 1,1,none⟩) (by simp;omega),hu.cell (p:=⟨w.heap.size + 1,2,none⟩) (by simp;omega),hW];simp [go_sem])
 have Tx:Hid (∀ u,Below W.heap.size W u -> Calls Tryz.prog 71 #[.slice xA xN.length xc] u fun e w'=>e = .returned (.slice xA (nd x1).length xc) /\ u = w'):=zH (fun u hu=>HxV.out u (HB0.out.trans (hu.mono HB0.out.size)));have Lx:Hid (∀ u,Below W.heap.size W u -> Calls Tryz.prog 121 #[Fr.val ⟨xn,xA,xc,xN,xB,xd,xD⟩] u (XN x2 u)):=zH (fun u hu=>HxL.out u (HB0.out.trans (hu.mono HB0.out.size)));have Dx:Hid (∀ u,Below W.heap.size W u -> Dg u xA xc (nd x1)):=zH (fun u hu=>HxN0.out u (HB0.out.trans (hu.mono HB0.out.size)));have Ty:Hid (∀ u,Below W.heap.size W u -> Calls Tryz.prog 71 #[.slice yA yN.length yc] u fun e w'=>e = .returned (.slice yA (nd y1).length yc) /\ u = w'):=zH (fun u hu=>HyV.out u (HB0.out.trans (hu.mono HB0.out.size)));have Ly:Hid (∀ u,Below W.heap.size W u -> Calls Tryz.prog 121 #[Fr.val ⟨yn,yA,yc,yN,yB,yd,yD⟩] u (XN y2 u)):=zH (fun u hu=>HyL.out u (HB0.out.trans (hu.mono HB0.out.size)));have Dy:Hid (∀ u,Below W.heap.size W u -> Dg u yA yc (nd y1)):=zH (fun u hu=>HyN0.out u (HB0.out.trans (hu.mono HB0.out.size)));clear HxV HxL HxN0;clear HyV HyL HyN0;go_enter Tryz.func60,Tryz.ntmps60;go_wp2_with fail;rw [<- hW];clear hW;refine Xp 55 rfl (by kernel_rfl) (by kernel_rfl) (by kernel_rfl) (fun u=>Below W.heap.size W u) (fun u u'=>Below u.heap.size u u') (Gl [isV (.pointer (some ⟨w.heap.size,1,none⟩)),isV (.slice xA xN.length xc),isV (.slice xA (nd x1).length xc),isV (Fr.val ⟨yn,yA,yc,yN,yB,yd,yD⟩),isNd (y2),isNd ((x1) * (y2)),isV (.pointer (some ⟨w.heap.size + 1,1,none⟩)),isV (.slice yA yN.length yc),isV (.slice yA (nd y1).length yc),isV (Fr.val ⟨xn,xA,xc,xN,xB,xd,xD⟩),isNd (x2),isNd ((y1) * (x2)),isV (Fr.val ⟨xn,xA,xc,xN,xB,xd,xD⟩),isNd (x2),isV (Fr.val ⟨yn,yA,yc,yN,yB,yd,yD⟩),isNd (y2),isNd ((x2) * (y2)),isNd ((x1) * (y2)),isNd ((y1) * (x2)),isNd ((x2) * (y2))]) (Gl.keep (by
   intro p hp;simp only [List.mem_cons,List.not_mem_nil,or_false] at hp;rcases hp with rfl | rfl | rfl | rfl | rfl | rfl | rfl | rfl | rfl | rfl | rfl | rfl | rfl | rfl | rfl | rfl | rfl | rfl | rfl | rfl
   ·exact Keeps.isV _
   ·exact Keeps.isV _
   ·exact Keeps.isV _
   ·exact Keeps.isV _
   ·exact Keeps.isNd _
   ·exact Keeps.isNd _
   ·exact Keeps.isV _
   ·exact Keeps.isV _
   ·exact Keeps.isV _
   ·exact Keeps.isV _
   ·exact Keeps.isNd _
   ·exact Keeps.isNd _
   ·exact Keeps.isV _
   ·exact Keeps.isNd _
   ·exact Keeps.isV _
   ·exact Keeps.isNd _
   ·exact Keeps.isNd _
   ·exact Keeps.isNd _
   ·exact Keeps.isNd _
   ·exact Keeps.isNd _)) ?_ ?_ ?_
 ·exact (Below.refl _ W).drew
 ·simp only [Jm];refine ⟨?_,?_,?_,?_,?_,?_,?_,?_,?_,?_,?_,?_,?_,?_,?_,?_,?_,?_,?_,?_,trivial⟩
  ·intro bb u su dp kp K hK;have e2:gT bb 2 = .pointer (some ⟨w.heap.size,0,none⟩):=kp 2 (by kernel_rfl);go_simp;exact hK _ _ su bR rfl
  ·intro bb u su dp kp K hK;have e8:gT bb 8 = .pointer (some ⟨w.heap.size,1,none⟩):=dp 0 _ rfl (by kernel_rfl);obtain ⟨cc0,cc1,cc2,cc3,cc4,cc5⟩:=HC.out u su;go_simp;exact hK _ _ su bR rfl
  ·intro bb u su dp kp K hK;have e9:gT bb 9 = .slice xA xN.length xc:=dp 1 _ rfl (by kernel_rfl);go_simp;refine (Tx.out u su).mono ?_;rintro e w' ⟨rfl,rfl⟩;go_simp;exact hK _ _ su bR rfl
  ·intro bb u su dp kp K hK;have e3:gT bb 3 = .pointer (some ⟨w.heap.size + 1,0,none⟩):=kp 3 (by kernel_rfl);obtain ⟨cc0,cc1,cc2,cc3,cc4,cc5⟩:=HC.out u su;go_simp;exact hK _ _ su bR rfl
  ·intro bb u su dp kp K hK;have e11:gT bb 11 = Fr.val ⟨yn,yA,yc,yN,yB,yd,yD⟩:=dp 3 _ rfl (by kernel_rfl);go_simp;refine (Ly.out u su).mono ?_;rintro e w' ⟨A,c,rfl,h1,h2,h3,h4⟩;go_simp;exact hK _ _ (su.trans (h4.mono su.size)) h4 ⟨A,c,rfl,zH (Jt h1 h2 h3)⟩
  ·intro bb u su dp kp K hK;have e10:gT bb 10 = .slice xA (nd x1).length xc:=dp 2 _ rfl (by kernel_rfl);obtain ⟨A12,c12,e12,D12⟩:∃ A c,gT bb 12 = .slice A (nd (y2)).length c /\ Hid (Dg u A c (nd (y2))):=dp 4 _ rfl (by kernel_rfl);go_simp;refine (Zb xA A12 xc c12 (nd (x1)) (nd (y2)) u (Dx.out u su).lies D12.out.lies (zH (Jw _)) (zH (Jw _)) (by omega) (by omega) ((x1) * (y2)) (zH (by rw [Jp,Jp];simp))).mono ?_;rintro e w' ⟨A,c,rfl,h1,h2,h3,h4⟩;go_simp;exact hK _ _ (su.trans (h4.mono su.size)) h4 ⟨A,c,rfl,zH (Jt h1 h2 h3)⟩
  ·intro bb u su dp kp K hK;have e3:gT bb 3 = .pointer (some ⟨w.heap.size + 1,0,none⟩):=kp 3 (by kernel_rfl);go_simp;exact hK _ _ su bR rfl
  ·intro bb u su dp kp K hK;have e14:gT bb 14 = .pointer (some ⟨w.heap.size + 1,1,none⟩):=dp 6 _ rfl (by kernel_rfl);obtain ⟨cc0,cc1,cc2,cc3,cc4,cc5⟩:=HC.out u su;go_simp;exact hK _ _ su bR rfl
  ·intro bb u su dp kp K hK;have e15:gT bb 15 = .slice yA yN.length yc:=dp 7 _ rfl (by kernel_rfl);go_simp;refine (Ty.out u su).mono ?_;rintro e w' ⟨rfl,rfl⟩;go_simp;exact hK _ _ su bR rfl
  ·intro bb u su dp kp K hK;have e2:gT bb 2 = .pointer (some ⟨w.heap.size,0,none⟩):=kp 2 (by kernel_rfl);obtain ⟨cc0,cc1,cc2,cc3,cc4,cc5⟩:=HC.out u su;go_simp;exact hK _ _ su bR rfl
  ·intro bb u su dp kp K hK;have e17:gT bb 17 = Fr.val ⟨xn,xA,xc,xN,xB,xd,xD⟩:=dp 9 _ rfl (by kernel_rfl);go_simp;refine (Lx.out u su).mono ?_;rintro e w' ⟨A,c,rfl,h1,h2,h3,h4⟩;go_simp;exact hK _ _ (su.trans (h4.mono su.size)) h4 ⟨A,c,rfl,zH (Jt h1 h2 h3)⟩
  ·intro bb u su dp kp K hK;have e16:gT bb 16 = .slice yA (nd y1).length yc:=dp 8 _ rfl (by kernel_rfl);obtain ⟨A18,c18,e18,D18⟩:∃ A c,gT bb 18 = .slice A (nd (x2)).length c /\ Hid (Dg u A c (nd (x2))):=dp 10 _ rfl (by kernel_rfl);go_simp;refine (Zb yA A18 yc c18 (nd (y1)) (nd (x2)) u (Dy.out u su).lies D18.out.lies (zH (Jw _)) (zH (Jw _)) (by omega) (by omega) ((y1) * (x2)) (zH (by rw [Jp,Jp];simp))).mono ?_;rintro e w' ⟨A,c,rfl,h1,h2,h3,h4⟩;go_simp;exact hK _ _ (su.trans (h4.mono su.size)) h4 ⟨A,c,rfl,zH (Jt h1 h2 h3)⟩
  ·intro bb u su dp kp K hK;have e2:gT bb 2 = .pointer (some ⟨w.heap.size,0,none⟩):=kp 2 (by kernel_rfl);obtain ⟨cc0,cc1,cc2,cc3,cc4,cc5⟩:=HC.out u su;go_simp;exact hK _ _ su bR rfl
  ·intro bb u su dp kp K hK;have e20:gT bb 20 = Fr.val ⟨xn,xA,xc,xN,xB,xd,xD⟩:=dp 12 _ rfl (by kernel_rfl);go_simp;refine (Lx.out u su).mono ?_;rintro e w' ⟨A,c,rfl,h1,h2,h3,h4⟩;go_simp;exact hK _ _ (su.trans (h4.mono su.size)) h4 ⟨A,c,rfl,zH (Jt h1 h2 h3)⟩
  ·intro bb u su dp kp K hK;have e3:gT bb 3 = .pointer (some ⟨w.heap.size + 1,0,none⟩):=kp 3 (by kernel_rfl);obtain ⟨cc0,cc1,cc2,cc3,cc4,cc5⟩:=HC.out u su;go_simp;exact hK _ _ su bR rfl
  ·intro bb u su dp kp K hK;have e22:gT bb 22 = Fr.val ⟨yn,yA,yc,yN,yB,yd,yD⟩:=dp 14 _ rfl (by kernel_rfl);go_simp;refine (Ly.out u su).mono ?_;rintro e w' ⟨A,c,rfl,h1,h2,h3,h4⟩;go_simp;exact hK _ _ (su.trans (h4.mono su.size)) h4 ⟨A,c,rfl,zH (Jt h1 h2 h3)⟩
  ·intro bb u su dp kp K hK;obtain ⟨A21,c21,e21,D21⟩:∃ A c,gT bb 21 = .slice A (nd (x2)).length c /\ Hid (Dg u A c (nd (x2))):=dp 13 _ rfl (by kernel_rfl);obtain ⟨A23,c23,e23,D23⟩:∃ A c,gT bb 23 = .slice A (nd (y2)).length c /\ Hid (Dg u A c (nd (y2))):=dp 15 _ rfl (by kernel_rfl);go_simp;refine (Zb A21 A23 c21 c23 (nd (x2)) (nd (y2)) u D21.out.lies D23.out.lies (zH (Jw _)) (zH (Jw _)) (by omega) (by omega) ((x2) * (y2)) (zH (by rw [Jp,Jp];simp))).mono ?_;rintro e w' ⟨A,c,rfl,h1,h2,h3,h4⟩;go_simp;exact hK _ _ (su.trans (h4.mono su.size)) h4 ⟨A,c,rfl,zH (Jt h1 h2 h3)⟩
  ·intro bb u su dp kp K hK;obtain ⟨A13,c13,e13,D13⟩:∃ A c,gT bb 13 = .slice A (nd ((x1) * (y2))).length c /\ Hid (Dg u A c (nd ((x1) * (y2)))):=dp 5 _ rfl (by kernel_rfl);go_simp;exact hK _ _ su bR ⟨A13,c13,rfl,D13⟩
  ·intro bb u su dp kp K hK;obtain ⟨A19,c19,e19,D19⟩:∃ A c,gT bb 19 = .slice A (nd ((y1) * (x2))).length c /\ Hid (Dg u A c (nd ((y1) * (x2)))):=dp 11 _ rfl (by kernel_rfl);go_simp;exact hK _ _ su bR ⟨A19,c19,rfl,D19⟩
  ·intro bb u su dp kp K hK;obtain ⟨A24,c24,e24,D24⟩:∃ A c,gT bb 24 = .slice A (nd ((x2) * (y2))).length c /\ Hid (Dg u A c (nd ((x2) * (y2)))):=dp 16 _ rfl (by kernel_rfl);go_simp;exact hK _ _ su bR ⟨A24,c24,rfl,D24⟩
 ·intro bb u hN hdf su hG sm;obtain ⟨A5,c5,e5,D5⟩:∃ A c,gT bb 5 = .slice A (nd ((x1) * (y2))).length c /\ Hid (Dg u A c (nd ((x1) * (y2)))):=hG 17 _ rfl;obtain ⟨A6,c6,e6,D6⟩:∃ A c,gT bb 6 = .slice A (nd ((y1) * (x2))).length c /\ Hid (Dg u A c (nd ((y1) * (x2)))):=hG 18 _ rfl;obtain ⟨A7,c7,e7,D7⟩:∃ A c,gT bb 7 = .slice A (nd ((x2) * (y2))).length c /\ Hid (Dg u A c (nd ((x2) * (y2)))):=hG 19 _ rfl;have e2:gT bb 2 = .pointer (some ⟨w.heap.size,0,none⟩):=sm 2 (by kernel_rfl);have e3:gT bb 3 = .pointer (some ⟨w.heap.size + 1,0,none⟩):=sm 3 (by kernel_rfl);have e4:gT bb 4 = .pointer (some ⟨w.heap.size + 1 + 1,0,none⟩):=sm 4 (by kernel_rfl);rw [JF bb 55 hN];simp only [show List.range 55 = [0,1,2,3,4,5,6,7,8,9,10,11,12,13,14,15,16,17,18,19,20,21,22,23,24,25,26,27,28,29,30,31,32,33,34,35,36,37,38,39,40,41,42,43,44,45,46,47,48,49,50,51,52,53,54] from rfl,List.map_cons,List.map_nil,e5,e6,e7,e2,e3,e4,hdf];clear e5 e6 e7 e2 e3 e4 hG sm hN hdf;generalize gT bb 0 = z0,gT bb 1 = z1,gT bb 8 = z8,gT bb 9 = z9,gT bb 10 = z10,gT bb 11 = z11,gT bb 12 = z12,gT bb 13 = z13,gT bb 14 = z14,gT bb 15 = z15,gT bb 16 = z16,gT bb 17 = z17,gT bb 18 = z18,gT bb 19 = z19,gT bb 20 = z20,gT bb 21 = z21,gT bb 22 = z22,gT bb 23 = z23,gT bb 24 = z24,gT bb 25 = z25,gT bb 26 = z26,gT bb 27 = z27,gT bb 28 = z28,gT bb 29 = z29,gT bb 30 = z30,gT bb 31 = z31,gT bb 32 = z32,gT bb 33 = z33,gT bb 34 = z34,gT bb 35 = z35,gT bb 36 = z36,gT bb 37 = z37,gT bb 38 = z38,gT bb 39 = z39,gT bb 40 = z40,gT bb 41 = z41,gT bb 42 = z42,gT bb 43 = z43,gT bb 44 = z44,gT bb 45 = z45,gT bb 46 = z46,gT bb 47 = z47,gT bb 48 = z48,gT bb 49 = z49,gT bb 50 = z50,gT bb 51 = z51,gT bb 52 = z52,gT bb 53 = z53,gT bb 54 = z54;have HBXV:=zH (HBX.out.below su);have HB0V:=zH (HB0.out.trans (su.mono HB0.out.size));have HCV:=zH (fun u' (hu':Below u.heap.size u u')=>HC.out u' (su.trans (hu'.mono su.size)));have SUV:=zH su;obtain ⟨V,rfl⟩:∃ X,X = u:=⟨_,rfl⟩;clear su;generalize x1 * y2 = n1 at *
  generalize y1 * x2 = n2 at *
  generalize x2 * y2 = m at *
  have HCF:Hid (∀ u',Below V.heap.size V u' -> (u'.cell? ⟨w.heap.size,0,none⟩ = some (.bool xn) /\ u'.cell? ⟨w.heap.size + 1,0,none⟩ = some (.bool yn))):=zH (fun u' hu'=>by obtain ⟨a0,a1,a2,a3,a4,a5⟩:=HCV.out u' hu';exact ⟨a0,a3⟩);obtain ⟨b0,b1⟩:=HCF.out V bR;clear HC HCV HB0 HBX SUV Tx Ty Lx Ly Dx Dy;have LS:Hid ((nd (n1 + n2)).length <= 400000):=zH (tR (Xm n1 n2 180000 (by omega) (by omega)) (by decide));by_cases hs:xn = yn
  ·have HE:Hid (p + q = fq xn (n1 + n2) m):=zH (by rw [HPQ.out,if_pos hs]);subst hs;have hq:(xn == xn) = true:=(by simp);clear HPQ;go_wp2_with fail;refine Jd 7 55 rfl (by kernel_rfl) (by kernel_rfl) (by kernel_rfl) (by kernel_rfl) (fun u=>Below V.heap.size V u) (fun u u'=>Below u.heap.size u u') (Gl [isV (.pointer (some ⟨w.heap.size,0,none⟩)),isV (.bool xn),isV (.slice A5 (nd n1).length c5),isV (.slice A6 (nd n2).length c6),isNd ((n1) + (n2)),isV (.slice A7 (nd m).length c7),isFq (fq (xn) ((n1) + (n2)) (m))]) (Gl.keep (by
     intro p hp;simp only [List.mem_cons,List.not_mem_nil,or_false] at hp;rcases hp with rfl | rfl | rfl | rfl | rfl | rfl | rfl
     ·exact Keeps.isV _
     ·exact Keeps.isV _
     ·exact Keeps.isV _
     ·exact Keeps.isV _
     ·exact Keeps.isNd _
     ·exact Keeps.isV _
     ·exact Keeps.isFq _)) ?_ ?_ ?_
   ·exact (Below.refl _ V).drew
   ·simp only [List.pop_toArray,List.dropLast,Jm];refine ⟨?_,?_,?_,?_,?_,?_,?_,trivial⟩
    ·intro bb u su dp kp K hK;have e2:gT bb 2 = .pointer (some ⟨w.heap.size,0,none⟩):=kp 2 (by kernel_rfl);go_simp;exact hK _ _ su bR rfl
    ·intro bb u su dp kp K hK;have e30:gT bb 30 = .pointer (some ⟨w.heap.size,0,none⟩):=dp 0 _ rfl (by kernel_rfl);obtain ⟨cc0,cc1⟩:=HCF.out u su;go_simp;exact hK _ _ su bR rfl
    ·intro bb u su dp kp K hK;have e5:gT bb 5 = .slice A5 (nd n1).length c5:=kp 5 (by kernel_rfl);go_simp;exact hK _ _ su bR rfl
    ·intro bb u su dp kp K hK;have e6:gT bb 6 = .slice A6 (nd n2).length c6:=kp 6 (by kernel_rfl);go_simp;exact hK _ _ su bR rfl
    ·intro bb u su dp kp K hK;have e32:gT bb 32 = .slice A5 (nd n1).length c5:=dp 2 _ rfl (by kernel_rfl);have e33:gT bb 33 = .slice A6 (nd n2).length c6:=dp 3 _ rfl (by kernel_rfl);go_simp;refine (Uf A5 A6 c5 c6 (nd (n1)) (nd (n2)) u (D5.out.below su) (D6.out.below su) (by omega) (by omega) ((n1) + (n2)) (zH (by rw [Jp,Jp];omega))).mono ?_;rintro e w' ⟨A,c,rfl,h1,h2,h3,h4⟩;go_simp;exact hK _ _ (su.trans (h4.mono su.size)) h4 ⟨A,c,rfl,zH (Jt h1 h2 h3)⟩
    ·intro bb u su dp kp K hK;have e7:gT bb 7 = .slice A7 (nd m).length c7:=kp 7 (by kernel_rfl);go_simp;exact hK _ _ su bR rfl
    ·intro bb u su dp kp K hK;have e31:gT bb 31 = .bool xn:=dp 1 _ rfl (by kernel_rfl);obtain ⟨A34,c34,e34,D34⟩:∃ A c,gT bb 34 = .slice A (nd ((n1) + (n2))).length c /\ Hid (Dg u A c (nd ((n1) + (n2)))):=dp 4 _ rfl (by kernel_rfl);have e35:gT bb 35 = .slice A7 (nd m).length c7:=dp 5 _ rfl (by kernel_rfl);go_simp;refine (Yk (xn) A34 A7 c34 c7 (nd ((n1) + (n2))) (nd (m)) u D34.out (D7.out.below su) LS.out (by omega) ((n1) + (n2)) (m) (zH (Jp _)) (zH (Jp _))).mono ?_;rintro e w' ⟨r,rfl,hr,h4⟩;go_simp;exact hK _ _ (su.trans (h4.mono su.size)) h4 ⟨r,rfl,zH hr⟩
   ·intro bb u hN hdf su hG sm;obtain ⟨r,e36,hr⟩:∃ r:Fr,gT bb 36 = r.val /\ Hid (Fq u r (fq (xn) ((n1) + (n2)) (m))):=hG 6 _ rfl;have e4:gT bb 4 = .pointer (some ⟨w.heap.size + 1 + 1,0,none⟩):=sm 4 (by kernel_rfl);have BX2:=zH (HBXV.out.below su);obtain ⟨c0,c1,c2,f0,f1,f2⟩:=BX2.out.facts;have HB2:=zH (HB0V.out.trans (su.mono HB0V.out.size));clear su hG sm;rw [JF bb 55 hN];simp only [show List.range 55 = [0,1,2,3,4,5,6,7,8,9,10,11,12,13,14,15,16,17,18,19,20,21,22,23,24,25,26,27,28,29,30,31,32,33,34,35,36,37,38,39,40,41,42,43,44,45,46,47,48,49,50,51,52,53,54] from rfl,List.map_cons,List.map_nil,e4,e36,hdf];clear e4 e36 hN hdf;generalize gT bb 0 = z0,gT bb 1 = z1,gT bb 2 = z2,gT bb 3 = z3,gT bb 5 = z5,gT bb 6 = z6,gT bb 7 = z7,gT bb 8 = z8,gT bb 9 = z9,gT bb 10 = z10,gT bb 11 = z11,gT bb 12 = z12,gT bb 13 = z13,gT bb 14 = z14,gT bb 15 = z15,gT bb 16 = z16,gT bb 17 = z17,gT bb 18 = z18,gT bb 19 = z19,gT bb 20 = z20,gT bb 21 = z21,gT bb 22 = z22,gT bb 23 = z23,gT bb 24 = z24,gT bb 25 = z25,gT bb 26 = z26,gT bb 27 = z27,gT bb 28 = z28,gT bb 29 = z29,gT bb 30 = z30,gT bb 31 = z31,gT bb 32 = z32,gT bb 33 = z33,gT bb 34 = z34,gT bb 35 = z35,gT bb 37 = z37,gT bb 38 = z38,gT bb 39 = z39,gT bb 40 = z40,gT bb 41 = z41,gT bb 42 = z42,gT bb 43 = z43,gT bb 44 = z44,gT bb 45 = z45,gT bb 46 = z46,gT bb 47 = z47,gT bb 48 = z48,gT bb 49 = z49,gT bb 50 = z50,gT bb 51 = z51,gT bb 52 = z52,gT bb 53 = z53,gT bb 54 = z54;obtain ⟨rn,rA,rc,rN,rB,rd,rD⟩:=r;refine PopQ.last rfl rfl (fun K hK=>?_);go_simp;refine hK _ _ ?_;clear hK K;go_wp2_with fail;obtain ⟨g0,g1,g2⟩:=Y1 (.bool rn) (.slice rA rN.length rc) (.slice rB rD.length rd) c0 c1 c2;refine bodyPost_ret (v:=.agg #[.bool rn,.slice rA rN.length rc,.slice rB rD.length rd]) (by simp [results,Tryz.results60,go_sem,g0,g1,g2]) rfl ?_;exact ⟨⟨rn,rA,rc,rN,rB,rd,rD⟩,rfl,(by rw [HE.out];exact JI hr.out BX2.out _ _ _),Je HB2.out (by omega) _ _ _⟩
  ·have hq:(xn == yn) = false:=by simp [hs]
   rcases Nat.lt_or_ge n1 n2 with hc | hc
   ·have HE:Hid (p + q = fq yn (n2 - n1) m):=zH (by rw [HPQ.out,if_neg hs,if_neg (by omega)]);have CC:=zH (XH A5 A6 c5 c6 (nd n1) (nd n2) V D5.out.lies D6.out.lies (zH (Jw _)) (zH (Jw _)) D5.out.cap D6.out.cap (by omega) (by omega) n1 n2 (zH (Jp _)) (zH (Jp _)) (-1) (zH (Yo hc)));have LD:Hid ((nd (n2 - n1)).length <= 400000):=zH (tR (Ji (Nat.sub_le _ _)) (by omega));clear HPQ hs;go_wp2_with fail;refine CC.out.mono ?_;rintro e w' ⟨rfl,n9,rfl⟩;have X9:Hid (Bt 28 (V.drewN n9) (w.heap.size + 1 + 1)):=zH (HBXV.out.below (Ja _ _));have B9:Hid (Below w.heap.size w (V.drewN n9)):=zH (HB0V.out.trans (Ja _ _));have D59:Hid (Dg (V.drewN n9) A5 c5 (nd n1)):=zH (D5.out.below (Ja _ _));have D69:Hid (Dg (V.drewN n9) A6 c6 (nd n2)):=zH (D6.out.below (Ja _ _));have D79:Hid (Dg (V.drewN n9) A7 c7 (nd m)):=zH (D7.out.below (Ja _ _));have HC9:Hid (∀ u',Below (V.drewN n9).heap.size (V.drewN n9) u' -> (u'.cell? ⟨w.heap.size,0,none⟩ = some (.bool xn) /\ u'.cell? ⟨w.heap.size + 1,0,none⟩ = some (.bool yn))):=zH (fun u' hu'=>HCF.out u' ((Ja V n9).trans hu'));clear CC D5 D6 D7 HBXV HB0V HCF b0 b1;generalize V.drewN n9 = V9 at *
    go_wp2_with fail;refine Jd 7 55 rfl (by kernel_rfl) (by kernel_rfl) (by kernel_rfl) (by kernel_rfl) (fun u=>Below V9.heap.size V9 u) (fun u u'=>Below u.heap.size u u') (Gl [isV (.pointer (some ⟨w.heap.size + 1,0,none⟩)),isV (.bool yn),isV (.slice A6 (nd n2).length c6),isV (.slice A5 (nd n1).length c5),isNd ((n2) - (n1)),isV (.slice A7 (nd m).length c7),isFq (fq (yn) ((n2) - (n1)) (m))]) (Gl.keep (by
      intro p hp;simp only [List.mem_cons,List.not_mem_nil,or_false] at hp;rcases hp with rfl | rfl | rfl | rfl | rfl | rfl | rfl
      ·exact Keeps.isV _
      ·exact Keeps.isV _
      ·exact Keeps.isV _
      ·exact Keeps.isV _
      ·exact Keeps.isNd _
      ·exact Keeps.isV _
      ·exact Keeps.isFq _)) ?_ ?_ ?_
    ·exact (Below.refl _ V9).drew
    ·simp only [List.pop_toArray,List.dropLast,Jm];refine ⟨?_,?_,?_,?_,?_,?_,?_,trivial⟩
     ·intro bb u su dp kp K hK;have e3:gT bb 3 = .pointer (some ⟨w.heap.size + 1,0,none⟩):=kp 3 (by kernel_rfl);go_simp;exact hK _ _ su bR rfl
     ·intro bb u su dp kp K hK;have e48:gT bb 48 = .pointer (some ⟨w.heap.size + 1,0,none⟩):=dp 0 _ rfl (by kernel_rfl);obtain ⟨cc0,cc1⟩:=HC9.out u su;go_simp;exact hK _ _ su bR rfl
     ·intro bb u su dp kp K hK;have e6:gT bb 6 = .slice A6 (nd n2).length c6:=kp 6 (by kernel_rfl);go_simp;exact hK _ _ su bR rfl
     ·intro bb u su dp kp K hK;have e5:gT bb 5 = .slice A5 (nd n1).length c5:=kp 5 (by kernel_rfl);go_simp;exact hK _ _ su bR rfl
     ·intro bb u su dp kp K hK;have e50:gT bb 50 = .slice A6 (nd n2).length c6:=dp 2 _ rfl (by kernel_rfl);have e51:gT bb 51 = .slice A5 (nd n1).length c5:=dp 3 _ rfl (by kernel_rfl);go_simp;refine (Z9 A6 A5 c6 c5 (nd (n2)) (nd (n1)) u (D69.out.below su).lies (D59.out.below su).lies (zH (Jw _)) (zH (Jw _)) (Ji (by omega)) (by omega) ((n2) - (n1)) (zH (by rw [Jp,Jp];omega))).mono ?_;rintro e w' ⟨A,c,rfl,h1,h2,h3,h4⟩;go_simp;exact hK _ _ (su.trans (h4.mono su.size)) h4 ⟨A,c,rfl,zH (Jt h1 h2 h3)⟩
     ·intro bb u su dp kp K hK;have e7:gT bb 7 = .slice A7 (nd m).length c7:=kp 7 (by kernel_rfl);go_simp;exact hK _ _ su bR rfl
     ·intro bb u su dp kp K hK;have e49:gT bb 49 = .bool yn:=dp 1 _ rfl (by kernel_rfl);obtain ⟨A52,c52,e52,D52⟩:∃ A c,gT bb 52 = .slice A (nd ((n2) - (n1))).length c /\ Hid (Dg u A c (nd ((n2) - (n1)))):=dp 4 _ rfl (by kernel_rfl);have e53:gT bb 53 = .slice A7 (nd m).length c7:=dp 5 _ rfl (by kernel_rfl);go_simp;refine (Yk (yn) A52 A7 c52 c7 (nd ((n2) - (n1))) (nd (m)) u D52.out (D79.out.below su) LD.out (by omega) ((n2) - (n1)) (m) (zH (Jp _)) (zH (Jp _))).mono ?_;rintro e w' ⟨r,rfl,hr,h4⟩;go_simp;exact hK _ _ (su.trans (h4.mono su.size)) h4 ⟨r,rfl,zH hr⟩
    ·intro bb u hN hdf su hG sm;obtain ⟨r,e54,hr⟩:∃ r:Fr,gT bb 54 = r.val /\ Hid (Fq u r (fq (yn) ((n2) - (n1)) (m))):=hG 6 _ rfl;have e4:gT bb 4 = .pointer (some ⟨w.heap.size + 1 + 1,0,none⟩):=sm 4 (by kernel_rfl);have BX2:=zH (X9.out.below su);obtain ⟨c0,c1,c2,f0,f1,f2⟩:=BX2.out.facts;have HB2:=zH (B9.out.trans (su.mono B9.out.size));clear su hG sm;rw [JF bb 55 hN];simp only [show List.range 55 = [0,1,2,3,4,5,6,7,8,9,10,11,12,13,14,15,16,17,18,19,20,21,22,23,24,25,26,27,28,29,30,31,32,33,34,35,36,37,38,39,40,41,42,43,44,45,46,47,48,49,50,51,52,53,54] from rfl,List.map_cons,List.map_nil,e4,e54,hdf];clear e4 e54 hN hdf;generalize gT bb 0 = z0,gT bb 1 = z1,gT bb 2 = z2,gT bb 3 = z3,gT bb 5 = z5,gT bb 6 = z6,gT bb 7 = z7,gT bb 8 = z8,gT bb 9 = z9,gT bb 10 = z10,gT bb 11 = z11,gT bb 12 = z12,gT bb 13 = z13,gT bb 14 = z14,gT bb 15 = z15,gT bb 16 = z16,gT bb 17 = z17,gT bb 18 = z18,gT bb 19 = z19,gT bb 20 = z20,gT bb 21 = z21,gT bb 22 = z22,gT bb 23 = z23,gT bb 24 = z24,gT bb 25 = z25,gT bb 26 = z26,gT bb 27 = z27,gT bb 28 = z28,gT bb 29 = z29,gT bb 30 = z30,gT bb 31 = z31,gT bb 32 = z32,gT bb 33 = z33,gT bb 34 = z34,gT bb 35 = z35,gT bb 36 = z36,gT bb 37 = z37,gT bb 38 = z38,gT bb 39 = z39,gT bb 40 = z40,gT bb 41 = z41,gT bb 42 = z42,gT bb 43 = z43,gT bb 44 = z44,gT bb 45 = z45,gT bb 46 = z46,gT bb 47 = z47,gT bb 48 = z48,gT bb 49 = z49,gT bb 50 = z50,gT bb 51 = z51,gT bb 52 = z52,gT bb 53 = z53;obtain ⟨rn,rA,rc,rN,rB,rd,rD⟩:=r;refine PopQ.last rfl rfl (fun K hK=>?_);go_simp;refine hK _ _ ?_;clear hK K;go_wp2_with fail;obtain ⟨g0,g1,g2⟩:=Y1 (.bool rn) (.slice rA rN.length rc) (.slice rB rD.length rd) c0 c1 c2;refine bodyPost_ret (v:=.agg #[.bool rn,.slice rA rN.length rc,.slice rB rD.length rd]) (by simp [results,Tryz.results60,go_sem,g0,g1,g2]) rfl ?_;exact ⟨⟨rn,rA,rc,rN,rB,rd,rD⟩,rfl,(by rw [HE.out];exact JI hr.out BX2.out _ _ _),Je HB2.out (by omega) _ _ _⟩
   ·have HE:Hid (p + q = fq xn (n1 - n2) m):=zH (by rw [HPQ.out,if_neg hs,if_pos hc]);obtain ⟨r3,hr3,hr30⟩:∃ r3,Ua n1 n2 = r3 /\ 0 <= r3:=by
     rcases Nat.lt_or_ge n2 n1 with h | h
     ·exact ⟨1,XS h,by decide⟩
     ·exact ⟨0,Yp (by omega),by decide⟩
    have CC:=zH (XH A5 A6 c5 c6 (nd n1) (nd n2) V D5.out.lies D6.out.lies (zH (Jw _)) (zH (Jw _)) D5.out.cap D6.out.cap (by omega) (by omega) n1 n2 (zH (Jp _)) (zH (Jp _)) r3 (zH hr3));have LD:Hid ((nd (n1 - n2)).length <= 400000):=zH (tR (Ji (Nat.sub_le _ _)) (by omega));clear hr3 HPQ hs;go_wp2_with fail;refine CC.out.mono ?_;rintro e w' ⟨rfl,n9,rfl⟩;have X9:Hid (Bt 28 (V.drewN n9) (w.heap.size + 1 + 1)):=zH (HBXV.out.below (Ja _ _));have B9:Hid (Below w.heap.size w (V.drewN n9)):=zH (HB0V.out.trans (Ja _ _));have D59:Hid (Dg (V.drewN n9) A5 c5 (nd n1)):=zH (D5.out.below (Ja _ _));have D69:Hid (Dg (V.drewN n9) A6 c6 (nd n2)):=zH (D6.out.below (Ja _ _));have D79:Hid (Dg (V.drewN n9) A7 c7 (nd m)):=zH (D7.out.below (Ja _ _));have HC9:Hid (∀ u',Below (V.drewN n9).heap.size (V.drewN n9) u' -> (u'.cell? ⟨w.heap.size,0,none⟩ = some (.bool xn) /\ u'.cell? ⟨w.heap.size + 1,0,none⟩ = some (.bool yn))):=zH (fun u' hu'=>HCF.out u' ((Ja V n9).trans hu'));clear CC D5 D6 D7 HBXV HB0V HCF b0 b1;generalize V.drewN n9 = V9 at *
    go_wp2_with fail;refine Jd 7 55 rfl (by kernel_rfl) (by kernel_rfl) (by kernel_rfl) (by kernel_rfl) (fun u=>Below V9.heap.size V9 u) (fun u u'=>Below u.heap.size u u') (Gl [isV (.pointer (some ⟨w.heap.size,0,none⟩)),isV (.bool xn),isV (.slice A5 (nd n1).length c5),isV (.slice A6 (nd n2).length c6),isNd ((n1) - (n2)),isV (.slice A7 (nd m).length c7),isFq (fq (xn) ((n1) - (n2)) (m))]) (Gl.keep (by
      intro p hp;simp only [List.mem_cons,List.not_mem_nil,or_false] at hp;rcases hp with rfl | rfl | rfl | rfl | rfl | rfl | rfl
      ·exact Keeps.isV _
      ·exact Keeps.isV _
      ·exact Keeps.isV _
      ·exact Keeps.isV _
      ·exact Keeps.isNd _
      ·exact Keeps.isV _
      ·exact Keeps.isFq _)) ?_ ?_ ?_
    ·exact (Below.refl _ V9).drew
    ·simp only [List.pop_toArray,List.dropLast,Jm];refine ⟨?_,?_,?_,?_,?_,?_,?_,trivial⟩
     ·intro bb u su dp kp K hK;have e2:gT bb 2 = .pointer (some ⟨w.heap.size,0,none⟩):=kp 2 (by kernel_rfl);go_simp;exact hK _ _ su bR rfl
     ·intro bb u su dp kp K hK;have e41:gT bb 41 = .pointer (some ⟨w.heap.size,0,none⟩):=dp 0 _ rfl (by kernel_rfl);obtain ⟨cc0,cc1⟩:=HC9.out u su;go_simp;exact hK _ _ su bR rfl
     ·intro bb u su dp kp K hK;have e5:gT bb 5 = .slice A5 (nd n1).length c5:=kp 5 (by kernel_rfl);go_simp;exact hK _ _ su bR rfl
     ·intro bb u su dp kp K hK;have e6:gT bb 6 = .slice A6 (nd n2).length c6:=kp 6 (by kernel_rfl);go_simp;exact hK _ _ su bR rfl
     ·intro bb u su dp kp K hK;have e43:gT bb 43 = .slice A5 (nd n1).length c5:=dp 2 _ rfl (by kernel_rfl);have e44:gT bb 44 = .slice A6 (nd n2).length c6:=dp 3 _ rfl (by kernel_rfl);go_simp;refine (Z9 A5 A6 c5 c6 (nd (n1)) (nd (n2)) u (D59.out.below su).lies (D69.out.below su).lies (zH (Jw _)) (zH (Jw _)) (Ji (by omega)) (by omega) ((n1) - (n2)) (zH (by rw [Jp,Jp];omega))).mono ?_;rintro e w' ⟨A,c,rfl,h1,h2,h3,h4⟩;go_simp;exact hK _ _ (su.trans (h4.mono su.size)) h4 ⟨A,c,rfl,zH (Jt h1 h2 h3)⟩
     ·intro bb u su dp kp K hK;have e7:gT bb 7 = .slice A7 (nd m).length c7:=kp 7 (by kernel_rfl);go_simp;exact hK _ _ su bR rfl
     ·intro bb u su dp kp K hK;have e42:gT bb 42 = .bool xn:=dp 1 _ rfl (by kernel_rfl);obtain ⟨A45,c45,e45,D45⟩:∃ A c,gT bb 45 = .slice A (nd ((n1) - (n2))).length c /\ Hid (Dg u A c (nd ((n1) - (n2)))):=dp 4 _ rfl (by kernel_rfl);have e46:gT bb 46 = .slice A7 (nd m).length c7:=dp 5 _ rfl (by kernel_rfl);go_simp;refine (Yk (xn) A45 A7 c45 c7 (nd ((n1) - (n2))) (nd (m)) u D45.out (D79.out.below su) LD.out (by omega) ((n1) - (n2)) (m) (zH (Jp _)) (zH (Jp _))).mono ?_;rintro e w' ⟨r,rfl,hr,h4⟩;go_simp;exact hK _ _ (su.trans (h4.mono su.size)) h4 ⟨r,rfl,zH hr⟩
    ·intro bb u hN hdf su hG sm;obtain ⟨r,e47,hr⟩:∃ r:Fr,gT bb 47 = r.val /\ Hid (Fq u r (fq (xn) ((n1) - (n2)) (m))):=hG 6 _ rfl;have e4:gT bb 4 = .pointer (some ⟨w.heap.size + 1 + 1,0,none⟩):=sm 4 (by kernel_rfl);have BX2:=zH (X9.out.below su);obtain ⟨c0,c1,c2,f0,f1,f2⟩:=BX2.out.facts;have HB2:=zH (B9.out.trans (su.mono B9.out.size));clear su hG sm;rw [JF bb 55 hN];simp only [show List.range 55 = [0,1,2,3,4,5,6,7,8,9,10,11,12,13,14,15,16,17,18,19,20,21,22,23,24,25,26,27,28,29,30,31,32,33,34,35,36,37,38,39,40,41,42,43,44,45,46,47,48,49,50,51,52,53,54] from rfl,List.map_cons,List.map_nil,e4,e47,hdf];clear e4 e47 hN hdf;generalize gT bb 0 = z0,gT bb 1 = z1,gT bb 2 = z2,gT bb 3 = z3,gT bb 5 = z5,gT bb 6 = z6,gT bb 7 = z7,gT bb 8 = z8,gT bb 9 = z9,gT bb 10 = z10,gT bb 11 = z11,gT bb 12 = z12,gT bb 13 = z13,gT bb 14 = z14,gT bb 15 = z15,gT bb 16 = z16,gT bb 17 = z17,gT bb 18 = z18,gT bb 19 = z19,gT bb 20 = z20,gT bb 21 = z21,gT bb 22 = z22,gT bb 23 = z23,gT bb 24 = z24,gT bb 25 = z25,gT bb 26 = z26,gT bb 27 = z27,gT bb 28 = z28,gT bb 29 = z29,gT bb 30 = z30,gT bb 31 = z31,gT bb 32 = z32,gT bb 33 = z33,gT bb 34 = z34,gT bb 35 = z35,gT bb 36 = z36,gT bb 37 = z37,gT bb 38 = z38,gT bb 39 = z39,gT bb 40 = z40,gT bb 41 = z41,gT bb 42 = z42,gT bb 43 = z43,gT bb 44 = z44,gT bb 45 = z45,gT bb 46 = z46,gT bb 48 = z48,gT bb 49 = z49,gT bb 50 = z50,gT bb 51 = z51,gT bb 52 = z52,gT bb 53 = z53,gT bb 54 = z54;obtain ⟨rn,rA,rc,rN,rB,rd,rD⟩:=r;refine PopQ.last rfl rfl (fun K hK=>?_);go_simp;refine hK _ _ ?_;clear hK K;go_wp2_with fail;obtain ⟨g0,g1,g2⟩:=Y1 (.bool rn) (.slice rA rN.length rc) (.slice rB rD.length rd) c0 c1 c2;refine bodyPost_ret (v:=.agg #[.bool rn,.slice rA rN.length rc,.slice rB rD.length rd]) (by simp [results,Tryz.results60,go_sem,g0,g1,g2]) rfl ?_;exact ⟨⟨rn,rA,rc,rN,rB,rd,rD⟩,rfl,(by rw [HE.out];exact JI hr.out BX2.out _ _ _),Je HB2.out (by omega) _ _ _⟩
end Go.Proofs.YtcjicjfbippmnaaGreat
namespace Go.Proofs.YtcjicjfbippmnaaGreat
open Go.RowKit Ear

structure Fz (w:World) (x:Fr) (z:Int):Prop where
 ok:FrOk w x
 neg:x.neg = decide (z < 0)
 num:x.N = nd z.natAbs
 den:x.D = []
theorem Fz.boxed {w:World} {x:Fr} {z:Int} {k:Nat} (h:Fz w x z) (hb:Bx w k) (v0 v1 v2:Value):Fz (((w.setCell ⟨k,0,none⟩ v0).setCell ⟨k,1,none⟩ v1).setCell ⟨k,2,none⟩ v2) x z:=⟨h.ok.boxed hb v0 v1 v2,h.neg,h.num,h.den⟩
def Ziq (z:Int) (w:World) (e:Ending) (w':World):Prop:=∃ x:Fr,e = .returned x.val /\ Fz w' x z /\ Below w.heap.size w w'
theorem RetFr.fz {b:Bool} {n:Nat} {z:Int} {w w':World} {e:Ending} (h:RetFr b n 1 w e w') (hb:b = decide (z < 0)) (hn:n = z.natAbs):Ziq z w e w':=by
 obtain ⟨x,he,hx,h1,h2,h3,h4⟩:=h;exact ⟨x,he,⟨hx,h1.trans hb,by rw [h2,hn],by rw [h3];rfl⟩,h4⟩
theorem ZgO (z:Int) (w:World) (h1 : -9223372036854775808 <= z) (h2:z <= 9223372036854775807):Calls Tryz.prog 39 #[.int .i64 z] w (Ziq z w):=by
 have b1:z.natAbs <= 9223372036854775808:=by omega
 have HL:Hid ((nd z.natAbs).length <= 1000000):=zH (tR (JO (k:=2) (by simp;omega)) (by decide));have HV:=zH (Jp z.natAbs);have HD:=zH (Jw z.natAbs);have HS:=zH (fun W=>Q4 z W h1 h2);have HE:Hid (decide (z < 0) && decide (z.natAbs ≠ 0)) = Hid (decide (z < 0)):=by
  by_cases h:z < 0
  ·have:z.natAbs ≠ 0:=by omega
   simp [h,this]
  ·simp [h]
 have HE':=zH HE;have HB:Hid ((decide (z < 0) && decide (z.natAbs ≠ 0)) = decide (z < 0)):=zH (by
  by_cases h:z < 0
  ·have:z.natAbs ≠ 0:=by omega
   simp [h,this]
  ·simp [h])
 clear HE HE';go_enter Tryz.func39,Tryz.ntmps39;go_wp2_with fail;refine (HS.out _).mono ?_;rintro e w' ⟨rfl,rfl⟩;generalize hn:z.natAbs = n at *
 have HN:=zH hn;clear hn;go_wp2_with fail;refine (ZM n _ (by omega)).mono ?_;rintro e w1 ⟨A,c,rfl,hA,hc,hnil,hb⟩;generalize hd:nd n = ds at *
 have HDS:=zH hd;clear hd;have hs1:w.heap.size < w1.heap.size:=by have:=hb.size;simp at this;omega
 have hb0:=zH (((Below.refl _ w).alloc nR _).trans (hb.mono (by simp)));have BX:=zH ((Bx.new w).below hb);have HM:=zH (ZaY (decide (z < 0)) A none c 0 ds [] w1 ⟨hA,HD.out,hc,hnil⟩ (Dg.none _) HL.out (by simp) n HV (zH (.inl rfl)));clear hb hA hnil;go_wp2_with fail;refine HM.out.mono ?_;clear HM;intro e w2 hR;obtain ⟨x,rfl,hx,hb2⟩:=hR.fz HB.out HN.out.symm;have BX2:=BX.out.below hb2;obtain ⟨c0,c1,c2,f0,f1,f2⟩:=BX2.facts;have HX:=zH hx;have HB2:=zH (hb0.out.trans (hb2.mono hb0.out.size));have BXH:=zH BX2;clear hx hb2 hR BX2 HB;obtain ⟨xn,xA,xc,xN,xB,xd,xD⟩:=x;go_wp2_with fail;obtain ⟨e0,e1,e2⟩:=Y1 (.bool xn) (.slice xA xN.length xc) (.slice xB xD.length xd) c0 c1 c2;refine bodyPost_ret (v:=.agg #[.bool xn,.slice xA xN.length xc,.slice xB xD.length xd]) (by simp [results,Tryz.results39,go_sem,e0,e1,e2]) rfl ?_;exact ⟨⟨xn,xA,xc,xN,xB,xd,xD⟩,rfl,HX.out.boxed BXH.out _ _ _,((HB2.out.setCell nR _).setCell nR _).setCell nR _⟩
end Go.Proofs.YtcjicjfbippmnaaGreat
