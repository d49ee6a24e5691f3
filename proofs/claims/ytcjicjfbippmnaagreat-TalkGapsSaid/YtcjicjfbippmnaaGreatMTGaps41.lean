/- a part of TalkGaps -/
import Derived.Test.YtcjicjfbippmnaaGreatMTGaps17
set_option maxRecDepth 100000
set_option maxHeartbeats 32000000
namespace Go.Proofs.YtcjicjfbippmnaaGreat
open Go.RowKit Ear
set_option linter.unusedVariables false

theorem Fv.opened {w:World} {x:Fr} {q:Rat} (h:Fv w x q) (hf:Few x 90000):∃ n d:Nat,q = fq x.neg n d /\ Hid (∀ u,Below w.heap.size w u -> Calls Tryz.prog 71 #[.slice x.A x.N.length x.c] u fun e w'=>e = .returned (.slice x.A (nd n).length x.c) /\ u = w') /\ Hid (∀ u,Below w.heap.size w u -> Dg u x.A x.c (nd n)) /\ Hid (∀ u,Below w.heap.size w u -> Calls Tryz.prog 121 #[x.val] u (RetNd d u)) /\ d ≠ 0 /\ (nd n).length <= 90000 /\ (nd d).length <= 90000:=by
 have hn0:=vl_nonneg h.n.dig
 have hd0:=vl_nonneg h.d.dig
 obtain ⟨n,hn⟩:∃ n:Nat,vl x.N = (n:Int):=⟨(vl x.N).toNat,by omega⟩
 obtain ⟨v,hv⟩:∃ v:Nat,vl x.D = (v:Int):=⟨(vl x.D).toNat,by omega⟩
 refine ⟨n,if v = 0 then 1 else v,?_,zH (fun u hu=>?_),zH (fun u hu=>?_),zH (fun u hu=>?_),?_,?_,?_⟩
 ·rw [<- h.val,hn,hv,Int.toNat_natCast,Int.toNat_natCast]
  split
  ·subst_vars;rfl
  ·rfl
 ·have hb:=h.n.below hu
  exact trim_any x.A x.c x.N u hb.lies (zH hb.dig) hb.cap (by have:=hf.n;omega) n (zH hn)
 ·exact (h.n.below hu).nd hn
 ·exact low_any x u ⟨h.n.below hu,h.d.below hu⟩ (by have:=hf.d;omega) v (zH hv)
 ·split <;> omega
 ·exact Nat.le_trans (nd_le_len h.n.dig hn) hf.n
 ·split
  ·rw [nd_one];decide
  ·exact Nat.le_trans (nd_le_len h.d.dig hv) hf.d
theorem rqMul_any (x y:Fr) (p q:Rat) (w:World) (hx:Fv w x p) (hy:Fv w y q) (fx:Few x 90000) (fy:Few y 90000):Calls Tryz.prog 61 #[x.val,y.val] w (RetFq (p * q) w):=by
 obtain ⟨xn,xA,xc,xN,xB,xd,xD⟩:=x
 obtain ⟨x1,x2,HxE,HxV,HxN0,HxL,Hx0,HxS⟩:=hx.opened fx
 simp only at HxE HxV HxN0 HxL HxS
 obtain ⟨yn,yA,yc,yN,yB,yd,yD⟩:=y
 obtain ⟨y1,y2,HyE,HyV,HyN0,HyL,Hy0,HyS⟩:=hy.opened fy
 simp only at HyE HyV HyN0 HyL HyS
 have HE:Hid (p * q = fq (xn != yn) (x1 * y1) (x2 * y2)):=zH (by rw [HxE,HyE];exact fq_mul Hx0 Hy0)
 have l1:=nd_len_mul x1 y1
 have l2:=nd_len_mul x2 y2
 clear hx hy fx fy HxE HyE
 obtain ⟨W,hW⟩:∃ W:World,W = ((w.alloc (.cells #[.bool xn,.slice xA xN.length xc,.slice xB xD.length xd] 28)).alloc (.cells #[.bool yn,.slice yA yN.length yc,.slice yB yD.length yd] 28)).alloc (.cells #[.bool false,.slice none 0 0,.slice none 0 0] 28):=⟨_,rfl⟩
 have hs:W.heap.size = w.heap.size + 3:=by rw [hW];simp
 have HB0:Hid (Below w.heap.size w W):=zH (by rw [hW];exact (al2 w _ _).alloc (by simp;omega) _)
 have HBX:Hid (Bt 28 W (w.heap.size + 1 + 1)):=zH (by rw [hW];have:=Bt.new 28 ((w.alloc (.cells #[.bool xn,.slice xA xN.length xc,.slice xB xD.length xd] 28)).alloc (.cells #[.bool yn,.slice yA yN.length yc,.slice yB yD.length yd] 28));simpa using this)
 have HC:Hid (∀ u,Below W.heap.size W u -> u.cell? ⟨w.heap.size,0,none⟩ = some (.bool xn) /\ u.cell? ⟨w.heap.size,1,none⟩ = some (.slice xA xN.length xc) /\ u.cell? ⟨w.heap.size,2,none⟩ = some (.slice xB xD.length xd) /\ u.cell? ⟨w.heap.size + 1,0,none⟩ = some (.bool yn) /\ u.cell? ⟨w.heap.size + 1,1,none⟩ = some (.slice yA yN.length yc) /\ u.cell? ⟨w.heap.size + 1,2,none⟩ = some (.slice yB yD.length yd)):=zH (fun u hu=>by
  rw [hu.cell (p:=⟨w.heap.size,0,none⟩) (by simp;omega),hu.cell (p:=⟨w.heap.size,1,none⟩) (by simp;omega),hu.cell (p:=⟨w.heap.size,2,none⟩) (by simp;omega),hu.cell (p:=⟨w.heap.size + 1,0,none⟩) (by simp;omega),hu.cell (p:=⟨w.heap.size + 1,1,none⟩) (by simp;omega),hu.cell (p:=⟨w.heap.size + 1,2,none⟩) (by simp;omega),hW]
  simp [go_sem])
 have Tx:Hid (∀ u,Below W.heap.size W u -> Calls Tryz.prog 71 #[.slice xA xN.length xc] u fun e w'=>e = .returned (.slice xA (nd x1).length xc) /\ u = w'):=zH (fun u hu=>HxV.out u (HB0.out.trans (hu.mono HB0.out.size)))
 have Lx:Hid (∀ u,Below W.heap.size W u -> Calls Tryz.prog 121 #[Fr.val ⟨xn,xA,xc,xN,xB,xd,xD⟩] u (RetNd x2 u)):=zH (fun u hu=>HxL.out u (HB0.out.trans (hu.mono HB0.out.size)))
 have Dx:Hid (∀ u,Below W.heap.size W u -> Dg u xA xc (nd x1)):=zH (fun u hu=>HxN0.out u (HB0.out.trans (hu.mono HB0.out.size)))
 have Ty:Hid (∀ u,Below W.heap.size W u -> Calls Tryz.prog 71 #[.slice yA yN.length yc] u fun e w'=>e = .returned (.slice yA (nd y1).length yc) /\ u = w'):=zH (fun u hu=>HyV.out u (HB0.out.trans (hu.mono HB0.out.size)))
 have Ly:Hid (∀ u,Below W.heap.size W u -> Calls Tryz.prog 121 #[Fr.val ⟨yn,yA,yc,yN,yB,yd,yD⟩] u (RetNd y2 u)):=zH (fun u hu=>HyL.out u (HB0.out.trans (hu.mono HB0.out.size)))
 have Dy:Hid (∀ u,Below W.heap.size W u -> Dg u yA yc (nd y1)):=zH (fun u hu=>HyN0.out u (HB0.out.trans (hu.mono HB0.out.size)))
 clear HxV HxL HxN0
 clear HyV HyL HyN0
 go_enter Tryz.func61,Tryz.ntmps61
 go_wp2_with fail
 rw [<- hW]
 clear hW
 refine wp_region_slots_pop 18 23 rfl (by kernel_rfl) (by kernel_rfl) (by kernel_rfl) (by kernel_rfl) (fun u=>Below W.heap.size W u) (fun u u'=>Below u.heap.size u u') (Gl [isV (.pointer (some ⟨w.heap.size,0,none⟩)),isV (.bool xn),isV (.pointer (some ⟨w.heap.size + 1,0,none⟩)),isV (.bool yn),isV (.bool (xn != yn)),isV (.pointer (some ⟨w.heap.size,1,none⟩)),isV (.slice xA xN.length xc),isV (.slice xA (nd x1).length xc),isV (.pointer (some ⟨w.heap.size + 1,1,none⟩)),isV (.slice yA yN.length yc),isV (.slice yA (nd y1).length yc),isNd ((x1) * (y1)),isV (Fr.val ⟨xn,xA,xc,xN,xB,xd,xD⟩),isNd (x2),isV (Fr.val ⟨yn,yA,yc,yN,yB,yd,yD⟩),isNd (y2),isNd ((x2) * (y2)),isFq (fq ((xn != yn)) ((x1) * (y1)) ((x2) * (y2)))]) (Gl.keep (by
   intro p hp
   simp only [List.mem_cons,List.not_mem_nil,or_false] at hp
   rcases hp with rfl | rfl | rfl | rfl | rfl | rfl | rfl | rfl | rfl | rfl | rfl | rfl | rfl | rfl | rfl | rfl | rfl | rfl
   ·exact Keeps.isV _
   ·exact Keeps.isV _
   ·exact Keeps.isV _
   ·exact Keeps.isV _
   ·exact Keeps.isV _
   ·exact Keeps.isV _
   ·exact Keeps.isV _
   ·exact Keeps.isV _
   ·exact Keeps.isV _
   ·exact Keeps.isV _
   ·exact Keeps.isV _
   ·exact Keeps.isNd _
   ·exact Keeps.isV _
   ·exact Keeps.isNd _
   ·exact Keeps.isV _
   ·exact Keeps.isNd _
   ·exact Keeps.isNd _
   ·exact Keeps.isFq _)) ?_ ?_ ?_
 ·exact (Below.refl _ W).drew
 ·simp only [List.pop_toArray,List.dropLast,StepsFrom]
  refine ⟨?_,?_,?_,?_,?_,?_,?_,?_,?_,?_,?_,?_,?_,?_,?_,?_,?_,?_,trivial⟩
  ·intro bb u hSu hdep hkept K hK
   have e2:bb.tmps.getD 2 undef = .pointer (some ⟨w.heap.size,0,none⟩):=hkept 2 (by kernel_rfl)
   go_simp
   exact hK _ _ hSu (Below.refl _ _) rfl
  ·intro bb u hSu hdep hkept K hK
   have e5:bb.tmps.getD 5 undef = .pointer (some ⟨w.heap.size,0,none⟩):=hdep 0 _ rfl (by kernel_rfl)
   obtain ⟨cc0,cc1,cc2,cc3,cc4,cc5⟩:=HC.out u hSu
   go_simp
   exact hK _ _ hSu (Below.refl _ _) rfl
  ·intro bb u hSu hdep hkept K hK
   have e3:bb.tmps.getD 3 undef = .pointer (some ⟨w.heap.size + 1,0,none⟩):=hkept 3 (by kernel_rfl)
   go_simp
   exact hK _ _ hSu (Below.refl _ _) rfl
  ·intro bb u hSu hdep hkept K hK
   have e7:bb.tmps.getD 7 undef = .pointer (some ⟨w.heap.size + 1,0,none⟩):=hdep 2 _ rfl (by kernel_rfl)
   obtain ⟨cc0,cc1,cc2,cc3,cc4,cc5⟩:=HC.out u hSu
   go_simp
   exact hK _ _ hSu (Below.refl _ _) rfl
  ·intro bb u hSu hdep hkept K hK
   have e6:bb.tmps.getD 6 undef = .bool xn:=hdep 1 _ rfl (by kernel_rfl)
   have e8:bb.tmps.getD 8 undef = .bool yn:=hdep 3 _ rfl (by kernel_rfl)
   go_simp
   exact hK _ _ hSu (Below.refl _ _) rfl
  ·intro bb u hSu hdep hkept K hK
   have e2:bb.tmps.getD 2 undef = .pointer (some ⟨w.heap.size,0,none⟩):=hkept 2 (by kernel_rfl)
   go_simp
   exact hK _ _ hSu (Below.refl _ _) rfl
  ·intro bb u hSu hdep hkept K hK
   have e10:bb.tmps.getD 10 undef = .pointer (some ⟨w.heap.size,1,none⟩):=hdep 5 _ rfl (by kernel_rfl)
   obtain ⟨cc0,cc1,cc2,cc3,cc4,cc5⟩:=HC.out u hSu
   go_simp
   exact hK _ _ hSu (Below.refl _ _) rfl
  ·intro bb u hSu hdep hkept K hK
   have e11:bb.tmps.getD 11 undef = .slice xA xN.length xc:=hdep 6 _ rfl (by kernel_rfl)
   go_simp
   refine (Tx.out u hSu).mono ?_
   rintro e w' ⟨rfl,rfl⟩
   go_simp
   exact hK _ _ hSu (Below.refl _ _) rfl
  ·intro bb u hSu hdep hkept K hK
   have e3:bb.tmps.getD 3 undef = .pointer (some ⟨w.heap.size + 1,0,none⟩):=hkept 3 (by kernel_rfl)
   go_simp
   exact hK _ _ hSu (Below.refl _ _) rfl
  ·intro bb u hSu hdep hkept K hK
   have e13:bb.tmps.getD 13 undef = .pointer (some ⟨w.heap.size + 1,1,none⟩):=hdep 8 _ rfl (by kernel_rfl)
   obtain ⟨cc0,cc1,cc2,cc3,cc4,cc5⟩:=HC.out u hSu
   go_simp
   exact hK _ _ hSu (Below.refl _ _) rfl
  ·intro bb u hSu hdep hkept K hK
   have e14:bb.tmps.getD 14 undef = .slice yA yN.length yc:=hdep 9 _ rfl (by kernel_rfl)
   go_simp
   refine (Ty.out u hSu).mono ?_
   rintro e w' ⟨rfl,rfl⟩
   go_simp
   exact hK _ _ hSu (Below.refl _ _) rfl
  ·intro bb u hSu hdep hkept K hK
   have e12:bb.tmps.getD 12 undef = .slice xA (nd x1).length xc:=hdep 7 _ rfl (by kernel_rfl)
   have e15:bb.tmps.getD 15 undef = .slice yA (nd y1).length yc:=hdep 10 _ rfl (by kernel_rfl)
   go_simp
   refine (times_any xA yA xc yc (nd (x1)) (nd (y1)) u (Dx.out u hSu).lies (Dy.out u hSu).lies (zH (dgs_nd _)) (zH (dgs_nd _)) (by omega) (by omega) ((x1) * (y1)) (zH (by rw [vl_nd,vl_nd];simp))).mono ?_
   rintro e w' ⟨A,c,rfl,h1,h2,h3,h4⟩
   go_simp
   exact hK _ _ (hSu.trans (h4.mono hSu.size)) h4 ⟨A,c,rfl,zH (dg_ret h1 h2 h3)⟩
  ·intro bb u hSu hdep hkept K hK
   have e2:bb.tmps.getD 2 undef = .pointer (some ⟨w.heap.size,0,none⟩):=hkept 2 (by kernel_rfl)
   obtain ⟨cc0,cc1,cc2,cc3,cc4,cc5⟩:=HC.out u hSu
   go_simp
   exact hK _ _ hSu (Below.refl _ _) rfl
  ·intro bb u hSu hdep hkept K hK
   have e17:bb.tmps.getD 17 undef = Fr.val ⟨xn,xA,xc,xN,xB,xd,xD⟩:=hdep 12 _ rfl (by kernel_rfl)
   go_simp
   refine (Lx.out u hSu).mono ?_
   rintro e w' ⟨A,c,rfl,h1,h2,h3,h4⟩
   go_simp
   exact hK _ _ (hSu.trans (h4.mono hSu.size)) h4 ⟨A,c,rfl,zH (dg_ret h1 h2 h3)⟩
  ·intro bb u hSu hdep hkept K hK
   have e3:bb.tmps.getD 3 undef = .pointer (some ⟨w.heap.size + 1,0,none⟩):=hkept 3 (by kernel_rfl)
   obtain ⟨cc0,cc1,cc2,cc3,cc4,cc5⟩:=HC.out u hSu
   go_simp
   exact hK _ _ hSu (Below.refl _ _) rfl
  ·intro bb u hSu hdep hkept K hK
   have e19:bb.tmps.getD 19 undef = Fr.val ⟨yn,yA,yc,yN,yB,yd,yD⟩:=hdep 14 _ rfl (by kernel_rfl)
   go_simp
   refine (Ly.out u hSu).mono ?_
   rintro e w' ⟨A,c,rfl,h1,h2,h3,h4⟩
   go_simp
   exact hK _ _ (hSu.trans (h4.mono hSu.size)) h4 ⟨A,c,rfl,zH (dg_ret h1 h2 h3)⟩
  ·intro bb u hSu hdep hkept K hK
   obtain ⟨A18,c18,e18,D18⟩:∃ A c,bb.tmps.getD 18 undef = .slice A (nd (x2)).length c /\ Hid (Dg u A c (nd (x2))):=hdep 13 _ rfl (by kernel_rfl)
   obtain ⟨A20,c20,e20,D20⟩:∃ A c,bb.tmps.getD 20 undef = .slice A (nd (y2)).length c /\ Hid (Dg u A c (nd (y2))):=hdep 15 _ rfl (by kernel_rfl)
   go_simp
   refine (times_any A18 A20 c18 c20 (nd (x2)) (nd (y2)) u D18.out.lies D20.out.lies (zH (dgs_nd _)) (zH (dgs_nd _)) (by omega) (by omega) ((x2) * (y2)) (zH (by rw [vl_nd,vl_nd];simp))).mono ?_
   rintro e w' ⟨A,c,rfl,h1,h2,h3,h4⟩
   go_simp
   exact hK _ _ (hSu.trans (h4.mono hSu.size)) h4 ⟨A,c,rfl,zH (dg_ret h1 h2 h3)⟩
  ·intro bb u hSu hdep hkept K hK
   have e9:bb.tmps.getD 9 undef = .bool (xn != yn):=hdep 4 _ rfl (by kernel_rfl)
   obtain ⟨A16,c16,e16,D16⟩:∃ A c,bb.tmps.getD 16 undef = .slice A (nd ((x1) * (y1))).length c /\ Hid (Dg u A c (nd ((x1) * (y1)))):=hdep 11 _ rfl (by kernel_rfl)
   obtain ⟨A21,c21,e21,D21⟩:∃ A c,bb.tmps.getD 21 undef = .slice A (nd ((x2) * (y2))).length c /\ Hid (Dg u A c (nd ((x2) * (y2)))):=hdep 16 _ rfl (by kernel_rfl)
   go_simp
   refine (make1_any ((xn != yn)) A16 A21 c16 c21 (nd ((x1) * (y1))) (nd ((x2) * (y2))) u D16.out D21.out (by omega) (by omega) ((x1) * (y1)) ((x2) * (y2)) (zH (vl_nd _)) (zH (vl_nd _))).mono ?_
   rintro e w' ⟨r,rfl,hr,h4⟩
   go_simp
   exact hK _ _ (hSu.trans (h4.mono hSu.size)) h4 ⟨r,rfl,zH hr⟩
 ·intro bb u hN hdf hSu hG hsame
  obtain ⟨r,e22,hr⟩:∃ r:Fr,bb.tmps.getD 22 undef = r.val /\ Hid (Fq u r (fq ((xn != yn)) ((x1) * (y1)) ((x2) * (y2)))):=hG 17 _ rfl
  have e4:bb.tmps.getD 4 undef = .pointer (some ⟨w.heap.size + 1 + 1,0,none⟩):=hsame 4 (by kernel_rfl)
  have BX2:=zH (HBX.out.below hSu)
  obtain ⟨c0,c1,c2,f0,f1,f2⟩:=BX2.out.facts
  have HB2:=zH (HB0.out.trans (hSu.mono HB0.out.size))
  clear hSu hG hsame
  rw [frame_lit bb 23 hN]
  simp only [show List.range 23 = [0,1,2,3,4,5,6,7,8,9,10,11,12,13,14,15,16,17,18,19,20,21,22] from rfl,List.map_cons,List.map_nil,e4,e22,hdf]
  clear e4 e22 hN hdf
  generalize bb.tmps.getD 0 undef = z0,bb.tmps.getD 1 undef = z1,bb.tmps.getD 2 undef = z2,bb.tmps.getD 3 undef = z3,bb.tmps.getD 5 undef = z5,bb.tmps.getD 6 undef = z6,bb.tmps.getD 7 undef = z7,bb.tmps.getD 8 undef = z8,bb.tmps.getD 9 undef = z9,bb.tmps.getD 10 undef = z10,bb.tmps.getD 11 undef = z11,bb.tmps.getD 12 undef = z12,bb.tmps.getD 13 undef = z13,bb.tmps.getD 14 undef = z14,bb.tmps.getD 15 undef = z15,bb.tmps.getD 16 undef = z16,bb.tmps.getD 17 undef = z17,bb.tmps.getD 18 undef = z18,bb.tmps.getD 19 undef = z19,bb.tmps.getD 20 undef = z20,bb.tmps.getD 21 undef = z21
  obtain ⟨rn,rA,rc,rN,rB,rd,rD⟩:=r
  refine PopQ.last rfl rfl (fun K hK=>?_)
  go_simp
  refine hK _ _ ?_
  clear hK K
  go_wp2_with fail
  obtain ⟨g0,g1,g2⟩:=box3 (.bool rn) (.slice rA rN.length rc) (.slice rB rD.length rd) c0 c1 c2
  refine bodyPost_ret (v:=.agg #[.bool rn,.slice rA rN.length rc,.slice rB rD.length rd]) (by simp [results,Tryz.results61,go_sem,g0,g1,g2]) rfl ?_
  exact ⟨⟨rn,rA,rc,rN,rB,rd,rD⟩,rfl,(by rw [HE.out];exact fq_boxed hr.out BX2.out _ _ _),below_boxed HB2.out (by omega) _ _ _⟩
theorem rqInv_any (x:Fr) (p:Rat) (w:World) (hx:Fv w x p) (fx:Few x 90000) (p0:p ≠ 0):Calls Tryz.prog 125 #[x.val] w (RetFq p⁻¹ w):=by
 obtain ⟨xn,xA,xc,xN,xB,xd,xD⟩:=x
 obtain ⟨x1,x2,HxE,HxV,HxN0,HxL,Hx0,HxS⟩:=hx.opened fx
 simp only at HxE HxV HxN0 HxL HxS
 have hn0:x1 ≠ 0:=fun e=>p0 (by rw [HxE,e,fq_d Hx0,sg_zero,Rat.zero_mkRat])
 have HE:Hid (p⁻¹ = fq xn x2 x1):=zH (by rw [HxE];exact fq_inv Hx0 hn0)
 clear hx fx HxE
 obtain ⟨W,hW⟩:∃ W:World,W = (w.alloc (.cells #[.bool xn,.slice xA xN.length xc,.slice xB xD.length xd] 28)).alloc (.cells #[.bool false,.slice none 0 0,.slice none 0 0] 28):=⟨_,rfl⟩
 have hs:W.heap.size = w.heap.size + 2:=by rw [hW];simp
 have HB0:Hid (Below w.heap.size w W):=zH (by rw [hW];exact al2 w _ _)
 have HBX:Hid (Bt 28 W (w.heap.size + 1)):=zH (by rw [hW];have:=Bt.new 28 (w.alloc (.cells #[.bool xn,.slice xA xN.length xc,.slice xB xD.length xd] 28));simpa using this)
 have HC:Hid (∀ u,Below W.heap.size W u -> u.cell? ⟨w.heap.size,0,none⟩ = some (.bool xn) /\ u.cell? ⟨w.heap.size,1,none⟩ = some (.slice xA xN.length xc) /\ u.cell? ⟨w.heap.size,2,none⟩ = some (.slice xB xD.length xd)):=zH (fun u hu=>by
  rw [hu.cell (p:=⟨w.heap.size,0,none⟩) (by simp;omega),hu.cell (p:=⟨w.heap.size,1,none⟩) (by simp;omega),hu.cell (p:=⟨w.heap.size,2,none⟩) (by simp;omega),hW]
  simp [go_sem])
 have Tx:Hid (∀ u,Below W.heap.size W u -> Calls Tryz.prog 71 #[.slice xA xN.length xc] u fun e w'=>e = .returned (.slice xA (nd x1).length xc) /\ u = w'):=zH (fun u hu=>HxV.out u (HB0.out.trans (hu.mono HB0.out.size)))
 have Lx:Hid (∀ u,Below W.heap.size W u -> Calls Tryz.prog 121 #[Fr.val ⟨xn,xA,xc,xN,xB,xd,xD⟩] u (RetNd x2 u)):=zH (fun u hu=>HxL.out u (HB0.out.trans (hu.mono HB0.out.size)))
 have Dx:Hid (∀ u,Below W.heap.size W u -> Dg u xA xc (nd x1)):=zH (fun u hu=>HxN0.out u (HB0.out.trans (hu.mono HB0.out.size)))
 clear HxV HxL HxN0
 go_enter Tryz.func125,Tryz.ntmps125
 go_wp2_with fail
 rw [<- hW]
 clear hW
 refine wp_region_slots_pop 8 11 rfl (by kernel_rfl) (by kernel_rfl) (by kernel_rfl) (by kernel_rfl) (fun u=>Below W.heap.size W u) (fun u u'=>Below u.heap.size u u') (Gl [isV (.pointer (some ⟨w.heap.size,0,none⟩)),isV (.bool xn),isV (Fr.val ⟨xn,xA,xc,xN,xB,xd,xD⟩),isNd (x2),isV (.pointer (some ⟨w.heap.size,1,none⟩)),isV (.slice xA xN.length xc),isV (.slice xA (nd x1).length xc),isFq (fq (xn) (x2) (x1))]) (Gl.keep (by
   intro p hp
   simp only [List.mem_cons,List.not_mem_nil,or_false] at hp
   rcases hp with rfl | rfl | rfl | rfl | rfl | rfl | rfl | rfl
   ·exact Keeps.isV _
   ·exact Keeps.isV _
   ·exact Keeps.isV _
   ·exact Keeps.isNd _
   ·exact Keeps.isV _
   ·exact Keeps.isV _
   ·exact Keeps.isV _
   ·exact Keeps.isFq _)) ?_ ?_ ?_
 ·exact (Below.refl _ W).drew
 ·simp only [List.pop_toArray,List.dropLast,StepsFrom]
  refine ⟨?_,?_,?_,?_,?_,?_,?_,?_,trivial⟩
  ·intro bb u hSu hdep hkept K hK
   have e1:bb.tmps.getD 1 undef = .pointer (some ⟨w.heap.size,0,none⟩):=hkept 1 (by kernel_rfl)
   go_simp
   exact hK _ _ hSu (Below.refl _ _) rfl
  ·intro bb u hSu hdep hkept K hK
   have e3:bb.tmps.getD 3 undef = .pointer (some ⟨w.heap.size,0,none⟩):=hdep 0 _ rfl (by kernel_rfl)
   obtain ⟨cc0,cc1,cc2⟩:=HC.out u hSu
   go_simp
   exact hK _ _ hSu (Below.refl _ _) rfl
  ·intro bb u hSu hdep hkept K hK
   have e1:bb.tmps.getD 1 undef = .pointer (some ⟨w.heap.size,0,none⟩):=hkept 1 (by kernel_rfl)
   obtain ⟨cc0,cc1,cc2⟩:=HC.out u hSu
   go_simp
   exact hK _ _ hSu (Below.refl _ _) rfl
  ·intro bb u hSu hdep hkept K hK
   have e5:bb.tmps.getD 5 undef = Fr.val ⟨xn,xA,xc,xN,xB,xd,xD⟩:=hdep 2 _ rfl (by kernel_rfl)
   go_simp
   refine (Lx.out u hSu).mono ?_
   rintro e w' ⟨A,c,rfl,h1,h2,h3,h4⟩
   go_simp
   exact hK _ _ (hSu.trans (h4.mono hSu.size)) h4 ⟨A,c,rfl,zH (dg_ret h1 h2 h3)⟩
  ·intro bb u hSu hdep hkept K hK
   have e1:bb.tmps.getD 1 undef = .pointer (some ⟨w.heap.size,0,none⟩):=hkept 1 (by kernel_rfl)
   go_simp
   exact hK _ _ hSu (Below.refl _ _) rfl
  ·intro bb u hSu hdep hkept K hK
   have e7:bb.tmps.getD 7 undef = .pointer (some ⟨w.heap.size,1,none⟩):=hdep 4 _ rfl (by kernel_rfl)
   obtain ⟨cc0,cc1,cc2⟩:=HC.out u hSu
   go_simp
   exact hK _ _ hSu (Below.refl _ _) rfl
  ·intro bb u hSu hdep hkept K hK
   have e8:bb.tmps.getD 8 undef = .slice xA xN.length xc:=hdep 5 _ rfl (by kernel_rfl)
   go_simp
   refine (Tx.out u hSu).mono ?_
   rintro e w' ⟨rfl,rfl⟩
   go_simp
   exact hK _ _ hSu (Below.refl _ _) rfl
  ·intro bb u hSu hdep hkept K hK
   have e4:bb.tmps.getD 4 undef = .bool xn:=hdep 1 _ rfl (by kernel_rfl)
   obtain ⟨A6,c6,e6,D6⟩:∃ A c,bb.tmps.getD 6 undef = .slice A (nd (x2)).length c /\ Hid (Dg u A c (nd (x2))):=hdep 3 _ rfl (by kernel_rfl)
   have e9:bb.tmps.getD 9 undef = .slice xA (nd x1).length xc:=hdep 6 _ rfl (by kernel_rfl)
   go_simp
   refine (make1_any (xn) A6 xA c6 xc (nd (x2)) (nd (x1)) u D6.out (Dx.out u hSu) (by omega) (by omega) (x2) (x1) (zH (vl_nd _)) (zH (vl_nd _))).mono ?_
   rintro e w' ⟨r,rfl,hr,h4⟩
   go_simp
   exact hK _ _ (hSu.trans (h4.mono hSu.size)) h4 ⟨r,rfl,zH hr⟩
 ·intro bb u hN hdf hSu hG hsame
  obtain ⟨r,e10,hr⟩:∃ r:Fr,bb.tmps.getD 10 undef = r.val /\ Hid (Fq u r (fq (xn) (x2) (x1))):=hG 7 _ rfl
  have e2:bb.tmps.getD 2 undef = .pointer (some ⟨w.heap.size + 1,0,none⟩):=hsame 2 (by kernel_rfl)
  have BX2:=zH (HBX.out.below hSu)
  obtain ⟨c0,c1,c2,f0,f1,f2⟩:=BX2.out.facts
  have HB2:=zH (HB0.out.trans (hSu.mono HB0.out.size))
  clear hSu hG hsame
  rw [frame_lit bb 11 hN]
  simp only [show List.range 11 = [0,1,2,3,4,5,6,7,8,9,10] from rfl,List.map_cons,List.map_nil,e2,e10,hdf]
  clear e2 e10 hN hdf
  generalize bb.tmps.getD 0 undef = z0,bb.tmps.getD 1 undef = z1,bb.tmps.getD 3 undef = z3,bb.tmps.getD 4 undef = z4,bb.tmps.getD 5 undef = z5,bb.tmps.getD 6 undef = z6,bb.tmps.getD 7 undef = z7,bb.tmps.getD 8 undef = z8,bb.tmps.getD 9 undef = z9
  obtain ⟨rn,rA,rc,rN,rB,rd,rD⟩:=r
  refine PopQ.last rfl rfl (fun K hK=>?_)
  go_simp
  refine hK _ _ ?_
  clear hK K
  go_wp2_with fail
  obtain ⟨g0,g1,g2⟩:=box3 (.bool rn) (.slice rA rN.length rc) (.slice rB rD.length rd) c0 c1 c2
  refine bodyPost_ret (v:=.agg #[.bool rn,.slice rA rN.length rc,.slice rB rD.length rd]) (by simp [results,Tryz.results125,go_sem,g0,g1,g2]) rfl ?_
  exact ⟨⟨rn,rA,rc,rN,rB,rd,rD⟩,rfl,(by rw [HE.out];exact fq_boxed hr.out BX2.out _ _ _),below_boxed HB2.out (by omega) _ _ _⟩
end Go.Proofs.YtcjicjfbippmnaaGreat
