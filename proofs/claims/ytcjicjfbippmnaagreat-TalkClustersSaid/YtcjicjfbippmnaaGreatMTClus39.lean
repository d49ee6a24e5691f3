/- TalkClusters -/
import Derived.Test.YtcjicjfbippmnaaGreatMTClus16
set_option maxRecDepth 100000
set_option maxHeartbeats 32000000
namespace Go.Proofs.YtcjicjfbippmnaaGreat
open Go.RowKit Ear
set_option linter.unusedVariables false

theorem Fv.opened {w:World} {x:Fr} {q:Rat} (h:Fv w x q) (hf:Few x 90000):∃ n d:Nat,q = fq x.neg n d /\ Hid (∀ u,Below w.heap.size w u -> Calls Tryz.prog 71 #[.slice x.A x.N.length x.c] u fun e w'=>e = .returned (.slice x.A (nd n).length x.c) /\ u = w') /\ Hid (∀ u,Below w.heap.size w u -> Dg u x.A x.c (nd n)) /\ Hid (∀ u,Below w.heap.size w u -> Calls Tryz.prog 121 #[x.val] u (XN d u)) /\ d ≠ 0 /\ (nd n).length <= 90000 /\ (nd d).length <= 90000:=by
 have hn0:=Jv h.n.dig;have hd0:=Jv h.d.dig;obtain ⟨n,hn⟩:∃ n:Nat,vl x.N = (n:Int):=⟨(vl x.N).toNat,by omega⟩;obtain ⟨v,hv⟩:∃ v:Nat,vl x.D = (v:Int):=⟨(vl x.D).toNat,by omega⟩;refine ⟨n,if v = 0 then 1 else v,?_,zH (fun u hu=>?_),zH (fun u hu=>?_),zH (fun u hu=>?_),?_,?_,?_⟩
 ·rw [<- h.val,hn,hv,Int.toNat_natCast,Int.toNat_natCast];split
  ·subst_vars;rfl
  ·rfl
 ·have hb:=h.n.below hu;exact JJ x.A x.c x.N u hb.lies (zH hb.dig) hb.cap (by have:=hf.n;omega) n (zH hn)
 ·exact (h.n.below hu).nd hn
 ·exact ZgV x u ⟨h.n.below hu,h.d.below hu⟩ (by have:=hf.d;omega) v (zH hv)
 ·split <;> omega
 ·exact tR (JC h.n.dig hn) hf.n
 ·split
  ·rw [Yy];decide
  ·exact tR (JC h.d.dig hv) hf.d
theorem Uv (x y:Fr) (p q:Rat) (w:World) (hx:Fv w x p) (hy:Fv w y q) (fx:Few x 90000) (fy:Few y 90000):Calls Tryz.prog 61 #[x.val,y.val] w (Yr (p * q) w):=by
 obtain ⟨xn,xA,xc,xN,xB,xd,xD⟩:=x;obtain ⟨x1,x2,HxE,HxV,HxN0,HxL,Hx0,HxS⟩:=hx.opened fx;simp only at HxE HxV HxN0 HxL HxS;obtain ⟨yn,yA,yc,yN,yB,yd,yD⟩:=y;obtain ⟨y1,y2,HyE,HyV,HyN0,HyL,Hy0,HyS⟩:=hy.opened fy;simp only at HyE HyV HyN0 HyL HyS;have HE:Hid (p * q = fq (xn != yn) (x1 * y1) (x2 * y2)):=zH (by rw [HxE,HyE];exact Zcq Hx0 Hy0);have l1:=JH x1 y1;have l2:=JH x2 y2;clear hx hy fx fy HxE HyE;obtain ⟨W,hW⟩:∃ W:World,W = ((w.alloc (.cells #[.bool xn,.slice xA xN.length xc,.slice xB xD.length xd] 28)).alloc (.cells #[.bool yn,.slice yA yN.length yc,.slice yB yD.length yd] 28)).alloc (.cells #[.bool false,.slice none 0 0,.slice none 0 0] 28):=⟨_,rfl⟩;have hs:W.heap.size = w.heap.size + 3:=by rw [hW];simp
 have HB0:Hid (Below w.heap.size w W):=zH (by rw [hW];exact (al2 w _ _).alloc (by simp;omega) _);have HBX:Hid (Bt 28 W (w.heap.size + 1 + 1)):=zH (by rw [hW];have:=Bt.new 28 ((w.alloc (.cells #[.bool xn,.slice xA xN.length xc,.slice xB xD.length xd] 28)).alloc (.cells #[.bool yn,.slice yA yN.length yc,.slice yB yD.length yd] 28));simpa using this);have HC:Hid (∀ u,Below W.heap.size W u -> u.cell? ⟨w.heap.size,0,none⟩ = some (.bool xn) /\ u.cell? ⟨w.heap.size,1,none⟩ = some (.slice xA xN.length xc) /\ u.cell? ⟨w.heap.size,2,none⟩ = some (.slice xB xD.length xd) /\ u.cell? ⟨w.heap.size + 1,0,none⟩ = some (.bool yn) /\ u.cell? ⟨w.heap.size + 1,1,none⟩ = some (.slice yA yN.length yc) /\ u.cell? ⟨w.heap.size + 1,2,none⟩ = some (.slice yB yD.length yd)):=zH (fun u hu=>by
  rw [hu.cell (p:=⟨w.heap.size,0,none⟩) (by simp;omega),hu.cell (p:=⟨w.heap.size,1,none⟩) (by simp;omega),hu.cell (p:=⟨w.heap.size,2,none⟩) (by simp;omega),hu.cell (p:=⟨w.heap.size + 1,0,none⟩) (by simp;omega),hu.cell (p:=⟨w.heap.size + 1,1,none⟩) (by simp;omega),hu.cell (p:=⟨w.heap.size + 1,2,none⟩) (by simp;omega),hW];simp [go_sem])
 have Tx:Hid (∀ u,Below W.heap.size W u -> Calls Tryz.prog 71 #[.slice xA xN.length xc] u fun e w'=>e = .returned (.slice xA (nd x1).length xc) /\ u = w'):=zH (fun u hu=>HxV.out u (HB0.out.trans (hu.mono HB0.out.size)));have Lx:Hid (∀ u,Below W.heap.size W u -> Calls Tryz.prog 121 #[Fr.val ⟨xn,xA,xc,xN,xB,xd,xD⟩] u (XN x2 u)):=zH (fun u hu=>HxL.out u (HB0.out.trans (hu.mono HB0.out.size)));have Dx:Hid (∀ u,Below W.heap.size W u -> Dg u xA xc (nd x1)):=zH (fun u hu=>HxN0.out u (HB0.out.trans (hu.mono HB0.out.size)));have Ty:Hid (∀ u,Below W.heap.size W u -> Calls Tryz.prog 71 #[.slice yA yN.length yc] u fun e w'=>e = .returned (.slice yA (nd y1).length yc) /\ u = w'):=zH (fun u hu=>HyV.out u (HB0.out.trans (hu.mono HB0.out.size)));have Ly:Hid (∀ u,Below W.heap.size W u -> Calls Tryz.prog 121 #[Fr.val ⟨yn,yA,yc,yN,yB,yd,yD⟩] u (XN y2 u)):=zH (fun u hu=>HyL.out u (HB0.out.trans (hu.mono HB0.out.size)));have Dy:Hid (∀ u,Below W.heap.size W u -> Dg u yA yc (nd y1)):=zH (fun u hu=>HyN0.out u (HB0.out.trans (hu.mono HB0.out.size)));clear HxV HxL HxN0;clear HyV HyL HyN0;go_enter Tryz.func61,Tryz.ntmps61;go_wp2_with fail;rw [<- hW];clear hW;refine Jd 18 23 rfl (by kernel_rfl) (by kernel_rfl) (by kernel_rfl) (by kernel_rfl) (fun u=>Below W.heap.size W u) (fun u u'=>Below u.heap.size u u') (Gl [isV (.pointer (some ⟨w.heap.size,0,none⟩)),isV (.bool xn),isV (.pointer (some ⟨w.heap.size + 1,0,none⟩)),isV (.bool yn),isV (.bool (xn != yn)),isV (.pointer (some ⟨w.heap.size,1,none⟩)),isV (.slice xA xN.length xc),isV (.slice xA (nd x1).length xc),isV (.pointer (some ⟨w.heap.size + 1,1,none⟩)),isV (.slice yA yN.length yc),isV (.slice yA (nd y1).length yc),isNd ((x1) * (y1)),isV (Fr.val ⟨xn,xA,xc,xN,xB,xd,xD⟩),isNd (x2),isV (Fr.val ⟨yn,yA,yc,yN,yB,yd,yD⟩),isNd (y2),isNd ((x2) * (y2)),isFq (fq ((xn != yn)) ((x1) * (y1)) ((x2) * (y2)))]) (Gl.keep (by
   intro p hp;simp only [List.mem_cons,List.not_mem_nil,or_false] at hp;rcases hp with rfl | rfl | rfl | rfl | rfl | rfl | rfl | rfl | rfl | rfl | rfl | rfl | rfl | rfl | rfl | rfl | rfl | rfl
   ·exact Keeps.isV _
   ·exact Keeps.isV _
   ·exact Keeps.isV _
   ·exact Keeps.isV _
   ·exact Keeps.isV _
   ·exact Keeps.isV _
   ·exact Keeps.isV _
   ·exact Keeps.isV _
   ·exact Keeps.isV _
   ·exact Keeps.isV _
   ·exact Keeps.isV _
   ·exact Keeps.isNd _
   ·exact Keeps.isV _
   ·exact Keeps.isNd _
   ·exact Keeps.isV _
   ·exact Keeps.isNd _
   ·exact Keeps.isNd _
   ·exact Keeps.isFq _)) ?_ ?_ ?_
 ·exact (Below.refl _ W).drew
 ·simp only [List.pop_toArray,List.dropLast,Jm];refine ⟨?_,?_,?_,?_,?_,?_,?_,?_,?_,?_,?_,?_,?_,?_,?_,?_,?_,?_,trivial⟩
  ·intro bb u su dp kp K hK;have e2:gT bb 2 = .pointer (some ⟨w.heap.size,0,none⟩):=kp 2 (by kernel_rfl);go_simp;exact hK _ _ su bR rfl
  ·intro bb u su dp kp K hK;have e5:gT bb 5 = .pointer (some ⟨w.heap.size,0,none⟩):=dp 0 _ rfl (by kernel_rfl);obtain ⟨cc0,cc1,cc2,cc3,cc4,cc5⟩:=HC.out u su;go_simp;exact hK _ _ su bR rfl
  ·intro bb u su dp kp K hK;have e3:gT bb 3 = .pointer (some ⟨w.heap.size + 1,0,none⟩):=kp 3 (by kernel_rfl);go_simp;exact hK _ _ su bR rfl
  ·intro bb u su dp kp K hK;have e7:gT bb 7 = .pointer (some ⟨w.heap.size + 1,0,none⟩):=dp 2 _ rfl (by kernel_rfl);obtain ⟨cc0,cc1,cc2,cc3,cc4,cc5⟩:=HC.out u su;go_simp;exact hK _ _ su bR rfl
  ·intro bb u su dp kp K hK;have e6:gT bb 6 = .bool xn:=dp 1 _ rfl (by kernel_rfl);have e8:gT bb 8 = .bool yn:=dp 3 _ rfl (by kernel_rfl);go_simp;exact hK _ _ su bR rfl
  ·intro bb u su dp kp K hK;have e2:gT bb 2 = .pointer (some ⟨w.heap.size,0,none⟩):=kp 2 (by kernel_rfl);go_simp;exact hK _ _ su bR rfl
  ·intro bb u su dp kp K hK;have e10:gT bb 10 = .pointer (some ⟨w.heap.size,1,none⟩):=dp 5 _ rfl (by kernel_rfl);obtain ⟨cc0,cc1,cc2,cc3,cc4,cc5⟩:=HC.out u su;go_simp;exact hK _ _ su bR rfl
  ·intro bb u su dp kp K hK;have e11:gT bb 11 = .slice xA xN.length xc:=dp 6 _ rfl (by kernel_rfl);go_simp;refine (Tx.out u su).mono ?_;rintro e w' ⟨rfl,rfl⟩;go_simp;exact hK _ _ su bR rfl
  ·intro bb u su dp kp K hK;have e3:gT bb 3 = .pointer (some ⟨w.heap.size + 1,0,none⟩):=kp 3 (by kernel_rfl);go_simp;exact hK _ _ su bR rfl
  ·intro bb u su dp kp K hK;have e13:gT bb 13 = .pointer (some ⟨w.heap.size + 1,1,none⟩):=dp 8 _ rfl (by kernel_rfl);obtain ⟨cc0,cc1,cc2,cc3,cc4,cc5⟩:=HC.out u su;go_simp;exact hK _ _ su bR rfl
  ·intro bb u su dp kp K hK;have e14:gT bb 14 = .slice yA yN.length yc:=dp 9 _ rfl (by kernel_rfl);go_simp;refine (Ty.out u su).mono ?_;rintro e w' ⟨rfl,rfl⟩;go_simp;exact hK _ _ su bR rfl
  ·intro bb u su dp kp K hK;have e12:gT bb 12 = .slice xA (nd x1).length xc:=dp 7 _ rfl (by kernel_rfl);have e15:gT bb 15 = .slice yA (nd y1).length yc:=dp 10 _ rfl (by kernel_rfl);go_simp;refine (Zb xA yA xc yc (nd (x1)) (nd (y1)) u (Dx.out u su).lies (Dy.out u su).lies (zH (Jw _)) (zH (Jw _)) (by omega) (by omega) ((x1) * (y1)) (zH (by rw [Jp,Jp];simp))).mono ?_;rintro e w' ⟨A,c,rfl,h1,h2,h3,h4⟩;go_simp;exact hK _ _ (su.trans (h4.mono su.size)) h4 ⟨A,c,rfl,zH (Jt h1 h2 h3)⟩
  ·intro bb u su dp kp K hK;have e2:gT bb 2 = .pointer (some ⟨w.heap.size,0,none⟩):=kp 2 (by kernel_rfl);obtain ⟨cc0,cc1,cc2,cc3,cc4,cc5⟩:=HC.out u su;go_simp;exact hK _ _ su bR rfl
  ·intro bb u su dp kp K hK;have e17:gT bb 17 = Fr.val ⟨xn,xA,xc,xN,xB,xd,xD⟩:=dp 12 _ rfl (by kernel_rfl);go_simp;refine (Lx.out u su).mono ?_;rintro e w' ⟨A,c,rfl,h1,h2,h3,h4⟩;go_simp;exact hK _ _ (su.trans (h4.mono su.size)) h4 ⟨A,c,rfl,zH (Jt h1 h2 h3)⟩
  ·intro bb u su dp kp K hK;have e3:gT bb 3 = .pointer (some ⟨w.heap.size + 1,0,none⟩):=kp 3 (by kernel_rfl);obtain ⟨cc0,cc1,cc2,cc3,cc4,cc5⟩:=HC.out u su;go_simp;exact hK _ _ su bR rfl
  ·intro bb u su dp kp K hK;have e19:gT bb 19 = Fr.val ⟨yn,yA,yc,yN,yB,yd,yD⟩:=dp 14 _ rfl (by kernel_rfl);go_simp;refine (Ly.out u su).mono ?_;rintro e w' ⟨A,c,rfl,h1,h2,h3,h4⟩;go_simp;exact hK _ _ (su.trans (h4.mono su.size)) h4 ⟨A,c,rfl,zH (Jt h1 h2 h3)⟩
  ·intro bb u su dp kp K hK;obtain ⟨A18,c18,e18,D18⟩:∃ A c,gT bb 18 = .slice A (nd (x2)).length c /\ Hid (Dg u A c (nd (x2))):=dp 13 _ rfl (by kernel_rfl);obtain ⟨A20,c20,e20,D20⟩:∃ A c,gT bb 20 = .slice A (nd (y2)).length c /\ Hid (Dg u A c (nd (y2))):=dp 15 _ rfl (by kernel_rfl);go_simp;refine (Zb A18 A20 c18 c20 (nd (x2)) (nd (y2)) u D18.out.lies D20.out.lies (zH (Jw _)) (zH (Jw _)) (by omega) (by omega) ((x2) * (y2)) (zH (by rw [Jp,Jp];simp))).mono ?_;rintro e w' ⟨A,c,rfl,h1,h2,h3,h4⟩;go_simp;exact hK _ _ (su.trans (h4.mono su.size)) h4 ⟨A,c,rfl,zH (Jt h1 h2 h3)⟩
  ·intro bb u su dp kp K hK;have e9:gT bb 9 = .bool (xn != yn):=dp 4 _ rfl (by kernel_rfl);obtain ⟨A16,c16,e16,D16⟩:∃ A c,gT bb 16 = .slice A (nd ((x1) * (y1))).length c /\ Hid (Dg u A c (nd ((x1) * (y1)))):=dp 11 _ rfl (by kernel_rfl);obtain ⟨A21,c21,e21,D21⟩:∃ A c,gT bb 21 = .slice A (nd ((x2) * (y2))).length c /\ Hid (Dg u A c (nd ((x2) * (y2)))):=dp 16 _ rfl (by kernel_rfl);go_simp;refine (Yk ((xn != yn)) A16 A21 c16 c21 (nd ((x1) * (y1))) (nd ((x2) * (y2))) u D16.out D21.out (by omega) (by omega) ((x1) * (y1)) ((x2) * (y2)) (zH (Jp _)) (zH (Jp _))).mono ?_;rintro e w' ⟨r,rfl,hr,h4⟩;go_simp;exact hK _ _ (su.trans (h4.mono su.size)) h4 ⟨r,rfl,zH hr⟩
 ·intro bb u hN hdf su hG sm;obtain ⟨r,e22,hr⟩:∃ r:Fr,gT bb 22 = r.val /\ Hid (Fq u r (fq ((xn != yn)) ((x1) * (y1)) ((x2) * (y2)))):=hG 17 _ rfl;have e4:gT bb 4 = .pointer (some ⟨w.heap.size + 1 + 1,0,none⟩):=sm 4 (by kernel_rfl);have BX2:=zH (HBX.out.below su);obtain ⟨c0,c1,c2,f0,f1,f2⟩:=BX2.out.facts;have HB2:=zH (HB0.out.trans (su.mono HB0.out.size));clear su hG sm;rw [JF bb 23 hN];simp only [show List.range 23 = [0,1,2,3,4,5,6,7,8,9,10,11,12,13,14,15,16,17,18,19,20,21,22] from rfl,List.map_cons,List.map_nil,e4,e22,hdf];clear e4 e22 hN hdf;generalize gT bb 0 = z0,gT bb 1 = z1,gT bb 2 = z2,gT bb 3 = z3,gT bb 5 = z5,gT bb 6 = z6,gT bb 7 = z7,gT bb 8 = z8,gT bb 9 = z9,gT bb 10 = z10,gT bb 11 = z11,gT bb 12 = z12,gT bb 13 = z13,gT bb 14 = z14,gT bb 15 = z15,gT bb 16 = z16,gT bb 17 = z17,gT bb 18 = z18,gT bb 19 = z19,gT bb 20 = z20,gT bb 21 = z21;obtain ⟨rn,rA,rc,rN,rB,rd,rD⟩:=r;refine PopQ.last rfl rfl (fun K hK=>?_);go_simp;refine hK _ _ ?_;clear hK K;go_wp2_with fail;obtain ⟨g0,g1,g2⟩:=Y1 (.bool rn) (.slice rA rN.length rc) (.slice rB rD.length rd) c0 c1 c2;refine bodyPost_ret (v:=.agg #[.bool rn,.slice rA rN.length rc,.slice rB rD.length rd]) (by simp [results,Tryz.results61,go_sem,g0,g1,g2]) rfl ?_;exact ⟨⟨rn,rA,rc,rN,rB,rd,rD⟩,rfl,(by rw [HE.out];exact JI hr.out BX2.out _ _ _),Je HB2.out (by omega) _ _ _⟩
theorem ZdI (x:Fr) (p:Rat) (w:World) (hx:Fv w x p) (fx:Few x 90000) (p0:p ≠ 0):Calls Tryz.prog 125 #[x.val] w (Yr p⁻¹ w):=by
 obtain ⟨xn,xA,xc,xN,xB,xd,xD⟩:=x;obtain ⟨x1,x2,HxE,HxV,HxN0,HxL,Hx0,HxS⟩:=hx.opened fx;simp only at HxE HxV HxN0 HxL HxS;have hn0:x1 ≠ 0:=fun e=>p0 (by rw [HxE,e,Zdl Hx0,ZgL,Rat.zero_mkRat]);have HE:Hid (p⁻¹ = fq xn x2 x1):=zH (by rw [HxE];exact Zgq Hx0 hn0);clear hx fx HxE;obtain ⟨W,hW⟩:∃ W:World,W = (w.alloc (.cells #[.bool xn,.slice xA xN.length xc,.slice xB xD.length xd] 28)).alloc (.cells #[.bool false,.slice none 0 0,.slice none 0 0] 28):=⟨_,rfl⟩;have hs:W.heap.size = w.heap.size + 2:=by rw [hW];simp
 have HB0:Hid (Below w.heap.size w W):=zH (by rw [hW];exact al2 w _ _);have HBX:Hid (Bt 28 W (w.heap.size + 1)):=zH (by rw [hW];have:=Bt.new 28 (w.alloc (.cells #[.bool xn,.slice xA xN.length xc,.slice xB xD.length xd] 28));simpa using this);have HC:Hid (∀ u,Below W.heap.size W u -> u.cell? ⟨w.heap.size,0,none⟩ = some (.bool xn) /\ u.cell? ⟨w.heap.size,1,none⟩ = some (.slice xA xN.length xc) /\ u.cell? ⟨w.heap.size,2,none⟩ = some (.slice xB xD.length xd)):=zH (fun u hu=>by
  rw [hu.cell (p:=⟨w.heap.size,0,none⟩) (by simp;omega),hu.cell (p:=⟨w.heap.size,1,none⟩) (by simp;omega),hu.cell (p:=⟨w.heap.size,2,none⟩) (by simp;omega),hW];simp [go_sem])
 have Tx:Hid (∀ u,Below W.heap.size W u -> Calls Tryz.prog 71 #[.slice xA xN.length xc] u fun e w'=>e = .returned (.slice xA (nd x1).length xc) /\ u = w'):=zH (fun u hu=>HxV.out u (HB0.out.trans (hu.mono HB0.out.size)));have Lx:Hid (∀ u,Below W.heap.size W u -> Calls Tryz.prog 121 #[Fr.val ⟨xn,xA,xc,xN,xB,xd,xD⟩] u (XN x2 u)):=zH (fun u hu=>HxL.out u (HB0.out.trans (hu.mono HB0.out.size)));have Dx:Hid (∀ u,Below W.heap.size W u -> Dg u xA xc (nd x1)):=zH (fun u hu=>HxN0.out u (HB0.out.trans (hu.mono HB0.out.size)));clear HxV HxL HxN0;go_enter Tryz.func125,Tryz.ntmps125;go_wp2_with fail;rw [<- hW];clear hW;refine Jd 8 11 rfl (by kernel_rfl) (by kernel_rfl) (by kernel_rfl) (by kernel_rfl) (fun u=>Below W.heap.size W u) (fun u u'=>Below u.heap.size u u') (Gl [isV (.pointer (some ⟨w.heap.size,0,none⟩)),isV (.bool xn),isV (Fr.val ⟨xn,xA,xc,xN,xB,xd,xD⟩),isNd (x2),isV (.pointer (some ⟨w.heap.size,1,none⟩)),isV (.slice xA xN.length xc),isV (.slice xA (nd x1).length xc),isFq (fq (xn) (x2) (x1))]) (Gl.keep (by
   intro p hp;simp only [List.mem_cons,List.not_mem_nil,or_false] at hp;rcases hp with rfl | rfl | rfl | rfl | rfl | rfl | rfl | rfl
   ·exact Keeps.isV _
   ·exact Keeps.isV _
   ·exact Keeps.isV _
   ·exact Keeps.isNd _
   ·exact Keeps.isV _
   ·exact Keeps.isV _
   ·exact Keeps.isV _
   ·exact Keeps.isFq _)) ?_ ?_ ?_
 ·exact (Below.refl _ W).drew
 ·simp only [List.pop_toArray,List.dropLast,Jm];refine ⟨?_,?_,?_,?_,?_,?_,?_,?_,trivial⟩
  ·intro bb u su dp kp K hK;have e1:gT bb 1 = .pointer (some ⟨w.heap.size,0,none⟩):=kp 1 (by kernel_rfl);go_simp;exact hK _ _ su bR rfl
  ·intro bb u su dp kp K hK;have e3:gT bb 3 = .pointer (some ⟨w.heap.size,0,none⟩):=dp 0 _ rfl (by kernel_rfl);obtain ⟨cc0,cc1,cc2⟩:=HC.out u su;go_simp;exact hK _ _ su bR rfl
  ·intro bb u su dp kp K hK;have e1:gT bb 1 = .pointer (some ⟨w.heap.size,0,none⟩):=kp 1 (by kernel_rfl);obtain ⟨cc0,cc1,cc2⟩:=HC.out u su;go_simp;exact hK _ _ su bR rfl
  ·intro bb u su dp kp K hK;have e5:gT bb 5 = Fr.val ⟨xn,xA,xc,xN,xB,xd,xD⟩:=dp 2 _ rfl (by kernel_rfl);go_simp;refine (Lx.out u su).mono ?_;rintro e w' ⟨A,c,rfl,h1,h2,h3,h4⟩;go_simp;exact hK _ _ (su.trans (h4.mono su.size)) h4 ⟨A,c,rfl,zH (Jt h1 h2 h3)⟩
  ·intro bb u su dp kp K hK;have e1:gT bb 1 = .pointer (some ⟨w.heap.size,0,none⟩):=kp 1 (by kernel_rfl);go_simp;exact hK _ _ su bR rfl
  ·intro bb u su dp kp K hK;have e7:gT bb 7 = .pointer (some ⟨w.heap.size,1,none⟩):=dp 4 _ rfl (by kernel_rfl);obtain ⟨cc0,cc1,cc2⟩:=HC.out u su;go_simp;exact hK _ _ su bR rfl
  ·intro bb u su dp kp K hK;have e8:gT bb 8 = .slice xA xN.length xc:=dp 5 _ rfl (by kernel_rfl);go_simp;refine (Tx.out u su).mono ?_;rintro e w' ⟨rfl,rfl⟩;go_simp;exact hK _ _ su bR rfl
  ·intro bb u su dp kp K hK;have e4:gT bb 4 = .bool xn:=dp 1 _ rfl (by kernel_rfl);obtain ⟨A6,c6,e6,D6⟩:∃ A c,gT bb 6 = .slice A (nd (x2)).length c /\ Hid (Dg u A c (nd (x2))):=dp 3 _ rfl (by kernel_rfl);have e9:gT bb 9 = .slice xA (nd x1).length xc:=dp 6 _ rfl (by kernel_rfl);go_simp;refine (Yk (xn) A6 xA c6 xc (nd (x2)) (nd (x1)) u D6.out (Dx.out u su) (by omega) (by omega) (x2) (x1) (zH (Jp _)) (zH (Jp _))).mono ?_;rintro e w' ⟨r,rfl,hr,h4⟩;go_simp;exact hK _ _ (su.trans (h4.mono su.size)) h4 ⟨r,rfl,zH hr⟩
 ·intro bb u hN hdf su hG sm;obtain ⟨r,e10,hr⟩:∃ r:Fr,gT bb 10 = r.val /\ Hid (Fq u r (fq (xn) (x2) (x1))):=hG 7 _ rfl;have e2:gT bb 2 = .pointer (some ⟨w.heap.size + 1,0,none⟩):=sm 2 (by kernel_rfl);have BX2:=zH (HBX.out.below su);obtain ⟨c0,c1,c2,f0,f1,f2⟩:=BX2.out.facts;have HB2:=zH (HB0.out.trans (su.mono HB0.out.size));clear su hG sm;rw [JF bb 11 hN];simp only [show List.range 11 = [0,1,2,3,4,5,6,7,8,9,10] from rfl,List.map_cons,List.map_nil,e2,e10,hdf];clear e2 e10 hN hdf;generalize gT bb 0 = z0,gT bb 1 = z1,gT bb 3 = z3,gT bb 4 = z4,gT bb 5 = z5,gT bb 6 = z6,gT bb 7 = z7,gT bb 8 = z8,gT bb 9 = z9;obtain ⟨rn,rA,rc,rN,rB,rd,rD⟩:=r;refine PopQ.last rfl rfl (fun K hK=>?_);go_simp;refine hK _ _ ?_;clear hK K;go_wp2_with fail;obtain ⟨g0,g1,g2⟩:=Y1 (.bool rn) (.slice rA rN.length rc) (.slice rB rD.length rd) c0 c1 c2;refine bodyPost_ret (v:=.agg #[.bool rn,.slice rA rN.length rc,.slice rB rD.length rd]) (by simp [results,Tryz.results125,go_sem,g0,g1,g2]) rfl ?_;exact ⟨⟨rn,rA,rc,rN,rB,rd,rD⟩,rfl,(by rw [HE.out];exact JI hr.out BX2.out _ _ _),Je HB2.out (by omega) _ _ _⟩
end Go.Proofs.YtcjicjfbippmnaaGreat
