/- the reference's product of integers -/
import Derived.Test.YtfapmghhmkekaaaDoorRFra
namespace Go.Proofs.YtfapmghhmkekaaaDoor
open Go.RowKit Ear

/-- low of an integer -/
theorem low_z (x : Fr) (z : Int) (w : World) (hx : Fz w x z) : Calls Tryd.prog 119 #[x.val] w (RetNd 1 w) := by
  have := low_any x w hx.ok (by rw [hx.den]; simp) 0 (Lib.hid (by rw [hx.den]; rfl))
  simpa using this
theorem Fz.below' {w W u : World} {x : Fr} {z : Int} (h : Fz w x z) (hu : Below W.heap.size W u) (hW : Below w.heap.size w W) : Fz u x z := h.below (hW.trans (hu.mono hW.size))
theorem sign_mul (a b : Int) : ((decide (a < 0) != decide (b < 0)) && decide (a.natAbs * b.natAbs ≠ 0)) = decide (a * b < 0) := by
  rcases Int.lt_trichotomy a 0 with ha | ha | ha <;> rcases Int.lt_trichotomy b 0 with hb | hb | hb
  · have := Int.mul_pos_of_neg_of_neg ha hb
    simp [ha, hb]; omega
  · subst hb; simp
  · have := Int.mul_neg_of_neg_of_pos ha hb
    have h3 : ¬ b < 0 := by omega
    have c0 : a.natAbs * b.natAbs ≠ 0 := Nat.mul_ne_zero (by omega) (by omega)
    simp [ha, h3, this, c0]
  · subst ha; simp
  · subst ha; simp
  · subst ha; simp
  · have := Int.mul_neg_of_pos_of_neg ha hb
    have h3 : ¬ a < 0 := by omega
    have c0 : a.natAbs * b.natAbs ≠ 0 := Nat.mul_ne_zero (by omega) (by omega)
    simp [hb, h3, this, c0]
  · subst hb; simp
  · have := Int.mul_pos ha hb
    have h3 : ¬ a < 0 := by omega
    have h4 : ¬ b < 0 := by omega
    have h5 : ¬ a * b < 0 := by omega
    simp [h3, h4, h5]
/-- what the slots of the region of Mul hold -/
def mulG (x y : Fr) (a b : Int) (k0 k1 : Nat) : Nat → Value → World → Prop
  | 0, v, _ => v = .pointer (some ⟨k0, 0, none⟩)
  | 1, v, _ => v = .bool x.neg
  | 2, v, _ => v = .pointer (some ⟨k1, 0, none⟩)
  | 3, v, _ => v = .bool y.neg
  | 4, v, _ => v = .bool (x.neg != y.neg)
  | 5, v, _ => v = .pointer (some ⟨k0, 1, none⟩)
  | 6, v, _ => v = .slice x.A x.N.length x.c
  | 7, v, _ => v = .slice x.A (nd a.natAbs).length x.c
  | 8, v, _ => v = .pointer (some ⟨k1, 1, none⟩)
  | 9, v, _ => v = .slice y.A y.N.length y.c
  | 10, v, _ => v = .slice y.A (nd b.natAbs).length y.c
  | 11, v, w => ∃ A c, v = .slice A (nd (a.natAbs * b.natAbs)).length c ∧ Dg w A c (nd (a.natAbs * b.natAbs))
  | 12, v, _ => v = x.val
  | 13, v, w => ∃ A c, v = .slice A (nd 1).length c ∧ Dg w A c (nd 1)
  | 14, v, _ => v = y.val
  | 15, v, w => ∃ A c, v = .slice A (nd 1).length c ∧ Dg w A c (nd 1)
  | 16, v, w => ∃ A c, v = .slice A (nd 1).length c ∧ Dg w A c (nd 1)
  | 17, v, w => ∃ r : Fr, v = r.val ∧ Fz w r (a * b)
  | _, _, _ => True
theorem mulG_keep {x y : Fr} {a b : Int} {k0 k1 : Nat} : ∀ j v w w', mulG x y a b k0 k1 j v w → Below w.heap.size w w' → mulG x y a b k0 k1 j v w' := by
  intro j v w w' h hb
  unfold mulG at *
  split at h <;> first
    | exact h
    | (obtain ⟨A, c, h1, h2⟩ := h; exact ⟨A, c, h1, h2.below hb⟩)
    | (obtain ⟨r, h1, h2⟩ := h; exact ⟨r, h1, h2.below hb⟩)
set_option maxRecDepth 100000 in
set_option maxHeartbeats 4000000 in
theorem rMul_z (x y : Fr) (a b : Int) (w : World) (hx : Fz w x a) (hy : Fz w y b) (ha : (nd a.natAbs).length ≤ 400000) (hb : (nd b.natAbs).length ≤ 400000) :
    Calls Tryd.prog 79 #[x.val, y.val] w (RetFz (a * b) w) := by
  have HX := Lib.hid hx
  have HY := Lib.hid hy
  have NX := Lib.hid hx.num
  have NY := Lib.hid hy.num
  obtain ⟨xn, xA, xc, xN, xB, xd, xD⟩ := x
  obtain ⟨yn, yA, yc, yN, yB, yd, yD⟩ := y
  simp only at NX NY
  clear hx hy
  go_enter Tryd.func79, Tryd.ntmps79
  go_wp2_with fail
  obtain ⟨W, hW⟩ : ∃ W : World, W = ((w.alloc (.cells #[.bool xn, .slice xA xN.length xc, .slice xB xD.length xd] 87)).alloc (.cells #[.bool yn, .slice yA yN.length yc, .slice yB yD.length yd] 87)).alloc (.cells #[.bool false, .slice none 0 0, .slice none 0 0] 87) := ⟨_, rfl⟩
  rw [← hW]
  have hs : W.heap.size = w.heap.size + 3 := by rw [hW]; simp
  have HB0 : Hid (Below w.heap.size w W) := Lib.hid (by rw [hW]; exact ((((Below.refl _ _).alloc (Nat.le_refl _) _).alloc (by simp) _).alloc (by simp; omega) _))
  have HBX : Hid (Bx W (w.heap.size + 1 + 1)) := Lib.hid (by rw [hW]; have := Bx.new ((w.alloc (.cells #[.bool xn, .slice xA xN.length xc, .slice xB xD.length xd] 87)).alloc (.cells #[.bool yn, .slice yA yN.length yc, .slice yB yD.length yd] 87)); simpa using this)
  have HC : Hid (∀ u, Below W.heap.size W u → (u.cell? ⟨w.heap.size, 0, none⟩ = some (.bool xn) ∧ u.cell? ⟨w.heap.size, 1, none⟩ = some (.slice xA xN.length xc) ∧ u.cell? ⟨w.heap.size, 2, none⟩ = some (.slice xB xD.length xd)) ∧ u.cell? ⟨w.heap.size + 1, 0, none⟩ = some (.bool yn) ∧ u.cell? ⟨w.heap.size + 1, 1, none⟩ = some (.slice yA yN.length yc) ∧ u.cell? ⟨w.heap.size + 1, 2, none⟩ = some (.slice yB yD.length yd)) := Lib.hid (fun u hu => by
    rw [hu.cell (p := ⟨w.heap.size, 0, none⟩) (by simp; omega), hu.cell (p := ⟨w.heap.size, 1, none⟩) (by simp; omega), hu.cell (p := ⟨w.heap.size, 2, none⟩) (by simp; omega), hu.cell (p := ⟨w.heap.size + 1, 0, none⟩) (by simp; omega), hu.cell (p := ⟨w.heap.size + 1, 1, none⟩) (by simp; omega), hu.cell (p := ⟨w.heap.size + 1, 2, none⟩) (by simp; omega), hW]
    simp [go_sem])
  have TX : Hid (∀ u, Below W.heap.size W u → Calls Tryd.prog 118 #[.slice xA xN.length xc] u fun e w' => e = .returned (.slice xA (nd a.natAbs).length xc) ∧ u = w') := Lib.hid (fun u hu => trim_any xA xc xN u (HX.out.below' hu HB0.out).ok.n.lies (Lib.hid HX.out.ok.n.dig) HX.out.ok.n.cap (by rw [NX.out]; omega) a.natAbs (Lib.hid (by rw [NX.out]; exact vl_nd _)))
  have TY : Hid (∀ u, Below W.heap.size W u → Calls Tryd.prog 118 #[.slice yA yN.length yc] u fun e w' => e = .returned (.slice yA (nd b.natAbs).length yc) ∧ u = w') := Lib.hid (fun u hu => trim_any yA yc yN u (HY.out.below' hu HB0.out).ok.n.lies (Lib.hid HY.out.ok.n.dig) HY.out.ok.n.cap (by rw [NY.out]; omega) b.natAbs (Lib.hid (by rw [NY.out]; exact vl_nd _)))
  have TM : Hid (∀ u, Below W.heap.size W u → Calls Tryd.prog 117 #[.slice xA (nd a.natAbs).length xc, .slice yA (nd b.natAbs).length yc] u (RetNd (a.natAbs * b.natAbs) u)) := Lib.hid (fun u hu => times_any xA yA xc yc (nd a.natAbs) (nd b.natAbs) u (by have := (HX.out.below' hu HB0.out).ok.n.lies; rwa [NX.out] at this) (by have := (HY.out.below' hu HB0.out).ok.n.lies; rwa [NY.out] at this) (Lib.hid (dgs_nd _)) (Lib.hid (dgs_nd _)) (by omega) (by omega) _ (Lib.hid (by rw [vl_nd, vl_nd]; simp)))
  have ML : Hid ((nd (a.natAbs * b.natAbs)).length ≤ 1000000) := Lib.hid (by have := nd_len_mul a.natAbs b.natAbs; omega)
  have SG : Hid (((xn != yn) && decide (a.natAbs * b.natAbs ≠ 0)) = decide (a * b < 0)) := Lib.hid (by
    have h1 := HX.out.neg
    have h2 := HY.out.neg
    simp only at h1 h2
    rw [h1, h2]
    exact sign_mul a b)
  clear hW
  refine wp_region_slots_pop 18 23 rfl (by kernel_rfl) (by kernel_rfl) (by kernel_rfl) (by kernel_rfl) (fun u => Below W.heap.size W u) (fun u u' => Below u.heap.size u u') (mulG ⟨xn, xA, xc, xN, xB, xd, xD⟩ ⟨yn, yA, yc, yN, yB, yd, yD⟩ a b w.heap.size (w.heap.size + 1)) mulG_keep ?_ ?_ ?_
  · exact (Below.refl _ W).drew
  · simp only [List.pop_toArray, List.dropLast, StepsFrom]
    refine ⟨?_, ?_, ?_, ?_, ?_, ?_, ?_, ?_, ?_, ?_, ?_, ?_, ?_, ?_, ?_, ?_, ?_, ?_, trivial⟩
    · intro bb u hSu hdep hkept K hK
      have e2 : bb.tmps.getD 2 undef = .pointer (some ⟨w.heap.size, 0, none⟩) := hkept 2 (by kernel_rfl)
      go_simp
      exact hK _ _ hSu (Below.refl _ _) rfl
    · intro bb u hSu hdep hkept K hK
      have e5 : bb.tmps.getD 5 undef = .pointer (some ⟨w.heap.size, 0, none⟩) := hdep 0 _ rfl (by kernel_rfl)
      obtain ⟨⟨c0, c1, c2⟩, c3, c4, c5⟩ := HC.out u hSu
      go_simp
      exact hK _ _ hSu (Below.refl _ _) rfl
    · intro bb u hSu hdep hkept K hK
      have e3 : bb.tmps.getD 3 undef = .pointer (some ⟨w.heap.size + 1, 0, none⟩) := hkept 3 (by kernel_rfl)
      go_simp
      exact hK _ _ hSu (Below.refl _ _) rfl
    · intro bb u hSu hdep hkept K hK
      have e7 : bb.tmps.getD 7 undef = .pointer (some ⟨w.heap.size + 1, 0, none⟩) := hdep 2 _ rfl (by kernel_rfl)
      obtain ⟨⟨c0, c1, c2⟩, c3, c4, c5⟩ := HC.out u hSu
      go_simp
      exact hK _ _ hSu (Below.refl _ _) rfl
    · intro bb u hSu hdep hkept K hK
      have e6 : bb.tmps.getD 6 undef = .bool xn := hdep 1 _ rfl (by kernel_rfl)
      have e8 : bb.tmps.getD 8 undef = .bool yn := hdep 3 _ rfl (by kernel_rfl)
      go_simp
      exact hK _ _ hSu (Below.refl _ _) rfl
    · intro bb u hSu hdep hkept K hK
      have e2 : bb.tmps.getD 2 undef = .pointer (some ⟨w.heap.size, 0, none⟩) := hkept 2 (by kernel_rfl)
      go_simp
      exact hK _ _ hSu (Below.refl _ _) rfl
    · intro bb u hSu hdep hkept K hK
      have e10 : bb.tmps.getD 10 undef = .pointer (some ⟨w.heap.size, 1, none⟩) := hdep 5 _ rfl (by kernel_rfl)
      obtain ⟨⟨c0, c1, c2⟩, c3, c4, c5⟩ := HC.out u hSu
      go_simp
      exact hK _ _ hSu (Below.refl _ _) rfl
    · intro bb u hSu hdep hkept K hK
      have e11 : bb.tmps.getD 11 undef = .slice xA xN.length xc := hdep 6 _ rfl (by kernel_rfl)
      go_simp
      refine (TX.out u hSu).mono ?_
      rintro e w' ⟨rfl, rfl⟩
      go_simp
      exact hK _ _ hSu (Below.refl _ _) rfl
    · intro bb u hSu hdep hkept K hK
      have e3 : bb.tmps.getD 3 undef = .pointer (some ⟨w.heap.size + 1, 0, none⟩) := hkept 3 (by kernel_rfl)
      go_simp
      exact hK _ _ hSu (Below.refl _ _) rfl
    · intro bb u hSu hdep hkept K hK
      have e13 : bb.tmps.getD 13 undef = .pointer (some ⟨w.heap.size + 1, 1, none⟩) := hdep 8 _ rfl (by kernel_rfl)
      obtain ⟨⟨c0, c1, c2⟩, c3, c4, c5⟩ := HC.out u hSu
      go_simp
      exact hK _ _ hSu (Below.refl _ _) rfl
    · intro bb u hSu hdep hkept K hK
      have e14 : bb.tmps.getD 14 undef = .slice yA yN.length yc := hdep 9 _ rfl (by kernel_rfl)
      go_simp
      refine (TY.out u hSu).mono ?_
      rintro e w' ⟨rfl, rfl⟩
      go_simp
      exact hK _ _ hSu (Below.refl _ _) rfl
    · intro bb u hSu hdep hkept K hK
      have e12 : bb.tmps.getD 12 undef = .slice xA (nd a.natAbs).length xc := hdep 7 _ rfl (by kernel_rfl)
      have e15 : bb.tmps.getD 15 undef = .slice yA (nd b.natAbs).length yc := hdep 10 _ rfl (by kernel_rfl)
      go_simp
      refine (TM.out u hSu).mono ?_
      rintro e w' ⟨A, c, rfl, h1, h2, h3, h4⟩
      go_simp
      exact hK _ _ (hSu.trans (h4.mono hSu.size)) h4 ⟨A, c, rfl, ⟨h1, dgs_nd _, h2, h3⟩⟩
    · intro bb u hSu hdep hkept K hK
      have e2 : bb.tmps.getD 2 undef = .pointer (some ⟨w.heap.size, 0, none⟩) := hkept 2 (by kernel_rfl)
      obtain ⟨⟨c0, c1, c2⟩, c3, c4, c5⟩ := HC.out u hSu
      go_simp
      exact hK _ _ hSu (Below.refl _ _) rfl
    · intro bb u hSu hdep hkept K hK
      have e17 : bb.tmps.getD 17 undef = Fr.val ⟨xn, xA, xc, xN, xB, xd, xD⟩ := hdep 12 _ rfl (by kernel_rfl)
      go_simp
      refine (low_z _ a u (HX.out.below' hSu HB0.out)).mono ?_
      rintro e w' ⟨A, c, rfl, h1, h2, h3, h4⟩
      go_simp
      exact hK _ _ (hSu.trans (h4.mono hSu.size)) h4 ⟨A, c, rfl, ⟨h1, dgs_nd _, h2, h3⟩⟩
    · intro bb u hSu hdep hkept K hK
      have e3 : bb.tmps.getD 3 undef = .pointer (some ⟨w.heap.size + 1, 0, none⟩) := hkept 3 (by kernel_rfl)
      obtain ⟨⟨c0, c1, c2⟩, c3, c4, c5⟩ := HC.out u hSu
      go_simp
      exact hK _ _ hSu (Below.refl _ _) rfl
    · intro bb u hSu hdep hkept K hK
      have e19 : bb.tmps.getD 19 undef = Fr.val ⟨yn, yA, yc, yN, yB, yd, yD⟩ := hdep 14 _ rfl (by kernel_rfl)
      go_simp
      refine (low_z _ b u (HY.out.below' hSu HB0.out)).mono ?_
      rintro e w' ⟨A, c, rfl, h1, h2, h3, h4⟩
      go_simp
      exact hK _ _ (hSu.trans (h4.mono hSu.size)) h4 ⟨A, c, rfl, ⟨h1, dgs_nd _, h2, h3⟩⟩
    · intro bb u hSu hdep hkept K hK
      obtain ⟨A18, c18, e18, D18⟩ : ∃ A c, bb.tmps.getD 18 undef = .slice A (nd 1).length c ∧ Dg u A c (nd 1) := hdep 13 _ rfl (by kernel_rfl)
      obtain ⟨A20, c20, e20, D20⟩ : ∃ A c, bb.tmps.getD 20 undef = .slice A (nd 1).length c ∧ Dg u A c (nd 1) := hdep 15 _ rfl (by kernel_rfl)
      go_simp
      refine (times_any A18 A20 c18 c20 (nd 1) (nd 1) u D18.lies D20.lies (Lib.hid D18.dig) (Lib.hid D20.dig) (by rw [nd_one]; simp) (by rw [nd_one]; simp) 1 (Lib.hid (by rw [nd_one]; rfl))).mono ?_
      rintro e w' ⟨A, c, rfl, h1, h2, h3, h4⟩
      go_simp
      exact hK _ _ (hSu.trans (h4.mono hSu.size)) h4 ⟨A, c, rfl, ⟨h1, dgs_nd _, h2, h3⟩⟩
    · intro bb u hSu hdep hkept K hK
      have e9 : bb.tmps.getD 9 undef = .bool (xn != yn) := hdep 4 _ rfl (by kernel_rfl)
      obtain ⟨A16, c16, e16, D16⟩ : ∃ A c, bb.tmps.getD 16 undef = .slice A (nd (a.natAbs * b.natAbs)).length c ∧ Dg u A c (nd (a.natAbs * b.natAbs)) := hdep 11 _ rfl (by kernel_rfl)
      obtain ⟨A21, c21, e21, D21⟩ : ∃ A c, bb.tmps.getD 21 undef = .slice A (nd 1).length c ∧ Dg u A c (nd 1) := hdep 16 _ rfl (by kernel_rfl)
      go_simp
      refine (make1_one (xn != yn) A16 A21 c16 c21 _ _ u D16 D21 ML.out (by rw [nd_one]; simp) (a.natAbs * b.natAbs) (Lib.hid (vl_nd _)) (Lib.hid (.inr (by rw [nd_one]; rfl)))).mono ?_
      intro e w' hR
      obtain ⟨r, rfl, hr, h4⟩ := hR.fz SG.out (Int.natAbs_mul a b).symm
      go_simp
      exact hK _ _ (hSu.trans (h4.mono hSu.size)) h4 ⟨r, rfl, hr⟩
  · intro bb u hN hdf hSu hG hsame
    obtain ⟨r, e22, hr⟩ : ∃ r : Fr, bb.tmps.getD 22 undef = r.val ∧ Fz u r (a * b) := hG 17 _ rfl
    have e4 : bb.tmps.getD 4 undef = .pointer (some ⟨w.heap.size + 1 + 1, 0, none⟩) := hsame 4 (by kernel_rfl)
    have BX2 := HBX.out.below hSu
    obtain ⟨c0, c1, c2, f0, f1, f2⟩ := BX2.facts
    have BXH := Lib.hid BX2
    have HR := Lib.hid hr
    have HB2 := Lib.hid (HB0.out.trans (hSu.mono HB0.out.size))
    clear BX2 hr hSu hG hsame
    rw [frame_lit bb 23 hN]
    simp only [show List.range 23 = [0, 1, 2, 3, 4, 5, 6, 7, 8, 9, 10, 11, 12, 13, 14, 15, 16, 17, 18, 19, 20, 21, 22] from rfl, List.map_cons, List.map_nil, e4, e22, hdf]
    obtain ⟨rn, rA, rc, rN, rB, rd, rD⟩ := r
    refine PopQ.last rfl rfl (fun K hK => ?_)
    go_simp
    refine hK _ _ ?_
    clear hK K
    go_wp2_with fail
    obtain ⟨g0, g1, g2⟩ := box3 (.bool rn) (.slice rA rN.length rc) (.slice rB rD.length rd) c0 c1 c2
    refine bodyPost_ret (v := .agg #[.bool rn, .slice rA rN.length rc, .slice rB rD.length rd]) (by simp [results, Tryd.results79, go_sem, g0, g1, g2]) rfl ?_
    exact ⟨⟨rn, rA, rc, rN, rB, rd, rD⟩, rfl, HR.out.boxed BXH.out _ _ _, ((HB2.out.setCell (by simp; omega) _).setCell (by simp; omega) _).setCell (by simp; omega) _⟩
end Go.Proofs.YtfapmghhmkekaaaDoor
