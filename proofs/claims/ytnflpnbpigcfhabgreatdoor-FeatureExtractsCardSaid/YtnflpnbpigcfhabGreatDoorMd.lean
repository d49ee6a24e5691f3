/- Md: the texts RFra, RMul, RAdd, RCmp, RLog, LLog in one. -/
import Derived.Test.YtnflpnbpigcfhabGreatDoorRMk1
import Derived.Test.YtnflpnbpigcfhabGreatDoorRgs
import Derived.Test.YtnflpnbpigcfhabGreatDoorMb
import Derived.Test.YtnflpnbpigcfhabGreatDoorLGrw
import Derived.Test.YtnflpnbpigcfhabGreatDoorMc
/- the reference's integers as rational numbers: Of, Neg, Mul, Add, Sub, Sign, Cmp -/
namespace Go.Proofs.YtnflpnbpigcfhabGreatDoor
open Go.RowKit Ear

/-- a rational number that is an integer -/
structure Fz (w : World) (x : Fr) (z : Int) : Prop where
  ok : FrOk w x
  neg : x.neg = decide (z < 0)
  num : x.N = nd z.natAbs
  den : x.D = []
theorem Fz.below {w w' : World} {x : Fr} {z : Int} (h : Fz w x z) (hb : Below w.heap.size w w') : Fz w' x z := ⟨h.ok.below hb, h.neg, h.num, h.den⟩
theorem Fz.boxed {w : World} {x : Fr} {z : Int} {k : Nat} (h : Fz w x z) (hb : Bx w k) (v0 v1 v2 : Value) : Fz (((w.setCell ⟨k, 0, none⟩ v0).setCell ⟨k, 1, none⟩ v1).setCell ⟨k, 2, none⟩ v2) x z := ⟨h.ok.boxed hb v0 v1 v2, h.neg, h.num, h.den⟩
def RetFz (z : Int) (w : World) (e : Ending) (w' : World) : Prop := ∃ x : Fr, e = .returned x.val ∧ Fz w' x z ∧ Below w.heap.size w w'
theorem RetFr.fz {b : Bool} {n : Nat} {z : Int} {w w' : World} {e : Ending} (h : RetFr b n 1 w e w') (hb : b = decide (z < 0)) (hn : n = z.natAbs) : RetFz z w e w' := by
  obtain ⟨x, he, hx, h1, h2, h3, h4⟩ := h
  exact ⟨x, he, ⟨hx, h1.trans hb, by rw [h2, hn], by rw [h3]; rfl⟩, h4⟩
set_option maxRecDepth 100000 in
set_option maxHeartbeats 1000000 in
theorem rOf_any (z : Int) (w : World) (h1 : -9223372036854775808 ≤ z) (h2 : z ≤ 9223372036854775807) : Calls Tryz.prog 67 #[.int .i64 z] w (RetFz z w) := by
  have b1 : z.natAbs ≤ 9223372036854775808 := by omega
  have HL : Hid ((nd z.natAbs).length ≤ 1000000) := Lib.hid (Nat.le_trans (nd_len_le (k := 2) (by simp; omega)) (by decide))
  have HV := Lib.hid (vl_nd z.natAbs)
  have HD := Lib.hid (dgs_nd z.natAbs)
  have HS := Lib.hid (fun W => size_any z W h1 h2)
  have HE : Hid (decide (z < 0) && decide (z.natAbs ≠ 0)) = Hid (decide (z < 0)) := by
    by_cases h : z < 0
    · have : z.natAbs ≠ 0 := by omega
      simp [h, this]
    · simp [h]
  have HE' := Lib.hid HE
  have HB : Hid ((decide (z < 0) && decide (z.natAbs ≠ 0)) = decide (z < 0)) := Lib.hid (by
    by_cases h : z < 0
    · have : z.natAbs ≠ 0 := by omega
      simp [h, this]
    · simp [h])
  clear HE HE'
  go_enter Tryz.func67, Tryz.ntmps67
  go_wp2_with fail
  refine (HS.out _).mono ?_
  rintro e w' ⟨rfl, rfl⟩
  generalize hn : z.natAbs = n at *
  have HN := Lib.hid hn
  clear hn
  go_wp2_with fail
  refine (natural_any n _ (by omega)).mono ?_
  rintro e w1 ⟨A, c, rfl, hA, hc, hnil, hb⟩
  generalize hd : nd n = ds at *
  have HDS := Lib.hid hd
  clear hd
  have hs1 : w.heap.size < w1.heap.size := by have := hb.size; simp at this; omega
  have hb0 := Lib.hid (((Below.refl _ w).alloc (Nat.le_refl _) _).trans (hb.mono (by simp)))
  have BX := Lib.hid ((Bx.new w).below hb)
  have HM := Lib.hid (make1_one (decide (z < 0)) A none c 0 ds [] w1 ⟨hA, HD.out, hc, hnil⟩ (Dg.none _) HL.out (by simp) n HV (Lib.hid (.inl rfl)))
  clear hb hA hnil
  go_wp2_with fail
  refine HM.out.mono ?_
  clear HM
  intro e w2 hR
  obtain ⟨x, rfl, hx, hb2⟩ := hR.fz HB.out HN.out.symm
  have BX2 := BX.out.below hb2
  obtain ⟨c0, c1, c2, f0, f1, f2⟩ := BX2.facts
  have HX := Lib.hid hx
  have HB2 := Lib.hid (hb0.out.trans (hb2.mono hb0.out.size))
  have BXH := Lib.hid BX2
  clear hx hb2 hR BX2 HB
  obtain ⟨xn, xA, xc, xN, xB, xd, xD⟩ := x
  go_wp2_with fail
  obtain ⟨e0, e1, e2⟩ := box3 (.bool xn) (.slice xA xN.length xc) (.slice xB xD.length xd) c0 c1 c2
  refine bodyPost_ret (v := .agg #[.bool xn, .slice xA xN.length xc, .slice xB xD.length xd]) (by simp [results, Tryz.results67, go_sem, e0, e1, e2]) rfl ?_
  exact ⟨⟨xn, xA, xc, xN, xB, xd, xD⟩, rfl, HX.out.boxed BXH.out _ _ _, ((HB2.out.setCell (Nat.le_refl _) _).setCell (Nat.le_refl _) _).setCell (Nat.le_refl _) _⟩
end Go.Proofs.YtnflpnbpigcfhabGreatDoor
/- the reference's product of integers -/
namespace Go.Proofs.YtnflpnbpigcfhabGreatDoor
open Go.RowKit Ear

/-- low of an integer -/
theorem low_z (x : Fr) (z : Int) (w : World) (hx : Fz w x z) : Calls Tryz.prog 93 #[x.val] w (RetNd 1 w) := by
  have := low_any x w hx.ok (by rw [hx.den]; simp) 0 (Lib.hid (by rw [hx.den]; rfl))
  simpa using this
theorem Fz.below' {w W u : World} {x : Fr} {z : Int} (h : Fz w x z) (hu : Below W.heap.size W u) (hW : Below w.heap.size w W) : Fz u x z := h.below (hW.trans (hu.mono hW.size))
theorem sign_mul (a b : Int) : ((decide (a < 0) != decide (b < 0)) && decide (a.natAbs * b.natAbs ≠ 0)) = decide (a * b < 0) := by
  rcases Int.lt_trichotomy a 0 with ha | ha | ha <;> rcases Int.lt_trichotomy b 0 with hb | hb | hb
  · have := Int.mul_pos_of_neg_of_neg ha hb
    simp [ha, hb]; omega
  · subst hb; simp
  · have := Int.mul_neg_of_neg_of_pos ha hb
    have h3 : ¬ b < 0 := by omega
    have c0 : a.natAbs * b.natAbs ≠ 0 := Nat.mul_ne_zero (by omega) (by omega)
    simp [ha, h3, this, c0]
  · subst ha; simp
  · subst ha; simp
  · subst ha; simp
  · have := Int.mul_neg_of_pos_of_neg ha hb
    have h3 : ¬ a < 0 := by omega
    have c0 : a.natAbs * b.natAbs ≠ 0 := Nat.mul_ne_zero (by omega) (by omega)
    simp [hb, h3, this, c0]
  · subst hb; simp
  · have := Int.mul_pos ha hb
    have h3 : ¬ a < 0 := by omega
    have h4 : ¬ b < 0 := by omega
    have h5 : ¬ a * b < 0 := by omega
    simp [h3, h4, h5]
/-- what the slots of the region of Mul hold -/
def mulG (x y : Fr) (a b : Int) (k0 k1 : Nat) : Nat → Value → World → Prop
  | 0, v, _ => v = .pointer (some ⟨k0, 0, none⟩)
  | 1, v, _ => v = .bool x.neg
  | 2, v, _ => v = .pointer (some ⟨k1, 0, none⟩)
  | 3, v, _ => v = .bool y.neg
  | 4, v, _ => v = .bool (x.neg != y.neg)
  | 5, v, _ => v = .pointer (some ⟨k0, 1, none⟩)
  | 6, v, _ => v = .slice x.A x.N.length x.c
  | 7, v, _ => v = .slice x.A (nd a.natAbs).length x.c
  | 8, v, _ => v = .pointer (some ⟨k1, 1, none⟩)
  | 9, v, _ => v = .slice y.A y.N.length y.c
  | 10, v, _ => v = .slice y.A (nd b.natAbs).length y.c
  | 11, v, w => ∃ A c, v = .slice A (nd (a.natAbs * b.natAbs)).length c ∧ Dg w A c (nd (a.natAbs * b.natAbs))
  | 12, v, _ => v = x.val
  | 13, v, w => ∃ A c, v = .slice A (nd 1).length c ∧ Dg w A c (nd 1)
  | 14, v, _ => v = y.val
  | 15, v, w => ∃ A c, v = .slice A (nd 1).length c ∧ Dg w A c (nd 1)
  | 16, v, w => ∃ A c, v = .slice A (nd 1).length c ∧ Dg w A c (nd 1)
  | 17, v, w => ∃ r : Fr, v = r.val ∧ Fz w r (a * b)
  | _, _, _ => True
theorem mulG_keep {x y : Fr} {a b : Int} {k0 k1 : Nat} : ∀ j v w w', mulG x y a b k0 k1 j v w → Below w.heap.size w w' → mulG x y a b k0 k1 j v w' := by
  intro j v w w' h hb
  unfold mulG at *
  split at h <;> first
    | exact h
    | (obtain ⟨A, c, h1, h2⟩ := h; exact ⟨A, c, h1, h2.below hb⟩)
    | (obtain ⟨r, h1, h2⟩ := h; exact ⟨r, h1, h2.below hb⟩)
set_option maxRecDepth 100000 in
set_option maxHeartbeats 4000000 in
theorem rMul_z (x y : Fr) (a b : Int) (w : World) (hx : Fz w x a) (hy : Fz w y b) (ha : (nd a.natAbs).length ≤ 400000) (hb : (nd b.natAbs).length ≤ 400000) :
    Calls Tryz.prog 68 #[x.val, y.val] w (RetFz (a * b) w) := by
  have HX := Lib.hid hx
  have HY := Lib.hid hy
  have NX := Lib.hid hx.num
  have NY := Lib.hid hy.num
  obtain ⟨xn, xA, xc, xN, xB, xd, xD⟩ := x
  obtain ⟨yn, yA, yc, yN, yB, yd, yD⟩ := y
  simp only at NX NY
  clear hx hy
  go_enter Tryz.func68, Tryz.ntmps68
  go_wp2_with fail
  obtain ⟨W, hW⟩ : ∃ W : World, W = ((w.alloc (.cells #[.bool xn, .slice xA xN.length xc, .slice xB xD.length xd] 80)).alloc (.cells #[.bool yn, .slice yA yN.length yc, .slice yB yD.length yd] 80)).alloc (.cells #[.bool false, .slice none 0 0, .slice none 0 0] 80) := ⟨_, rfl⟩
  rw [← hW]
  have hs : W.heap.size = w.heap.size + 3 := by rw [hW]; simp
  have HB0 : Hid (Below w.heap.size w W) := Lib.hid (by rw [hW]; exact ((((Below.refl _ _).alloc (Nat.le_refl _) _).alloc (by simp) _).alloc (by simp; omega) _))
  have HBX : Hid (Bx W (w.heap.size + 1 + 1)) := Lib.hid (by rw [hW]; have := Bx.new ((w.alloc (.cells #[.bool xn, .slice xA xN.length xc, .slice xB xD.length xd] 80)).alloc (.cells #[.bool yn, .slice yA yN.length yc, .slice yB yD.length yd] 80)); simpa using this)
  have HC : Hid (∀ u, Below W.heap.size W u → (u.cell? ⟨w.heap.size, 0, none⟩ = some (.bool xn) ∧ u.cell? ⟨w.heap.size, 1, none⟩ = some (.slice xA xN.length xc) ∧ u.cell? ⟨w.heap.size, 2, none⟩ = some (.slice xB xD.length xd)) ∧ u.cell? ⟨w.heap.size + 1, 0, none⟩ = some (.bool yn) ∧ u.cell? ⟨w.heap.size + 1, 1, none⟩ = some (.slice yA yN.length yc) ∧ u.cell? ⟨w.heap.size + 1, 2, none⟩ = some (.slice yB yD.length yd)) := Lib.hid (fun u hu => by
    rw [hu.cell (p := ⟨w.heap.size, 0, none⟩) (by simp; omega), hu.cell (p := ⟨w.heap.size, 1, none⟩) (by simp; omega), hu.cell (p := ⟨w.heap.size, 2, none⟩) (by simp; omega), hu.cell (p := ⟨w.heap.size + 1, 0, none⟩) (by simp; omega), hu.cell (p := ⟨w.heap.size + 1, 1, none⟩) (by simp; omega), hu.cell (p := ⟨w.heap.size + 1, 2, none⟩) (by simp; omega), hW]
    simp [go_sem])
  have TX : Hid (∀ u, Below W.heap.size W u → Calls Tryz.prog 92 #[.slice xA xN.length xc] u fun e w' => e = .returned (.slice xA (nd a.natAbs).length xc) ∧ u = w') := Lib.hid (fun u hu => trim_any xA xc xN u (HX.out.below' hu HB0.out).ok.n.lies (Lib.hid HX.out.ok.n.dig) HX.out.ok.n.cap (by rw [NX.out]; omega) a.natAbs (Lib.hid (by rw [NX.out]; exact vl_nd _)))
  have TY : Hid (∀ u, Below W.heap.size W u → Calls Tryz.prog 92 #[.slice yA yN.length yc] u fun e w' => e = .returned (.slice yA (nd b.natAbs).length yc) ∧ u = w') := Lib.hid (fun u hu => trim_any yA yc yN u (HY.out.below' hu HB0.out).ok.n.lies (Lib.hid HY.out.ok.n.dig) HY.out.ok.n.cap (by rw [NY.out]; omega) b.natAbs (Lib.hid (by rw [NY.out]; exact vl_nd _)))
  have TM : Hid (∀ u, Below W.heap.size W u → Calls Tryz.prog 91 #[.slice xA (nd a.natAbs).length xc, .slice yA (nd b.natAbs).length yc] u (RetNd (a.natAbs * b.natAbs) u)) := Lib.hid (fun u hu => times_any xA yA xc yc (nd a.natAbs) (nd b.natAbs) u (by have := (HX.out.below' hu HB0.out).ok.n.lies; rwa [NX.out] at this) (by have := (HY.out.below' hu HB0.out).ok.n.lies; rwa [NY.out] at this) (Lib.hid (dgs_nd _)) (Lib.hid (dgs_nd _)) (by omega) (by omega) _ (Lib.hid (by rw [vl_nd, vl_nd]; simp)))
  have ML : Hid ((nd (a.natAbs * b.natAbs)).length ≤ 1000000) := Lib.hid (by have := nd_len_mul a.natAbs b.natAbs; omega)
  have SG : Hid (((xn != yn) && decide (a.natAbs * b.natAbs ≠ 0)) = decide (a * b < 0)) := Lib.hid (by
    have h1 := HX.out.neg
    have h2 := HY.out.neg
    simp only at h1 h2
    rw [h1, h2]
    exact sign_mul a b)
  clear hW
  refine wp_region_slots_pop 18 23 rfl (by kernel_rfl) (by kernel_rfl) (by kernel_rfl) (by kernel_rfl) (fun u => Below W.heap.size W u) (fun u u' => Below u.heap.size u u') (mulG ⟨xn, xA, xc, xN, xB, xd, xD⟩ ⟨yn, yA, yc, yN, yB, yd, yD⟩ a b w.heap.size (w.heap.size + 1)) mulG_keep ?_ ?_ ?_
  · exact (Below.refl _ W).drew
  · simp only [List.pop_toArray, List.dropLast, StepsFrom]
    refine ⟨?_, ?_, ?_, ?_, ?_, ?_, ?_, ?_, ?_, ?_, ?_, ?_, ?_, ?_, ?_, ?_, ?_, ?_, trivial⟩
    · intro bb u hSu hdep hkept K hK
      have e2 : bb.tmps.getD 2 undef = .pointer (some ⟨w.heap.size, 0, none⟩) := hkept 2 (by kernel_rfl)
      go_simp
      exact hK _ _ hSu (Below.refl _ _) rfl
    · intro bb u hSu hdep hkept K hK
      have e5 : bb.tmps.getD 5 undef = .pointer (some ⟨w.heap.size, 0, none⟩) := hdep 0 _ rfl (by kernel_rfl)
      obtain ⟨⟨c0, c1, c2⟩, c3, c4, c5⟩ := HC.out u hSu
      go_simp
      exact hK _ _ hSu (Below.refl _ _) rfl
    · intro bb u hSu hdep hkept K hK
      have e3 : bb.tmps.getD 3 undef = .pointer (some ⟨w.heap.size + 1, 0, none⟩) := hkept 3 (by kernel_rfl)
      go_simp
      exact hK _ _ hSu (Below.refl _ _) rfl
    · intro bb u hSu hdep hkept K hK
      have e7 : bb.tmps.getD 7 undef = .pointer (some ⟨w.heap.size + 1, 0, none⟩) := hdep 2 _ rfl (by kernel_rfl)
      obtain ⟨⟨c0, c1, c2⟩, c3, c4, c5⟩ := HC.out u hSu
      go_simp
      exact hK _ _ hSu (Below.refl _ _) rfl
    · intro bb u hSu hdep hkept K hK
      have e6 : bb.tmps.getD 6 undef = .bool xn := hdep 1 _ rfl (by kernel_rfl)
      have e8 : bb.tmps.getD 8 undef = .bool yn := hdep 3 _ rfl (by kernel_rfl)
      go_simp
      exact hK _ _ hSu (Below.refl _ _) rfl
    · intro bb u hSu hdep hkept K hK
      have e2 : bb.tmps.getD 2 undef = .pointer (some ⟨w.heap.size, 0, none⟩) := hkept 2 (by kernel_rfl)
      go_simp
      exact hK _ _ hSu (Below.refl _ _) rfl
    · intro bb u hSu hdep hkept K hK
      have e10 : bb.tmps.getD 10 undef = .pointer (some ⟨w.heap.size, 1, none⟩) := hdep 5 _ rfl (by kernel_rfl)
      obtain ⟨⟨c0, c1, c2⟩, c3, c4, c5⟩ := HC.out u hSu
      go_simp
      exact hK _ _ hSu (Below.refl _ _) rfl
    · intro bb u hSu hdep hkept K hK
      have e11 : bb.tmps.getD 11 undef = .slice xA xN.length xc := hdep 6 _ rfl (by kernel_rfl)
      go_simp
      refine (TX.out u hSu).mono ?_
      rintro e w' ⟨rfl, rfl⟩
      go_simp
      exact hK _ _ hSu (Below.refl _ _) rfl
    · intro bb u hSu hdep hkept K hK
      have e3 : bb.tmps.getD 3 undef = .pointer (some ⟨w.heap.size + 1, 0, none⟩) := hkept 3 (by kernel_rfl)
      go_simp
      exact hK _ _ hSu (Below.refl _ _) rfl
    · intro bb u hSu hdep hkept K hK
      have e13 : bb.tmps.getD 13 undef = .pointer (some ⟨w.heap.size + 1, 1, none⟩) := hdep 8 _ rfl (by kernel_rfl)
      obtain ⟨⟨c0, c1, c2⟩, c3, c4, c5⟩ := HC.out u hSu
      go_simp
      exact hK _ _ hSu (Below.refl _ _) rfl
    · intro bb u hSu hdep hkept K hK
      have e14 : bb.tmps.getD 14 undef = .slice yA yN.length yc := hdep 9 _ rfl (by kernel_rfl)
      go_simp
      refine (TY.out u hSu).mono ?_
      rintro e w' ⟨rfl, rfl⟩
      go_simp
      exact hK _ _ hSu (Below.refl _ _) rfl
    · intro bb u hSu hdep hkept K hK
      have e12 : bb.tmps.getD 12 undef = .slice xA (nd a.natAbs).length xc := hdep 7 _ rfl (by kernel_rfl)
      have e15 : bb.tmps.getD 15 undef = .slice yA (nd b.natAbs).length yc := hdep 10 _ rfl (by kernel_rfl)
      go_simp
      refine (TM.out u hSu).mono ?_
      rintro e w' ⟨A, c, rfl, h1, h2, h3, h4⟩
      go_simp
      exact hK _ _ (hSu.trans (h4.mono hSu.size)) h4 ⟨A, c, rfl, ⟨h1, dgs_nd _, h2, h3⟩⟩
    · intro bb u hSu hdep hkept K hK
      have e2 : bb.tmps.getD 2 undef = .pointer (some ⟨w.heap.size, 0, none⟩) := hkept 2 (by kernel_rfl)
      obtain ⟨⟨c0, c1, c2⟩, c3, c4, c5⟩ := HC.out u hSu
      go_simp
      exact hK _ _ hSu (Below.refl _ _) rfl
    · intro bb u hSu hdep hkept K hK
      have e17 : bb.tmps.getD 17 undef = Fr.val ⟨xn, xA, xc, xN, xB, xd, xD⟩ := hdep 12 _ rfl (by kernel_rfl)
      go_simp
      refine (low_z _ a u (HX.out.below' hSu HB0.out)).mono ?_
      rintro e w' ⟨A, c, rfl, h1, h2, h3, h4⟩
      go_simp
      exact hK _ _ (hSu.trans (h4.mono hSu.size)) h4 ⟨A, c, rfl, ⟨h1, dgs_nd _, h2, h3⟩⟩
    · intro bb u hSu hdep hkept K hK
      have e3 : bb.tmps.getD 3 undef = .pointer (some ⟨w.heap.size + 1, 0, none⟩) := hkept 3 (by kernel_rfl)
      obtain ⟨⟨c0, c1, c2⟩, c3, c4, c5⟩ := HC.out u hSu
      go_simp
      exact hK _ _ hSu (Below.refl _ _) rfl
    · intro bb u hSu hdep hkept K hK
      have e19 : bb.tmps.getD 19 undef = Fr.val ⟨yn, yA, yc, yN, yB, yd, yD⟩ := hdep 14 _ rfl (by kernel_rfl)
      go_simp
      refine (low_z _ b u (HY.out.below' hSu HB0.out)).mono ?_
      rintro e w' ⟨A, c, rfl, h1, h2, h3, h4⟩
      go_simp
      exact hK _ _ (hSu.trans (h4.mono hSu.size)) h4 ⟨A, c, rfl, ⟨h1, dgs_nd _, h2, h3⟩⟩
    · intro bb u hSu hdep hkept K hK
      obtain ⟨A18, c18, e18, D18⟩ : ∃ A c, bb.tmps.getD 18 undef = .slice A (nd 1).length c ∧ Dg u A c (nd 1) := hdep 13 _ rfl (by kernel_rfl)
      obtain ⟨A20, c20, e20, D20⟩ : ∃ A c, bb.tmps.getD 20 undef = .slice A (nd 1).length c ∧ Dg u A c (nd 1) := hdep 15 _ rfl (by kernel_rfl)
      go_simp
      refine (times_any A18 A20 c18 c20 (nd 1) (nd 1) u D18.lies D20.lies (Lib.hid D18.dig) (Lib.hid D20.dig) (by rw [nd_one]; simp) (by rw [nd_one]; simp) 1 (Lib.hid (by rw [nd_one]; rfl))).mono ?_
      rintro e w' ⟨A, c, rfl, h1, h2, h3, h4⟩
      go_simp
      exact hK _ _ (hSu.trans (h4.mono hSu.size)) h4 ⟨A, c, rfl, ⟨h1, dgs_nd _, h2, h3⟩⟩
    · intro bb u hSu hdep hkept K hK
      have e9 : bb.tmps.getD 9 undef = .bool (xn != yn) := hdep 4 _ rfl (by kernel_rfl)
      obtain ⟨A16, c16, e16, D16⟩ : ∃ A c, bb.tmps.getD 16 undef = .slice A (nd (a.natAbs * b.natAbs)).length c ∧ Dg u A c (nd (a.natAbs * b.natAbs)) := hdep 11 _ rfl (by kernel_rfl)
      obtain ⟨A21, c21, e21, D21⟩ : ∃ A c, bb.tmps.getD 21 undef = .slice A (nd 1).length c ∧ Dg u A c (nd 1) := hdep 16 _ rfl (by kernel_rfl)
      go_simp
      refine (make1_one (xn != yn) A16 A21 c16 c21 _ _ u D16 D21 ML.out (by rw [nd_one]; simp) (a.natAbs * b.natAbs) (Lib.hid (vl_nd _)) (Lib.hid (.inr (by rw [nd_one]; rfl)))).mono ?_
      intro e w' hR
      obtain ⟨r, rfl, hr, h4⟩ := hR.fz SG.out (Int.natAbs_mul a b).symm
      go_simp
      exact hK _ _ (hSu.trans (h4.mono hSu.size)) h4 ⟨r, rfl, hr⟩
  · intro bb u hN hdf hSu hG hsame
    obtain ⟨r, e22, hr⟩ : ∃ r : Fr, bb.tmps.getD 22 undef = r.val ∧ Fz u r (a * b) := hG 17 _ rfl
    have e4 : bb.tmps.getD 4 undef = .pointer (some ⟨w.heap.size + 1 + 1, 0, none⟩) := hsame 4 (by kernel_rfl)
    have BX2 := HBX.out.below hSu
    obtain ⟨c0, c1, c2, f0, f1, f2⟩ := BX2.facts
    have BXH := Lib.hid BX2
    have HR := Lib.hid hr
    have HB2 := Lib.hid (HB0.out.trans (hSu.mono HB0.out.size))
    clear BX2 hr hSu hG hsame
    rw [frame_lit bb 23 hN]
    simp only [show List.range 23 = [0, 1, 2, 3, 4, 5, 6, 7, 8, 9, 10, 11, 12, 13, 14, 15, 16, 17, 18, 19, 20, 21, 22] from rfl, List.map_cons, List.map_nil, e4, e22, hdf]
    obtain ⟨rn, rA, rc, rN, rB, rd, rD⟩ := r
    refine PopQ.last rfl rfl (fun K hK => ?_)
    go_simp
    refine hK _ _ ?_
    clear hK K
    go_wp2_with fail
    obtain ⟨g0, g1, g2⟩ := box3 (.bool rn) (.slice rA rN.length rc) (.slice rB rD.length rd) c0 c1 c2
    refine bodyPost_ret (v := .agg #[.bool rn, .slice rA rN.length rc, .slice rB rD.length rd]) (by simp [results, Tryz.results68, go_sem, g0, g1, g2]) rfl ?_
    exact ⟨⟨rn, rA, rc, rN, rB, rd, rD⟩, rfl, HR.out.boxed BXH.out _ _ _, ((HB2.out.setCell (by simp; omega) _).setCell (by simp; omega) _).setCell (by simp; omega) _⟩
end Go.Proofs.YtnflpnbpigcfhabGreatDoor
/- the reference's sum of two integers of different signs -/
namespace Go.Proofs.YtnflpnbpigcfhabGreatDoor
open Go.RowKit Ear
set_option linter.unusedVariables false

def addG (x y : Fr) (a b : Int) (k0 k1 : Nat) : Nat → Value → World → Prop
  | 0, v, _ => v = .pointer (some ⟨k0, 1, none⟩)
  | 1, v, _ => v = .slice x.A x.N.length x.c
  | 2, v, _ => v = .slice x.A (nd a.natAbs).length x.c
  | 3, v, _ => v = y.val
  | 4, v, w => ∃ A c, v = .slice A (nd 1).length c ∧ Dg w A c (nd 1)
  | 5, v, w => ∃ A c, v = .slice A (nd a.natAbs).length c ∧ Dg w A c (nd a.natAbs)
  | 6, v, _ => v = .pointer (some ⟨k1, 1, none⟩)
  | 7, v, _ => v = .slice y.A y.N.length y.c
  | 8, v, _ => v = .slice y.A (nd b.natAbs).length y.c
  | 9, v, _ => v = x.val
  | 10, v, w => ∃ A c, v = .slice A (nd 1).length c ∧ Dg w A c (nd 1)
  | 11, v, w => ∃ A c, v = .slice A (nd b.natAbs).length c ∧ Dg w A c (nd b.natAbs)
  | 12, v, _ => v = x.val
  | 13, v, w => ∃ A c, v = .slice A (nd 1).length c ∧ Dg w A c (nd 1)
  | 14, v, _ => v = y.val
  | 15, v, w => ∃ A c, v = .slice A (nd 1).length c ∧ Dg w A c (nd 1)
  | 16, v, w => ∃ A c, v = .slice A (nd 1).length c ∧ Dg w A c (nd 1)
  | 17, v, w => ∃ A c, v = .slice A (nd a.natAbs).length c ∧ Dg w A c (nd a.natAbs)
  | 18, v, w => ∃ A c, v = .slice A (nd b.natAbs).length c ∧ Dg w A c (nd b.natAbs)
  | 19, v, w => ∃ A c, v = .slice A (nd 1).length c ∧ Dg w A c (nd 1)
  | _, _, _ => True
theorem addG_keep {x y : Fr} {a b : Int} {k0 k1 : Nat} : ∀ j v w w', addG x y a b k0 k1 j v w → Below w.heap.size w w' → addG x y a b k0 k1 j v w' := by
  intro j v w w' h hb
  unfold addG at *
  split at h <;> first
    | exact h
    | (obtain ⟨A, c, h1, h2⟩ := h; exact ⟨A, c, h1, h2.below hb⟩)
def endG (neg : Bool) (A5 A6 A7 : Option Addr) (c5 c6 c7 : Nat) (a b p q : Int) (Ap Aq : Option Addr) (cp cq : Nat) (k : Nat) : Nat → Value → World → Prop
  | 0, v, _ => v = .pointer (some ⟨k, 0, none⟩)
  | 1, v, _ => v = .bool neg
  | 2, v, _ => v = .slice Ap (nd p.natAbs).length cp
  | 3, v, _ => v = .slice Aq (nd q.natAbs).length cq
  | 4, v, w => ∃ A c, v = .slice A (nd (p.natAbs - q.natAbs)).length c ∧ Dg w A c (nd (p.natAbs - q.natAbs))
  | 5, v, _ => v = .slice A7 (nd 1).length c7
  | 6, v, w => ∃ r : Fr, v = r.val ∧ Fz w r (a + b)
  | _, _, _ => True
theorem endG_keep {neg : Bool} {A5 A6 A7 : Option Addr} {c5 c6 c7 : Nat} {a b p q : Int} {Ap Aq : Option Addr} {cp cq k : Nat} : ∀ j v w w', endG neg A5 A6 A7 c5 c6 c7 a b p q Ap Aq cp cq k j v w → Below w.heap.size w w' → endG neg A5 A6 A7 c5 c6 c7 a b p q Ap Aq cp cq k j v w' := by
  intro j v w w' h hb
  unfold endG at *
  split at h <;> first
    | exact h
    | (obtain ⟨A, c, h1, h2⟩ := h; exact ⟨A, c, h1, h2.below hb⟩)
    | (obtain ⟨r, h1, h2⟩ := h; exact ⟨r, h1, h2.below hb⟩)
set_option maxRecDepth 100000 in
set_option maxHeartbeats 4000000 in
theorem rAdd_opp (x y : Fr) (a b : Int) (w : World) (hx : Fz w x a) (hy : Fz w y b) (ha : (nd a.natAbs).length ≤ 400000) (hb : (nd b.natAbs).length ≤ 400000) (hab : Hid (decide (a < 0) ≠ decide (b < 0))) :
    Calls Tryz.prog 105 #[x.val, y.val] w (RetFz (a + b) w) := by
  have HX := Lib.hid hx
  have HY := Lib.hid hy
  have NX := Lib.hid hx.num
  have NY := Lib.hid hy.num
  obtain ⟨xn, xA, xc, xN, xB, xd, xD⟩ := x
  obtain ⟨yn, yA, yc, yN, yB, yd, yD⟩ := y
  simp only at NX NY
  clear hx hy
  go_enter Tryz.func105, Tryz.ntmps105
  go_wp2_with fail
  obtain ⟨W, hW⟩ : ∃ W : World, W = ((w.alloc (.cells #[.bool xn, .slice xA xN.length xc, .slice xB xD.length xd] 80)).alloc (.cells #[.bool yn, .slice yA yN.length yc, .slice yB yD.length yd] 80)).alloc (.cells #[.bool false, .slice none 0 0, .slice none 0 0] 80) := ⟨_, rfl⟩
  rw [← hW]
  have hs : W.heap.size = w.heap.size + 3 := by rw [hW]; simp
  have HB0 : Hid (Below w.heap.size w W) := Lib.hid (by rw [hW]; exact ((((Below.refl _ _).alloc (Nat.le_refl _) _).alloc (by simp) _).alloc (by simp; omega) _))
  have HBX : Hid (Bx W (w.heap.size + 1 + 1)) := Lib.hid (by rw [hW]; have := Bx.new ((w.alloc (.cells #[.bool xn, .slice xA xN.length xc, .slice xB xD.length xd] 80)).alloc (.cells #[.bool yn, .slice yA yN.length yc, .slice yB yD.length yd] 80)); simpa using this)
  have HC : Hid (∀ u, Below W.heap.size W u → (u.cell? ⟨w.heap.size, 0, none⟩ = some (.bool xn) ∧ u.cell? ⟨w.heap.size, 1, none⟩ = some (.slice xA xN.length xc) ∧ u.cell? ⟨w.heap.size, 2, none⟩ = some (.slice xB xD.length xd)) ∧ u.cell? ⟨w.heap.size + 1, 0, none⟩ = some (.bool yn) ∧ u.cell? ⟨w.heap.size + 1, 1, none⟩ = some (.slice yA yN.length yc) ∧ u.cell? ⟨w.heap.size + 1, 2, none⟩ = some (.slice yB yD.length yd)) := Lib.hid (fun u hu => by
    rw [hu.cell (p := ⟨w.heap.size, 0, none⟩) (by simp; omega), hu.cell (p := ⟨w.heap.size, 1, none⟩) (by simp; omega), hu.cell (p := ⟨w.heap.size, 2, none⟩) (by simp; omega), hu.cell (p := ⟨w.heap.size + 1, 0, none⟩) (by simp; omega), hu.cell (p := ⟨w.heap.size + 1, 1, none⟩) (by simp; omega), hu.cell (p := ⟨w.heap.size + 1, 2, none⟩) (by simp; omega), hW]
    simp [go_sem])
  have TX : Hid (∀ u, Below W.heap.size W u → Calls Tryz.prog 92 #[.slice xA xN.length xc] u fun e w' => e = .returned (.slice xA (nd a.natAbs).length xc) ∧ u = w') := Lib.hid (fun u hu => trim_any xA xc xN u (HX.out.below' hu HB0.out).ok.n.lies (Lib.hid HX.out.ok.n.dig) HX.out.ok.n.cap (by rw [NX.out]; omega) a.natAbs (Lib.hid (by rw [NX.out]; exact vl_nd _)))
  have TY : Hid (∀ u, Below W.heap.size W u → Calls Tryz.prog 92 #[.slice yA yN.length yc] u fun e w' => e = .returned (.slice yA (nd b.natAbs).length yc) ∧ u = w') := Lib.hid (fun u hu => trim_any yA yc yN u (HY.out.below' hu HB0.out).ok.n.lies (Lib.hid HY.out.ok.n.dig) HY.out.ok.n.cap (by rw [NY.out]; omega) b.natAbs (Lib.hid (by rw [NY.out]; exact vl_nd _)))
  have XN : Hid (xn = decide (a < 0)) := Lib.hid HX.out.neg
  have YN : Hid (yn = decide (b < 0)) := Lib.hid HY.out.neg
  have XY : Hid (xn ≠ yn) := Lib.hid (by rw [XN.out, YN.out]; exact hab.out)
  clear hW
  refine wp_region_slots 55 rfl (by kernel_rfl) (by kernel_rfl) (by kernel_rfl) (fun u => Below W.heap.size W u) (fun u u' => Below u.heap.size u u') (addG ⟨xn, xA, xc, xN, xB, xd, xD⟩ ⟨yn, yA, yc, yN, yB, yd, yD⟩ a b w.heap.size (w.heap.size + 1)) addG_keep ?_ ?_ ?_
  · exact (Below.refl _ W).drew
  · simp only [StepsFrom]
    refine ⟨?_, ?_, ?_, ?_, ?_, ?_, ?_, ?_, ?_, ?_, ?_, ?_, ?_, ?_, ?_, ?_, ?_, ?_, ?_, ?_, trivial⟩
    · intro bb u hSu hdep hkept K hK
      have e2 : bb.tmps.getD 2 undef = .pointer (some ⟨w.heap.size, 0, none⟩) := hkept 2 (by kernel_rfl)
      go_simp
      exact hK _ _ hSu (Below.refl _ _) rfl
    · intro bb u hSu hdep hkept K hK
      have e8 : bb.tmps.getD 8 undef = .pointer (some ⟨w.heap.size, 1, none⟩) := hdep 0 _ rfl (by kernel_rfl)
      obtain ⟨⟨c0, c1, c2⟩, c3, c4, c5⟩ := HC.out u hSu
      go_simp
      exact hK _ _ hSu (Below.refl _ _) rfl
    · intro bb u hSu hdep hkept K hK
      have e9 : bb.tmps.getD 9 undef = .slice xA xN.length xc := hdep 1 _ rfl (by kernel_rfl)
      go_simp
      refine (TX.out u hSu).mono ?_
      rintro e w' ⟨rfl, rfl⟩
      go_simp
      exact hK _ _ hSu (Below.refl _ _) rfl
    · intro bb u hSu hdep hkept K hK
      have e3 : bb.tmps.getD 3 undef = .pointer (some ⟨w.heap.size + 1, 0, none⟩) := hkept 3 (by kernel_rfl)
      obtain ⟨⟨c0, c1, c2⟩, c3, c4, c5⟩ := HC.out u hSu
      go_simp
      exact hK _ _ hSu (Below.refl _ _) rfl
    · intro bb u hSu hdep hkept K hK
      have e11 : bb.tmps.getD 11 undef = Fr.val ⟨yn, yA, yc, yN, yB, yd, yD⟩ := hdep 3 _ rfl (by kernel_rfl)
      go_simp
      refine (low_z _ b u (HY.out.below' hSu HB0.out)).mono ?_
      rintro e w' ⟨A, c, rfl, h1, h2, h3, h4⟩
      go_simp
      exact hK _ _ (hSu.trans (h4.mono hSu.size)) h4 ⟨A, c, rfl, ⟨h1, dgs_nd _, h2, h3⟩⟩
    · intro bb u hSu hdep hkept K hK
      have e10 : bb.tmps.getD 10 undef = .slice xA (nd a.natAbs).length xc := hdep 2 _ rfl (by kernel_rfl)
      obtain ⟨A12, c12, e12, D12⟩ : ∃ A c, bb.tmps.getD 12 undef = .slice A (nd 1).length c ∧ Dg u A c (nd 1) := hdep 4 _ rfl (by kernel_rfl)
      have LX := (HX.out.below' hSu HB0.out).ok.n.lies
      simp only [NX.out] at LX
      go_simp
      refine (times_any xA A12 xc c12 (nd a.natAbs) (nd 1) u LX D12.lies (Lib.hid (dgs_nd _)) (Lib.hid D12.dig) (by omega) (by rw [nd_one]; simp) a.natAbs (Lib.hid (by rw [vl_nd, vl_nd]; simp))).mono ?_
      rintro e w' ⟨A, c, rfl, h1, h2, h3, h4⟩
      go_simp
      exact hK _ _ (hSu.trans (h4.mono hSu.size)) h4 ⟨A, c, rfl, ⟨h1, dgs_nd _, h2, h3⟩⟩
    · intro bb u hSu hdep hkept K hK
      have e3 : bb.tmps.getD 3 undef = .pointer (some ⟨w.heap.size + 1, 0, none⟩) := hkept 3 (by kernel_rfl)
      go_simp
      exact hK _ _ hSu (Below.refl _ _) rfl
    · intro bb u hSu hdep hkept K hK
      have e14 : bb.tmps.getD 14 undef = .pointer (some ⟨w.heap.size + 1, 1, none⟩) := hdep 6 _ rfl (by kernel_rfl)
      obtain ⟨⟨c0, c1, c2⟩, c3, c4, c5⟩ := HC.out u hSu
      go_simp
      exact hK _ _ hSu (Below.refl _ _) rfl
    · intro bb u hSu hdep hkept K hK
      have e15 : bb.tmps.getD 15 undef = .slice yA yN.length yc := hdep 7 _ rfl (by kernel_rfl)
      go_simp
      refine (TY.out u hSu).mono ?_
      rintro e w' ⟨rfl, rfl⟩
      go_simp
      exact hK _ _ hSu (Below.refl _ _) rfl
    · intro bb u hSu hdep hkept K hK
      have e2 : bb.tmps.getD 2 undef = .pointer (some ⟨w.heap.size, 0, none⟩) := hkept 2 (by kernel_rfl)
      obtain ⟨⟨c0, c1, c2⟩, c3, c4, c5⟩ := HC.out u hSu
      go_simp
      exact hK _ _ hSu (Below.refl _ _) rfl
    · intro bb u hSu hdep hkept K hK
      have e17 : bb.tmps.getD 17 undef = Fr.val ⟨xn, xA, xc, xN, xB, xd, xD⟩ := hdep 9 _ rfl (by kernel_rfl)
      go_simp
      refine (low_z _ a u (HX.out.below' hSu HB0.out)).mono ?_
      rintro e w' ⟨A, c, rfl, h1, h2, h3, h4⟩
      go_simp
      exact hK _ _ (hSu.trans (h4.mono hSu.size)) h4 ⟨A, c, rfl, ⟨h1, dgs_nd _, h2, h3⟩⟩
    · intro bb u hSu hdep hkept K hK
      have e16 : bb.tmps.getD 16 undef = .slice yA (nd b.natAbs).length yc := hdep 8 _ rfl (by kernel_rfl)
      obtain ⟨A18, c18, e18, D18⟩ : ∃ A c, bb.tmps.getD 18 undef = .slice A (nd 1).length c ∧ Dg u A c (nd 1) := hdep 10 _ rfl (by kernel_rfl)
      have LY := (HY.out.below' hSu HB0.out).ok.n.lies
      simp only [NY.out] at LY
      go_simp
      refine (times_any yA A18 yc c18 (nd b.natAbs) (nd 1) u LY D18.lies (Lib.hid (dgs_nd _)) (Lib.hid D18.dig) (by omega) (by rw [nd_one]; simp) b.natAbs (Lib.hid (by rw [vl_nd, vl_nd]; simp))).mono ?_
      rintro e w' ⟨A, c, rfl, h1, h2, h3, h4⟩
      go_simp
      exact hK _ _ (hSu.trans (h4.mono hSu.size)) h4 ⟨A, c, rfl, ⟨h1, dgs_nd _, h2, h3⟩⟩
    · intro bb u hSu hdep hkept K hK
      have e2 : bb.tmps.getD 2 undef = .pointer (some ⟨w.heap.size, 0, none⟩) := hkept 2 (by kernel_rfl)
      obtain ⟨⟨c0, c1, c2⟩, c3, c4, c5⟩ := HC.out u hSu
      go_simp
      exact hK _ _ hSu (Below.refl _ _) rfl
    · intro bb u hSu hdep hkept K hK
      have e20 : bb.tmps.getD 20 undef = Fr.val ⟨xn, xA, xc, xN, xB, xd, xD⟩ := hdep 12 _ rfl (by kernel_rfl)
      go_simp
      refine (low_z _ a u (HX.out.below' hSu HB0.out)).mono ?_
      rintro e w' ⟨A, c, rfl, h1, h2, h3, h4⟩
      go_simp
      exact hK _ _ (hSu.trans (h4.mono hSu.size)) h4 ⟨A, c, rfl, ⟨h1, dgs_nd _, h2, h3⟩⟩
    · intro bb u hSu hdep hkept K hK
      have e3 : bb.tmps.getD 3 undef = .pointer (some ⟨w.heap.size + 1, 0, none⟩) := hkept 3 (by kernel_rfl)
      obtain ⟨⟨c0, c1, c2⟩, c3, c4, c5⟩ := HC.out u hSu
      go_simp
      exact hK _ _ hSu (Below.refl _ _) rfl
    · intro bb u hSu hdep hkept K hK
      have e22 : bb.tmps.getD 22 undef = Fr.val ⟨yn, yA, yc, yN, yB, yd, yD⟩ := hdep 14 _ rfl (by kernel_rfl)
      go_simp
      refine (low_z _ b u (HY.out.below' hSu HB0.out)).mono ?_
      rintro e w' ⟨A, c, rfl, h1, h2, h3, h4⟩
      go_simp
      exact hK _ _ (hSu.trans (h4.mono hSu.size)) h4 ⟨A, c, rfl, ⟨h1, dgs_nd _, h2, h3⟩⟩
    · intro bb u hSu hdep hkept K hK
      obtain ⟨A21, c21, e21, D21⟩ : ∃ A c, bb.tmps.getD 21 undef = .slice A (nd 1).length c ∧ Dg u A c (nd 1) := hdep 13 _ rfl (by kernel_rfl)
      obtain ⟨A23, c23, e23, D23⟩ : ∃ A c, bb.tmps.getD 23 undef = .slice A (nd 1).length c ∧ Dg u A c (nd 1) := hdep 15 _ rfl (by kernel_rfl)
      go_simp
      refine (times_any A21 A23 c21 c23 (nd 1) (nd 1) u D21.lies D23.lies (Lib.hid D21.dig) (Lib.hid D23.dig) (by rw [nd_one]; simp) (by rw [nd_one]; simp) 1 (Lib.hid (by rw [nd_one]; rfl))).mono ?_
      rintro e w' ⟨A, c, rfl, h1, h2, h3, h4⟩
      go_simp
      exact hK _ _ (hSu.trans (h4.mono hSu.size)) h4 ⟨A, c, rfl, ⟨h1, dgs_nd _, h2, h3⟩⟩
    · intro bb u hSu hdep hkept K hK
      obtain ⟨A13, c13, e13, D13⟩ : ∃ A c, bb.tmps.getD 13 undef = .slice A (nd a.natAbs).length c ∧ Dg u A c (nd a.natAbs) := hdep 5 _ rfl (by kernel_rfl)
      go_simp
      exact hK _ _ hSu (Below.refl _ _) ⟨A13, c13, rfl, D13⟩
    · intro bb u hSu hdep hkept K hK
      obtain ⟨A19, c19, e19, D19⟩ : ∃ A c, bb.tmps.getD 19 undef = .slice A (nd b.natAbs).length c ∧ Dg u A c (nd b.natAbs) := hdep 11 _ rfl (by kernel_rfl)
      go_simp
      exact hK _ _ hSu (Below.refl _ _) ⟨A19, c19, rfl, D19⟩
    · intro bb u hSu hdep hkept K hK
      obtain ⟨A24, c24, e24, D24⟩ : ∃ A c, bb.tmps.getD 24 undef = .slice A (nd 1).length c ∧ Dg u A c (nd 1) := hdep 16 _ rfl (by kernel_rfl)
      go_simp
      exact hK _ _ hSu (Below.refl _ _) ⟨A24, c24, rfl, D24⟩
  · intro bb u hN hdf hSu hG hsame
    obtain ⟨A5, c5, e5, D5⟩ : ∃ A c, bb.tmps.getD 5 undef = .slice A (nd a.natAbs).length c ∧ Dg u A c (nd a.natAbs) := hG 17 _ rfl
    obtain ⟨A6, c6, e6, D6⟩ : ∃ A c, bb.tmps.getD 6 undef = .slice A (nd b.natAbs).length c ∧ Dg u A c (nd b.natAbs) := hG 18 _ rfl
    obtain ⟨A7, c7, e7, D7⟩ : ∃ A c, bb.tmps.getD 7 undef = .slice A (nd 1).length c ∧ Dg u A c (nd 1) := hG 19 _ rfl
    have e2 : bb.tmps.getD 2 undef = .pointer (some ⟨w.heap.size, 0, none⟩) := hsame 2 (by kernel_rfl)
    have e3 : bb.tmps.getD 3 undef = .pointer (some ⟨w.heap.size + 1, 0, none⟩) := hsame 3 (by kernel_rfl)
    have e4 : bb.tmps.getD 4 undef = .pointer (some ⟨w.heap.size + 1 + 1, 0, none⟩) := hsame 4 (by kernel_rfl)
    rw [frame_lit bb 55 hN]
    simp only [show List.range 55 = [0, 1, 2, 3, 4, 5, 6, 7, 8, 9, 10, 11, 12, 13, 14, 15, 16, 17, 18, 19, 20, 21, 22, 23, 24, 25, 26, 27, 28, 29, 30, 31, 32, 33, 34, 35, 36, 37, 38, 39, 40, 41, 42, 43, 44, 45, 46, 47, 48, 49, 50, 51, 52, 53, 54] from rfl, List.map_cons, List.map_nil, e2, e3, e4, e5, e6, e7, hdf]
    clear e2 e3 e4 e5 e6 e7 hG hsame hN hdf
    generalize bb.tmps.getD 0 undef = u0
    generalize bb.tmps.getD 1 undef = u1
    generalize bb.tmps.getD 8 undef = u8
    generalize bb.tmps.getD 9 undef = u9
    generalize bb.tmps.getD 10 undef = u10
    generalize bb.tmps.getD 11 undef = u11
    generalize bb.tmps.getD 12 undef = u12
    generalize bb.tmps.getD 13 undef = u13
    generalize bb.tmps.getD 14 undef = u14
    generalize bb.tmps.getD 15 undef = u15
    generalize bb.tmps.getD 16 undef = u16
    generalize bb.tmps.getD 17 undef = u17
    generalize bb.tmps.getD 18 undef = u18
    generalize bb.tmps.getD 19 undef = u19
    generalize bb.tmps.getD 20 undef = u20
    generalize bb.tmps.getD 21 undef = u21
    generalize bb.tmps.getD 22 undef = u22
    generalize bb.tmps.getD 23 undef = u23
    generalize bb.tmps.getD 24 undef = u24
    generalize bb.tmps.getD 25 undef = u25
    generalize bb.tmps.getD 26 undef = u26
    generalize bb.tmps.getD 27 undef = u27
    generalize bb.tmps.getD 28 undef = u28
    generalize bb.tmps.getD 29 undef = u29
    generalize bb.tmps.getD 30 undef = u30
    generalize bb.tmps.getD 31 undef = u31
    generalize bb.tmps.getD 32 undef = u32
    generalize bb.tmps.getD 33 undef = u33
    generalize bb.tmps.getD 34 undef = u34
    generalize bb.tmps.getD 35 undef = u35
    generalize bb.tmps.getD 36 undef = u36
    generalize bb.tmps.getD 37 undef = u37
    generalize bb.tmps.getD 38 undef = u38
    generalize bb.tmps.getD 39 undef = u39
    generalize bb.tmps.getD 40 undef = u40
    generalize bb.tmps.getD 41 undef = u41
    generalize bb.tmps.getD 42 undef = u42
    generalize bb.tmps.getD 43 undef = u43
    generalize bb.tmps.getD 44 undef = u44
    generalize bb.tmps.getD 45 undef = u45
    generalize bb.tmps.getD 46 undef = u46
    generalize bb.tmps.getD 47 undef = u47
    generalize bb.tmps.getD 48 undef = u48
    generalize bb.tmps.getD 49 undef = u49
    generalize bb.tmps.getD 50 undef = u50
    generalize bb.tmps.getD 51 undef = u51
    generalize bb.tmps.getD 52 undef = u52
    generalize bb.tmps.getD 53 undef = u53
    generalize bb.tmps.getD 54 undef = u54
    clear bb
    have HD5 := Lib.hid D5
    have HD6 := Lib.hid D6
    have HD7 := Lib.hid D7
    have HSu := Lib.hid hSu
    obtain ⟨⟨c0, c1, c2⟩, c3, c4, c5'⟩ := HC.out u hSu
    clear D5 D6 D7 hSu
    have qxy : (xn == yn) = false := beq_eq_false_iff_ne.2 XY.out
    have HO := Lib.hid (fun r hr => order_any A5 A6 c5 c6 (nd a.natAbs) (nd b.natAbs) u HD5.out.lies HD6.out.lies (Lib.hid HD5.out.dig) (Lib.hid HD6.out.dig) HD5.out.cap HD6.out.cap (by omega) (by omega) a.natAbs b.natAbs (Lib.hid (vl_nd _)) (Lib.hid (vl_nd _)) r hr)
    by_cases hle : b.natAbs ≤ a.natAbs
    · have HC1 : Hid (∃ r : Int, 0 ≤ r ∧ cmpN a.natAbs b.natAbs = r) := Lib.hid (by unfold cmpN; rw [if_neg (by omega)]; split <;> exact ⟨_, by decide, rfl⟩)
      obtain ⟨r, hr0, hr⟩ := HC1.out
      have HR := Lib.hid hr
      clear HC1 hr
      go_wp2_with fail
      refine (HO.out r HR).mono ?_
      rintro e w' ⟨rfl, nq, rfl⟩
      go_wp2_with fail
      have hc0 : ∀ v, Below (u.drewN nq).heap.size (u.drewN nq) v → v.cell? ⟨w.heap.size, 0, none⟩ = some (.bool xn) := fun v hv => (hv.cell (p := ⟨w.heap.size, 0, none⟩) (by have := HSu.out.size; simp; omega)).trans c0
      have HC0 := Lib.hid hc0
      have HSV : Hid (Below W.heap.size W (u.drewN nq)) := Lib.hid (HSu.out.trans (below_drewN' _ _))
      have NN : Hid (((a.natAbs - b.natAbs : Nat) : Int) = vl (nd a.natAbs) - vl (nd b.natAbs)) := Lib.hid (by rw [vl_nd, vl_nd]; omega)
      have MA : Hid (a.natAbs - b.natAbs = (a + b).natAbs) := Lib.hid (by have h := hab.out; rw [ne_eq, decide_eq_decide] at h; omega)
      have SG : Hid ((xn && decide ((a + b).natAbs ≠ 0)) = decide (a + b < 0)) := Lib.hid (by have h := hab.out; rw [ne_eq, decide_eq_decide] at h; rw [XN.out, Bool.eq_iff_iff]; simp only [Bool.and_eq_true, decide_eq_true_eq]; omega)
      have LE : Hid ((nd b.natAbs).length ≤ (nd a.natAbs).length) := Lib.hid (nd_len_mono (by omega))
      have BX2 := Lib.hid ((HBX.out.below HSu.out).below (below_drewN' u nq))
      have HB2 := Lib.hid (HB0.out.trans (HSV.out.mono HB0.out.size))
      clear hc0 c0 c1 c2 c3 c4 c5' HO
      generalize hV : u.drewN nq = V at *
      have D5 : Hid (Dg V A5 c5 (nd a.natAbs)) := Lib.hid (by rw [← hV]; exact HD5.out.below (below_drewN' _ _))
      have D6 : Hid (Dg V A6 c6 (nd b.natAbs)) := Lib.hid (by rw [← hV]; exact HD6.out.below (below_drewN' _ _))
      have D7 : Hid (Dg V A7 c7 (nd 1)) := Lib.hid (by rw [← hV]; exact HD7.out.below (below_drewN' _ _))
      clear hV HD5 HD6 HD7 HSu
      refine wp_region_slots_pop 7 55 rfl (by kernel_rfl) (by kernel_rfl) (by kernel_rfl) (by kernel_rfl) (fun v => Below V.heap.size V v) (fun v v' => Below v.heap.size v v') (endG xn A5 A6 A7 c5 c6 c7 a b a b A5 A6 c5 c6 (w.heap.size)) endG_keep ?_ ?_ ?_
      · exact (Below.refl _ V).drew
      · simp only [List.pop_toArray, List.dropLast, StepsFrom]
        refine ⟨?_, ?_, ?_, ?_, ?_, ?_, ?_, trivial⟩
        · intro bb v hSu hdep hkept K hK
          have e2 : bb.tmps.getD 2 undef = .pointer (some ⟨w.heap.size, 0, none⟩) := hkept 2 (by kernel_rfl)
          go_simp
          exact hK _ _ hSu (Below.refl _ _) rfl
        · intro bb v hSu hdep hkept K hK
          have e41 : bb.tmps.getD 41 undef = .pointer (some ⟨w.heap.size, 0, none⟩) := hdep 0 _ rfl (by kernel_rfl)
          have c0 := HC0.out v hSu
          go_simp
          exact hK _ _ hSu (Below.refl _ _) rfl
        · intro bb v hSu hdep hkept K hK
          have e5 : bb.tmps.getD 5 undef = .slice A5 (nd a.natAbs).length c5 := hkept 5 (by kernel_rfl)
          go_simp
          exact hK _ _ hSu (Below.refl _ _) rfl
        · intro bb v hSu hdep hkept K hK
          have e6 : bb.tmps.getD 6 undef = .slice A6 (nd b.natAbs).length c6 := hkept 6 (by kernel_rfl)
          go_simp
          exact hK _ _ hSu (Below.refl _ _) rfl
        · intro bb v hSu hdep hkept K hK
          have e43 : bb.tmps.getD 43 undef = .slice A5 (nd a.natAbs).length c5 := hdep 2 _ rfl (by kernel_rfl)
          have e44 : bb.tmps.getD 44 undef = .slice A6 (nd b.natAbs).length c6 := hdep 3 _ rfl (by kernel_rfl)
          go_simp
          refine (minus_any A5 A6 c5 c6 _ _ v (D5.out.below hSu).lies (D6.out.below hSu).lies (Lib.hid (dgs_nd _)) (Lib.hid (dgs_nd _)) LE.out (by omega) (a.natAbs - b.natAbs) (Lib.hid NN.out.symm)).mono ?_
          rintro e w' ⟨A, c, rfl, h1, h2, h3, h4⟩
          go_simp
          exact hK _ _ (hSu.trans (h4.mono hSu.size)) h4 ⟨A, c, rfl, ⟨h1, dgs_nd _, h2, h3⟩⟩
        · intro bb v hSu hdep hkept K hK
          have e7 : bb.tmps.getD 7 undef = .slice A7 (nd 1).length c7 := hkept 7 (by kernel_rfl)
          go_simp
          exact hK _ _ hSu (Below.refl _ _) rfl
        · intro bb v hSu hdep hkept K hK
          have e42 : bb.tmps.getD 42 undef = .bool xn := hdep 1 _ rfl (by kernel_rfl)
          obtain ⟨A45, c45, e45, D45⟩ : ∃ A c, bb.tmps.getD 45 undef = .slice A (nd (a.natAbs - b.natAbs)).length c ∧ Dg v A c (nd (a.natAbs - b.natAbs)) := hdep 4 _ rfl (by kernel_rfl)
          have e46 : bb.tmps.getD 46 undef = .slice A7 (nd 1).length c7 := hdep 5 _ rfl (by kernel_rfl)
          go_simp
          refine (make1_one xn A45 A7 c45 c7 _ _ v D45 (D7.out.below hSu) (by have := nd_len_mono (show a.natAbs - b.natAbs ≤ a.natAbs by omega); omega) (by rw [nd_one]; simp) (a.natAbs - b.natAbs) (Lib.hid (vl_nd _)) (Lib.hid (.inr (by rw [nd_one]; rfl)))).mono ?_
          intro e w' hR
          obtain ⟨r, rfl, hr, h4⟩ := hR.fz (by rw [MA.out]; exact SG.out) MA.out
          go_simp
          exact hK _ _ (hSu.trans (h4.mono hSu.size)) h4 ⟨r, rfl, hr⟩
      · intro bb v hN hdf hSu hG hsame
        obtain ⟨r, e47, hr⟩ : ∃ r : Fr, bb.tmps.getD 47 undef = r.val ∧ Fz v r (a + b) := hG 6 _ rfl
        have e4 : bb.tmps.getD 4 undef = .pointer (some ⟨w.heap.size + 1 + 1, 0, none⟩) := hsame 4 (by kernel_rfl)
        have BX3 := BX2.out.below hSu
        obtain ⟨c0, c1, c2, f0, f1, f2⟩ := BX3.facts
        have BXH := Lib.hid BX3
        have HR := Lib.hid hr
        have HB3 := Lib.hid (HB2.out.trans (hSu.mono HB2.out.size))
        clear BX3 hr hSu hG hsame
        rw [frame_lit bb 55 hN]
        simp only [show List.range 55 = [0, 1, 2, 3, 4, 5, 6, 7, 8, 9, 10, 11, 12, 13, 14, 15, 16, 17, 18, 19, 20, 21, 22, 23, 24, 25, 26, 27, 28, 29, 30, 31, 32, 33, 34, 35, 36, 37, 38, 39, 40, 41, 42, 43, 44, 45, 46, 47, 48, 49, 50, 51, 52, 53, 54] from rfl, List.map_cons, List.map_nil, e4, e47, hdf]
        clear e4 e47 hN hdf
        generalize bb.tmps.getD 0 undef = z0
        generalize bb.tmps.getD 1 undef = z1
        generalize bb.tmps.getD 2 undef = z2
        generalize bb.tmps.getD 3 undef = z3
        generalize bb.tmps.getD 5 undef = z5
        generalize bb.tmps.getD 6 undef = z6
        generalize bb.tmps.getD 7 undef = z7
        generalize bb.tmps.getD 8 undef = z8
        generalize bb.tmps.getD 9 undef = z9
        generalize bb.tmps.getD 10 undef = z10
        generalize bb.tmps.getD 11 undef = z11
        generalize bb.tmps.getD 12 undef = z12
        generalize bb.tmps.getD 13 undef = z13
        generalize bb.tmps.getD 14 undef = z14
        generalize bb.tmps.getD 15 undef = z15
        generalize bb.tmps.getD 16 undef = z16
        generalize bb.tmps.getD 17 undef = z17
        generalize bb.tmps.getD 18 undef = z18
        generalize bb.tmps.getD 19 undef = z19
        generalize bb.tmps.getD 20 undef = z20
        generalize bb.tmps.getD 21 undef = z21
        generalize bb.tmps.getD 22 undef = z22
        generalize bb.tmps.getD 23 undef = z23
        generalize bb.tmps.getD 24 undef = z24
        generalize bb.tmps.getD 25 undef = z25
        generalize bb.tmps.getD 26 undef = z26
        generalize bb.tmps.getD 27 undef = z27
        generalize bb.tmps.getD 28 undef = z28
        generalize bb.tmps.getD 29 undef = z29
        generalize bb.tmps.getD 30 undef = z30
        generalize bb.tmps.getD 31 undef = z31
        generalize bb.tmps.getD 32 undef = z32
        generalize bb.tmps.getD 33 undef = z33
        generalize bb.tmps.getD 34 undef = z34
        generalize bb.tmps.getD 35 undef = z35
        generalize bb.tmps.getD 36 undef = z36
        generalize bb.tmps.getD 37 undef = z37
        generalize bb.tmps.getD 38 undef = z38
        generalize bb.tmps.getD 39 undef = z39
        generalize bb.tmps.getD 40 undef = z40
        generalize bb.tmps.getD 41 undef = z41
        generalize bb.tmps.getD 42 undef = z42
        generalize bb.tmps.getD 43 undef = z43
        generalize bb.tmps.getD 44 undef = z44
        generalize bb.tmps.getD 45 undef = z45
        generalize bb.tmps.getD 46 undef = z46
        generalize bb.tmps.getD 48 undef = z48
        generalize bb.tmps.getD 49 undef = z49
        generalize bb.tmps.getD 50 undef = z50
        generalize bb.tmps.getD 51 undef = z51
        generalize bb.tmps.getD 52 undef = z52
        generalize bb.tmps.getD 53 undef = z53
        generalize bb.tmps.getD 54 undef = z54
        obtain ⟨rn, rA, rc, rN, rB, rd, rD⟩ := r
        refine PopQ.last rfl rfl (fun K hK => ?_)
        go_simp
        refine hK _ _ ?_
        clear hK K
        go_wp2_with fail
        obtain ⟨g0, g1, g2⟩ := box3 (.bool rn) (.slice rA rN.length rc) (.slice rB rD.length rd) c0 c1 c2
        refine bodyPost_ret (v := .agg #[.bool rn, .slice rA rN.length rc, .slice rB rD.length rd]) (by simp [results, Tryz.results105, go_sem, g0, g1, g2]) rfl ?_
        exact ⟨⟨rn, rA, rc, rN, rB, rd, rD⟩, rfl, HR.out.boxed BXH.out _ _ _, ((HB3.out.setCell (by simp; omega) _).setCell (by simp; omega) _).setCell (by simp; omega) _⟩
    · have HC1 : Hid (∃ r : Int, r < 0 ∧ cmpN a.natAbs b.natAbs = r) := Lib.hid ⟨-1, by decide, cmpN_lt (by omega)⟩
      obtain ⟨r, hr0, hr⟩ := HC1.out
      have HR := Lib.hid hr
      clear HC1 hr
      go_wp2_with fail
      refine (HO.out r HR).mono ?_
      rintro e w' ⟨rfl, nq, rfl⟩
      go_wp2_with fail
      have hc0 : ∀ v, Below (u.drewN nq).heap.size (u.drewN nq) v → v.cell? ⟨w.heap.size + 1, 0, none⟩ = some (.bool yn) := fun v hv => (hv.cell (p := ⟨w.heap.size + 1, 0, none⟩) (by have := HSu.out.size; simp; omega)).trans c3
      have HC0 := Lib.hid hc0
      have HSV : Hid (Below W.heap.size W (u.drewN nq)) := Lib.hid (HSu.out.trans (below_drewN' _ _))
      have NN : Hid (((b.natAbs - a.natAbs : Nat) : Int) = vl (nd b.natAbs) - vl (nd a.natAbs)) := Lib.hid (by rw [vl_nd, vl_nd]; omega)
      have MA : Hid (b.natAbs - a.natAbs = (a + b).natAbs) := Lib.hid (by have h := hab.out; rw [ne_eq, decide_eq_decide] at h; omega)
      have SG : Hid ((yn && decide ((a + b).natAbs ≠ 0)) = decide (a + b < 0)) := Lib.hid (by have h := hab.out; rw [ne_eq, decide_eq_decide] at h; rw [YN.out, Bool.eq_iff_iff]; simp only [Bool.and_eq_true, decide_eq_true_eq]; omega)
      have LE : Hid ((nd a.natAbs).length ≤ (nd b.natAbs).length) := Lib.hid (nd_len_mono (by omega))
      have BX2 := Lib.hid ((HBX.out.below HSu.out).below (below_drewN' u nq))
      have HB2 := Lib.hid (HB0.out.trans (HSV.out.mono HB0.out.size))
      clear hc0 c0 c1 c2 c3 c4 c5' HO
      generalize hV : u.drewN nq = V at *
      have D5 : Hid (Dg V A5 c5 (nd a.natAbs)) := Lib.hid (by rw [← hV]; exact HD5.out.below (below_drewN' _ _))
      have D6 : Hid (Dg V A6 c6 (nd b.natAbs)) := Lib.hid (by rw [← hV]; exact HD6.out.below (below_drewN' _ _))
      have D7 : Hid (Dg V A7 c7 (nd 1)) := Lib.hid (by rw [← hV]; exact HD7.out.below (below_drewN' _ _))
      clear hV HD5 HD6 HD7 HSu
      refine wp_region_slots_pop 7 55 rfl (by kernel_rfl) (by kernel_rfl) (by kernel_rfl) (by kernel_rfl) (fun v => Below V.heap.size V v) (fun v v' => Below v.heap.size v v') (endG yn A5 A6 A7 c5 c6 c7 a b b a A6 A5 c6 c5 (w.heap.size + 1)) endG_keep ?_ ?_ ?_
      · exact (Below.refl _ V).drew
      · simp only [List.pop_toArray, List.dropLast, StepsFrom]
        refine ⟨?_, ?_, ?_, ?_, ?_, ?_, ?_, trivial⟩
        · intro bb v hSu hdep hkept K hK
          have e3 : bb.tmps.getD 3 undef = .pointer (some ⟨w.heap.size + 1, 0, none⟩) := hkept 3 (by kernel_rfl)
          go_simp
          exact hK _ _ hSu (Below.refl _ _) rfl
        · intro bb v hSu hdep hkept K hK
          have e48 : bb.tmps.getD 48 undef = .pointer (some ⟨w.heap.size + 1, 0, none⟩) := hdep 0 _ rfl (by kernel_rfl)
          have c0 := HC0.out v hSu
          go_simp
          exact hK _ _ hSu (Below.refl _ _) rfl
        · intro bb v hSu hdep hkept K hK
          have e6 : bb.tmps.getD 6 undef = .slice A6 (nd b.natAbs).length c6 := hkept 6 (by kernel_rfl)
          go_simp
          exact hK _ _ hSu (Below.refl _ _) rfl
        · intro bb v hSu hdep hkept K hK
          have e5 : bb.tmps.getD 5 undef = .slice A5 (nd a.natAbs).length c5 := hkept 5 (by kernel_rfl)
          go_simp
          exact hK _ _ hSu (Below.refl _ _) rfl
        · intro bb v hSu hdep hkept K hK
          have e50 : bb.tmps.getD 50 undef = .slice A6 (nd b.natAbs).length c6 := hdep 2 _ rfl (by kernel_rfl)
          have e51 : bb.tmps.getD 51 undef = .slice A5 (nd a.natAbs).length c5 := hdep 3 _ rfl (by kernel_rfl)
          go_simp
          refine (minus_any A6 A5 c6 c5 _ _ v (D6.out.below hSu).lies (D5.out.below hSu).lies (Lib.hid (dgs_nd _)) (Lib.hid (dgs_nd _)) LE.out (by omega) (b.natAbs - a.natAbs) (Lib.hid NN.out.symm)).mono ?_
          rintro e w' ⟨A, c, rfl, h1, h2, h3, h4⟩
          go_simp
          exact hK _ _ (hSu.trans (h4.mono hSu.size)) h4 ⟨A, c, rfl, ⟨h1, dgs_nd _, h2, h3⟩⟩
        · intro bb v hSu hdep hkept K hK
          have e7 : bb.tmps.getD 7 undef = .slice A7 (nd 1).length c7 := hkept 7 (by kernel_rfl)
          go_simp
          exact hK _ _ hSu (Below.refl _ _) rfl
        · intro bb v hSu hdep hkept K hK
          have e49 : bb.tmps.getD 49 undef = .bool yn := hdep 1 _ rfl (by kernel_rfl)
          obtain ⟨A52, c52, e52, D52⟩ : ∃ A c, bb.tmps.getD 52 undef = .slice A (nd (b.natAbs - a.natAbs)).length c ∧ Dg v A c (nd (b.natAbs - a.natAbs)) := hdep 4 _ rfl (by kernel_rfl)
          have e53 : bb.tmps.getD 53 undef = .slice A7 (nd 1).length c7 := hdep 5 _ rfl (by kernel_rfl)
          go_simp
          refine (make1_one yn A52 A7 c52 c7 _ _ v D52 (D7.out.below hSu) (by have := nd_len_mono (show b.natAbs - a.natAbs ≤ b.natAbs by omega); omega) (by rw [nd_one]; simp) (b.natAbs - a.natAbs) (Lib.hid (vl_nd _)) (Lib.hid (.inr (by rw [nd_one]; rfl)))).mono ?_
          intro e w' hR
          obtain ⟨r, rfl, hr, h4⟩ := hR.fz (by rw [MA.out]; exact SG.out) MA.out
          go_simp
          exact hK _ _ (hSu.trans (h4.mono hSu.size)) h4 ⟨r, rfl, hr⟩
      · intro bb v hN hdf hSu hG hsame
        obtain ⟨r, e54, hr⟩ : ∃ r : Fr, bb.tmps.getD 54 undef = r.val ∧ Fz v r (a + b) := hG 6 _ rfl
        have e4 : bb.tmps.getD 4 undef = .pointer (some ⟨w.heap.size + 1 + 1, 0, none⟩) := hsame 4 (by kernel_rfl)
        have BX3 := BX2.out.below hSu
        obtain ⟨c0, c1, c2, f0, f1, f2⟩ := BX3.facts
        have BXH := Lib.hid BX3
        have HR := Lib.hid hr
        have HB3 := Lib.hid (HB2.out.trans (hSu.mono HB2.out.size))
        clear BX3 hr hSu hG hsame
        rw [frame_lit bb 55 hN]
        simp only [show List.range 55 = [0, 1, 2, 3, 4, 5, 6, 7, 8, 9, 10, 11, 12, 13, 14, 15, 16, 17, 18, 19, 20, 21, 22, 23, 24, 25, 26, 27, 28, 29, 30, 31, 32, 33, 34, 35, 36, 37, 38, 39, 40, 41, 42, 43, 44, 45, 46, 47, 48, 49, 50, 51, 52, 53, 54] from rfl, List.map_cons, List.map_nil, e4, e54, hdf]
        clear e4 e54 hN hdf
        generalize bb.tmps.getD 0 undef = z0
        generalize bb.tmps.getD 1 undef = z1
        generalize bb.tmps.getD 2 undef = z2
        generalize bb.tmps.getD 3 undef = z3
        generalize bb.tmps.getD 5 undef = z5
        generalize bb.tmps.getD 6 undef = z6
        generalize bb.tmps.getD 7 undef = z7
        generalize bb.tmps.getD 8 undef = z8
        generalize bb.tmps.getD 9 undef = z9
        generalize bb.tmps.getD 10 undef = z10
        generalize bb.tmps.getD 11 undef = z11
        generalize bb.tmps.getD 12 undef = z12
        generalize bb.tmps.getD 13 undef = z13
        generalize bb.tmps.getD 14 undef = z14
        generalize bb.tmps.getD 15 undef = z15
        generalize bb.tmps.getD 16 undef = z16
        generalize bb.tmps.getD 17 undef = z17
        generalize bb.tmps.getD 18 undef = z18
        generalize bb.tmps.getD 19 undef = z19
        generalize bb.tmps.getD 20 undef = z20
        generalize bb.tmps.getD 21 undef = z21
        generalize bb.tmps.getD 22 undef = z22
        generalize bb.tmps.getD 23 undef = z23
        generalize bb.tmps.getD 24 undef = z24
        generalize bb.tmps.getD 25 undef = z25
        generalize bb.tmps.getD 26 undef = z26
        generalize bb.tmps.getD 27 undef = z27
        generalize bb.tmps.getD 28 undef = z28
        generalize bb.tmps.getD 29 undef = z29
        generalize bb.tmps.getD 30 undef = z30
        generalize bb.tmps.getD 31 undef = z31
        generalize bb.tmps.getD 32 undef = z32
        generalize bb.tmps.getD 33 undef = z33
        generalize bb.tmps.getD 34 undef = z34
        generalize bb.tmps.getD 35 undef = z35
        generalize bb.tmps.getD 36 undef = z36
        generalize bb.tmps.getD 37 undef = z37
        generalize bb.tmps.getD 38 undef = z38
        generalize bb.tmps.getD 39 undef = z39
        generalize bb.tmps.getD 40 undef = z40
        generalize bb.tmps.getD 41 undef = z41
        generalize bb.tmps.getD 42 undef = z42
        generalize bb.tmps.getD 43 undef = z43
        generalize bb.tmps.getD 44 undef = z44
        generalize bb.tmps.getD 45 undef = z45
        generalize bb.tmps.getD 46 undef = z46
        generalize bb.tmps.getD 47 undef = z47
        generalize bb.tmps.getD 48 undef = z48
        generalize bb.tmps.getD 49 undef = z49
        generalize bb.tmps.getD 50 undef = z50
        generalize bb.tmps.getD 51 undef = z51
        generalize bb.tmps.getD 52 undef = z52
        generalize bb.tmps.getD 53 undef = z53
        obtain ⟨rn, rA, rc, rN, rB, rd, rD⟩ := r
        refine PopQ.last rfl rfl (fun K hK => ?_)
        go_simp
        refine hK _ _ ?_
        clear hK K
        go_wp2_with fail
        obtain ⟨g0, g1, g2⟩ := box3 (.bool rn) (.slice rA rN.length rc) (.slice rB rD.length rd) c0 c1 c2
        refine bodyPost_ret (v := .agg #[.bool rn, .slice rA rN.length rc, .slice rB rD.length rd]) (by simp [results, Tryz.results105, go_sem, g0, g1, g2]) rfl ?_
        exact ⟨⟨rn, rA, rc, rN, rB, rd, rD⟩, rfl, HR.out.boxed BXH.out _ _ _, ((HB3.out.setCell (by simp; omega) _).setCell (by simp; omega) _).setCell (by simp; omega) _⟩
end Go.Proofs.YtnflpnbpigcfhabGreatDoor
/- the reference's Neg, Sub, Sign, Cmp of integers -/
namespace Go.Proofs.YtnflpnbpigcfhabGreatDoor
open Go.RowKit Ear

/-- the box of a variable -/
def BxV (w : World) (k : Nat) (x : Fr) : Prop := w.heap[k]? = some (.cells #[.bool x.neg, .slice x.A x.N.length x.c, .slice x.B x.D.length x.d] 80 (0, 0))
theorem BxV.new (w : World) (x : Fr) : BxV (w.alloc (.cells #[.bool x.neg, .slice x.A x.N.length x.c, .slice x.B x.D.length x.d] 80)) w.heap.size x := heap_alloc_new w _
theorem BxV.lt {w : World} {k : Nat} {x : Fr} (h : BxV w k x) : k < w.heap.size := (Array.getElem?_eq_some_iff.1 h).1
theorem BxV.below {w w' : World} {k : Nat} {x : Fr} (h : BxV w k x) (hb : Below w.heap.size w w') : BxV w' k x := (hb.block k h.lt).trans h
theorem BxV.facts {w : World} {k : Nat} {x : Fr} (h : BxV w k x) : w.cell? ⟨k, 0, none⟩ = some (.bool x.neg) ∧ w.cell? ⟨k, 1, none⟩ = some (.slice x.A x.N.length x.c) ∧ w.cell? ⟨k, 2, none⟩ = some (.slice x.B x.D.length x.d) ∧ w.frozen? ⟨k, 0, none⟩ = false ∧ w.frozen? ⟨k, 1, none⟩ = false ∧ w.frozen? ⟨k, 2, none⟩ = false :=
  ⟨by rw [cell_of_row w k 0 _ _ _ h]; rfl, by rw [cell_of_row w k 1 _ _ _ h]; rfl, by rw [cell_of_row w k 2 _ _ _ h]; rfl, by simp [World.frozen?, show w.heap[k]? = _ from h], by simp [World.frozen?, show w.heap[k]? = _ from h], by simp [World.frozen?, show w.heap[k]? = _ from h]⟩
theorem Lies.apartV {w w' : World} {A : Option Addr} {l : List Int} {k : Nat} {x : Fr} (h : Lies w A (ucs l)) (hb : BxV w k x) (hs : w.heap.size ≤ w'.heap.size) (hk : ∀ b, b ≠ k → b < w.heap.size → w'.heap[b]? = w.heap[b]?) : Lies w' A (ucs l) := fun h0 => by
  obtain ⟨b, off, e, hlt, hc⟩ := h h0
  have hne : b ≠ k := by
    rintro rfl
    have hl : 0 < l.length := by simpa using h0
    have := hc 0 (.int .u32 l[0]) (by simp [List.getElem?_eq_getElem hl])
    rw [cell_of_row w b _ _ _ _ hb] at this
    rcases (show off + 0 = 0 ∨ off + 0 = 1 ∨ off + 0 = 2 ∨ 3 ≤ off + 0 by omega) with e | e | e | e
    · rw [e] at this; simp at this
    · rw [e] at this; simp at this
    · rw [e] at this; simp at this
    · rw [Array.getElem?_eq_none (by simpa using e)] at this; cases this
  exact ⟨b, off, e, by omega, fun j u hu => by
    rw [← hc j u hu]
    exact World.cell?_of_block (a := ⟨b, off + j, none⟩) (hk b hne hlt)⟩
theorem FrOk.boxedV {w : World} {x y : Fr} {k : Nat} (h : FrOk w x) (hb : BxV w k y) (v0 v1 v2 : Value) : FrOk (((w.setCell ⟨k, 0, none⟩ v0).setCell ⟨k, 1, none⟩ v1).setCell ⟨k, 2, none⟩ v2) x := by
  have hk : ∀ b, b ≠ k → b < w.heap.size → (((w.setCell ⟨k, 0, none⟩ v0).setCell ⟨k, 1, none⟩ v1).setCell ⟨k, 2, none⟩ v2).heap[b]? = w.heap[b]? := fun b hne _ =>
    (Below.heap_setCell _ ⟨k, 2, none⟩ v2 b hne).trans ((Below.heap_setCell _ ⟨k, 1, none⟩ v1 b hne).trans (Below.heap_setCell _ ⟨k, 0, none⟩ v0 b hne))
  exact ⟨⟨h.n.lies.apartV hb (by simp) hk, h.n.dig, h.n.cap, h.n.nil⟩, ⟨h.d.lies.apartV hb (by simp) hk, h.d.dig, h.d.cap, h.d.nil⟩⟩
theorem Fz.boxedV {w : World} {x y : Fr} {z : Int} {k : Nat} (h : Fz w x z) (hb : BxV w k y) (v0 v1 v2 : Value) : Fz (((w.setCell ⟨k, 0, none⟩ v0).setCell ⟨k, 1, none⟩ v1).setCell ⟨k, 2, none⟩ v2) x z := ⟨h.ok.boxedV hb v0 v1 v2, h.neg, h.num, h.den⟩
theorem BxV.set {w : World} {k : Nat} {y : Fr} (hb : BxV w k y) (x : Fr) : BxV (((w.setCell ⟨k, 0, none⟩ (.bool x.neg)).setCell ⟨k, 1, none⟩ (.slice x.A x.N.length x.c)).setCell ⟨k, 2, none⟩ (.slice x.B x.D.length x.d)) k x := by
  have hb' : w.heap[k]? = _ := hb
  unfold BxV
  simp [World.setCell, Array.getElem?_modify, hb']
theorem BxV.other {w : World} {k h : Nat} {x : Fr} (hb : BxV w k x) (hne : k ≠ h) {v0 v1 v2 : Value} : BxV (((w.setCell ⟨h, 0, none⟩ v0).setCell ⟨h, 1, none⟩ v1).setCell ⟨h, 2, none⟩ v2) k x :=
  (Below.heap_setCell _ ⟨h, 2, none⟩ v2 k hne).trans ((Below.heap_setCell _ ⟨h, 1, none⟩ v1 k hne).trans ((Below.heap_setCell _ ⟨h, 0, none⟩ v0 k hne).trans hb))
theorem Dg.alloc {w : World} {A : Option Addr} {c : Nat} {l : List Int} (h : Dg w A c l) (o : Obj) : Dg (w.alloc o) A c l := h.below ((Below.refl _ w).alloc (Nat.le_refl _) o)
theorem Fz.alloc {w : World} {x : Fr} {z : Int} (h : Fz w x z) (o : Obj) : Fz (w.alloc o) x z := h.below ((Below.refl _ w).alloc (Nat.le_refl _) o)
set_option maxRecDepth 100000 in
set_option maxHeartbeats 1000000 in
theorem rNeg_z (x : Fr) (a : Int) (w : World) (hx : Fz w x a) (ha : (nd a.natAbs).length ≤ 400000) : Calls Tryz.prog 106 #[x.val] w (RetFz (-a) w) := by
  have HX := Lib.hid hx
  have NX := Lib.hid hx.num
  obtain ⟨xn, xA, xc, xN, xB, xd, xD⟩ := x
  simp only at NX
  clear hx
  have XN : Hid (xn = decide (a < 0)) := Lib.hid HX.out.neg
  have XD : Hid (xD = []) := Lib.hid HX.out.den
  have SG : Hid (((!xn) && decide (a.natAbs ≠ 0)) = decide (-a < 0)) := Lib.hid (by rw [XN.out, Bool.eq_iff_iff]; simp only [Bool.and_eq_true, decide_eq_true_eq, Bool.not_eq_true', decide_eq_false_iff_not]; omega)
  have HM := Lib.hid (fun W (hW : Fz W ⟨xn, xA, xc, xN, xB, xd, xD⟩ a) => make1_one (!xn) xA xB xc xd xN xD W hW.ok.n hW.ok.d (by rw [NX.out]; omega) (by rw [XD.out]; simp) a.natAbs (Lib.hid (by rw [NX.out]; exact vl_nd _)) (Lib.hid (.inl (by rw [XD.out]; rfl))))
  go_enter Tryz.func106, Tryz.ntmps106
  go_wp2_with fail
  refine (HM.out _ ((HX.out.alloc _).alloc _)).mono ?_
  intro e w2 hR
  obtain ⟨r, rfl, hr, hb⟩ := hR.fz SG.out (Int.natAbs_neg a).symm
  have BX0 : Bx ((w.alloc (.cells #[.bool xn, .slice xA xN.length xc, .slice xB xD.length xd] 80)).alloc (.cells #[.bool false, .slice none 0 0, .slice none 0 0] 80)) (w.heap.size + 1) := by
    have := Bx.new (w.alloc (.cells #[.bool xn, .slice xA xN.length xc, .slice xB xD.length xd] 80)); simpa using this
  have BX2 := BX0.below hb
  obtain ⟨c0, c1, c2, f0, f1, f2⟩ := BX2.facts
  have BXH := Lib.hid BX2
  have HR := Lib.hid hr
  have HB2 : Hid (Below w.heap.size w w2) := Lib.hid ((((Below.refl _ _).alloc (Nat.le_refl _) _).alloc (by simp) _).trans (hb.mono (by simp; omega)))
  clear hR BX0 BX2 hr hb HM
  obtain ⟨rn, rA, rc, rN, rB, rd, rD⟩ := r
  go_wp2_with fail
  obtain ⟨g0, g1, g2⟩ := box3 (.bool rn) (.slice rA rN.length rc) (.slice rB rD.length rd) c0 c1 c2
  refine bodyPost_ret (v := .agg #[.bool rn, .slice rA rN.length rc, .slice rB rD.length rd]) (by simp [results, Tryz.results106, go_sem, g0, g1, g2]) rfl ?_
  exact ⟨⟨rn, rA, rc, rN, rB, rd, rD⟩, rfl, HR.out.boxed BXH.out _ _ _, ((HB2.out.setCell (by simp) _).setCell (by simp) _).setCell (by simp) _⟩
def subG (x y : Fr) (a b : Int) : Nat → Value → World → Prop
  | 0, v, _ => v = x.val
  | 1, v, _ => v = y.val
  | 2, v, w => ∃ r : Fr, v = r.val ∧ Fz w r (-b)
  | 3, v, w => ∃ r : Fr, v = r.val ∧ Fz w r (a - b)
  | _, _, _ => True
theorem subG_keep {x y : Fr} {a b : Int} : ∀ j v w w', subG x y a b j v w → Below w.heap.size w w' → subG x y a b j v w' := by
  intro j v w w' h hb
  unfold subG at *
  split at h <;> first
    | exact h
    | (obtain ⟨r, h1, h2⟩ := h; exact ⟨r, h1, h2.below hb⟩)
set_option maxRecDepth 100000 in
set_option maxHeartbeats 2000000 in
theorem rSub_pos (x y : Fr) (a b : Int) (w : World) (hx : Fz w x a) (hy : Fz w y b) (ha : (nd a.natAbs).length ≤ 400000) (hb : (nd b.natAbs).length ≤ 400000) (h1 : 0 < a) (h2 : 0 < b) :
    Calls Tryz.prog 95 #[x.val, y.val] w (RetFz (a - b) w) := by
  have HX := Lib.hid hx
  have HY := Lib.hid hy
  obtain ⟨xn, xA, xc, xN, xB, xd, xD⟩ := x
  obtain ⟨yn, yA, yc, yN, yB, yd, yD⟩ := y
  clear hx hy
  have OPP : Hid (decide (a < 0) ≠ decide (-b < 0)) := Lib.hid (by rw [ne_eq, decide_eq_decide]; omega)
  go_enter Tryz.func95, Tryz.ntmps95
  go_wp2_with fail
  obtain ⟨W, hW⟩ : ∃ W : World, W = ((w.alloc (.cells #[.bool xn, .slice xA xN.length xc, .slice xB xD.length xd] 80)).alloc (.cells #[.bool yn, .slice yA yN.length yc, .slice yB yD.length yd] 80)).alloc (.cells #[.bool false, .slice none 0 0, .slice none 0 0] 80) := ⟨_, rfl⟩
  rw [← hW]
  have hs : W.heap.size = w.heap.size + 3 := by rw [hW]; simp
  have HB0 : Hid (Below w.heap.size w W) := Lib.hid (by rw [hW]; exact ((((Below.refl _ _).alloc (Nat.le_refl _) _).alloc (by simp) _).alloc (by simp; omega) _))
  have HBX : Hid (Bx W (w.heap.size + 1 + 1)) := Lib.hid (by rw [hW]; have := Bx.new ((w.alloc (.cells #[.bool xn, .slice xA xN.length xc, .slice xB xD.length xd] 80)).alloc (.cells #[.bool yn, .slice yA yN.length yc, .slice yB yD.length yd] 80)); simpa using this)
  have HC : Hid (∀ u, Below W.heap.size W u → (u.cell? ⟨w.heap.size, 0, none⟩ = some (.bool xn) ∧ u.cell? ⟨w.heap.size, 1, none⟩ = some (.slice xA xN.length xc) ∧ u.cell? ⟨w.heap.size, 2, none⟩ = some (.slice xB xD.length xd)) ∧ u.cell? ⟨w.heap.size + 1, 0, none⟩ = some (.bool yn) ∧ u.cell? ⟨w.heap.size + 1, 1, none⟩ = some (.slice yA yN.length yc) ∧ u.cell? ⟨w.heap.size + 1, 2, none⟩ = some (.slice yB yD.length yd)) := Lib.hid (fun u hu => by
    rw [hu.cell (p := ⟨w.heap.size, 0, none⟩) (by simp; omega), hu.cell (p := ⟨w.heap.size, 1, none⟩) (by simp; omega), hu.cell (p := ⟨w.heap.size, 2, none⟩) (by simp; omega), hu.cell (p := ⟨w.heap.size + 1, 0, none⟩) (by simp; omega), hu.cell (p := ⟨w.heap.size + 1, 1, none⟩) (by simp; omega), hu.cell (p := ⟨w.heap.size + 1, 2, none⟩) (by simp; omega), hW]
    simp [go_sem])
  clear hW
  refine wp_region_slots_pop 4 9 rfl (by kernel_rfl) (by kernel_rfl) (by kernel_rfl) (by kernel_rfl) (fun u => Below W.heap.size W u) (fun u u' => Below u.heap.size u u') (subG ⟨xn, xA, xc, xN, xB, xd, xD⟩ ⟨yn, yA, yc, yN, yB, yd, yD⟩ a b) subG_keep ?_ ?_ ?_
  · exact (Below.refl _ W).drew
  · simp only [List.pop_toArray, List.dropLast, StepsFrom]
    refine ⟨?_, ?_, ?_, ?_, trivial⟩
    · intro bb u hSu hdep hkept K hK
      have e2 : bb.tmps.getD 2 undef = .pointer (some ⟨w.heap.size, 0, none⟩) := hkept 2 (by kernel_rfl)
      obtain ⟨⟨c0, c1, c2⟩, c3, c4, c5⟩ := HC.out u hSu
      go_simp
      exact hK _ _ hSu (Below.refl _ _) rfl
    · intro bb u hSu hdep hkept K hK
      have e3 : bb.tmps.getD 3 undef = .pointer (some ⟨w.heap.size + 1, 0, none⟩) := hkept 3 (by kernel_rfl)
      obtain ⟨⟨c0, c1, c2⟩, c3, c4, c5⟩ := HC.out u hSu
      go_simp
      exact hK _ _ hSu (Below.refl _ _) rfl
    · intro bb u hSu hdep hkept K hK
      have e6 : bb.tmps.getD 6 undef = Fr.val ⟨yn, yA, yc, yN, yB, yd, yD⟩ := hdep 1 _ rfl (by kernel_rfl)
      go_simp
      refine (rNeg_z _ b u (HY.out.below' hSu HB0.out) hb).mono ?_
      rintro e w' ⟨r, rfl, hr, h4⟩
      go_simp
      exact hK _ _ (hSu.trans (h4.mono hSu.size)) h4 ⟨r, rfl, hr⟩
    · intro bb u hSu hdep hkept K hK
      have e5 : bb.tmps.getD 5 undef = Fr.val ⟨xn, xA, xc, xN, xB, xd, xD⟩ := hdep 0 _ rfl (by kernel_rfl)
      obtain ⟨r, e7, hr⟩ : ∃ r : Fr, bb.tmps.getD 7 undef = r.val ∧ Fz u r (-b) := hdep 2 _ rfl (by kernel_rfl)
      go_simp
      refine (rAdd_opp _ r a (-b) u (HX.out.below' hSu HB0.out) hr ha (by rw [Int.natAbs_neg]; exact hb) OPP).mono ?_
      rintro e w' ⟨r', rfl, hr', h4⟩
      go_simp
      exact hK _ _ (hSu.trans (h4.mono hSu.size)) h4 ⟨r', rfl, by rw [Int.sub_eq_add_neg]; exact hr'⟩
  · intro bb u hN hdf hSu hG hsame
    obtain ⟨r, e8, hr⟩ : ∃ r : Fr, bb.tmps.getD 8 undef = r.val ∧ Fz u r (a - b) := hG 3 _ rfl
    have e4 : bb.tmps.getD 4 undef = .pointer (some ⟨w.heap.size + 1 + 1, 0, none⟩) := hsame 4 (by kernel_rfl)
    have BX2 := HBX.out.below hSu
    obtain ⟨c0, c1, c2, f0, f1, f2⟩ := BX2.facts
    have BXH := Lib.hid BX2
    have HR := Lib.hid hr
    have HB2 := Lib.hid (HB0.out.trans (hSu.mono HB0.out.size))
    clear BX2 hr hSu hG hsame
    rw [frame_lit bb 9 hN]
    simp only [show List.range 9 = [0, 1, 2, 3, 4, 5, 6, 7, 8] from rfl, List.map_cons, List.map_nil, e4, e8, hdf]
    obtain ⟨rn, rA, rc, rN, rB, rd, rD⟩ := r
    refine PopQ.last rfl rfl (fun K hK => ?_)
    go_simp
    refine hK _ _ ?_
    clear hK K
    go_wp2_with fail
    obtain ⟨g0, g1, g2⟩ := box3 (.bool rn) (.slice rA rN.length rc) (.slice rB rD.length rd) c0 c1 c2
    refine bodyPost_ret (v := .agg #[.bool rn, .slice rA rN.length rc, .slice rB rD.length rd]) (by simp [results, Tryz.results95, go_sem, g0, g1, g2]) rfl ?_
    exact ⟨⟨rn, rA, rc, rN, rB, rd, rD⟩, rfl, HR.out.boxed BXH.out _ _ _, ((HB2.out.setCell (by simp; omega) _).setCell (by simp; omega) _).setCell (by simp; omega) _⟩
set_option maxRecDepth 100000 in
set_option maxHeartbeats 1000000 in
theorem rSign_z (x : Fr) (a : Int) (w : World) (hx : Fz w x a) (ha : (nd a.natAbs).length ≤ 400000) : Calls Tryz.prog 94 #[x.val] w (RetIB (if a < 0 then -1 else if a = 0 then 0 else 1) w) := by
  have HX := Lib.hid hx
  have NX := Lib.hid hx.num
  obtain ⟨xn, xA, xc, xN, xB, xd, xD⟩ := x
  simp only at NX
  clear hx
  have XN : Hid (xn = decide (a < 0)) := Lib.hid HX.out.neg
  have HT := Lib.hid (fun W (hW : Fz W ⟨xn, xA, xc, xN, xB, xd, xD⟩ a) => trim_any xA xc xN W hW.ok.n.lies (Lib.hid hW.ok.n.dig) hW.ok.n.cap (by rw [NX.out]; omega) a.natAbs (Lib.hid (by rw [NX.out]; exact vl_nd _)))
  have HZ : Hid ((nd a.natAbs).length = 0 ↔ a = 0) := Lib.hid (by rw [nd_len_zero]; omega)
  by_cases h0 : a = 0
  · have h1 := HZ.out.2 h0
    have HR : Hid ((if a < 0 then -1 else if a = 0 then 0 else 1 : Int) = 0) := Lib.hid (by rw [if_neg (by omega), if_pos h0])
    rw [h1] at HT
    clear h0 h1
    rw [HR.out]
    clear HR
    go_enter Tryz.func94, Tryz.ntmps94
    go_wp2_with fail
    refine (HT.out _ (HX.out.alloc _)).mono ?_
    rintro e w' ⟨rfl, rfl⟩
    go_wp2_with fail
    go_ret
    exact ⟨rfl, (Below.refl _ _).alloc (Nat.le_refl _) _⟩
  · have q : (((nd a.natAbs).length : Int) == 0) = false := beq_eq_false_iff_ne.2 (fun h => h0 (HZ.out.1 (by omega)))
    by_cases hneg : a < 0
    · have hx : xn = true := by rw [XN.out]; simpa using hneg
      have HR : Hid ((if a < 0 then -1 else if a = 0 then 0 else 1 : Int) = -1) := Lib.hid (by rw [if_pos hneg])
      rw [HR.out]
      subst hx
      clear HR h0 hneg
      go_enter Tryz.func94, Tryz.ntmps94
      go_wp2_with fail
      refine (HT.out _ (HX.out.alloc _)).mono ?_
      rintro e w' ⟨rfl, rfl⟩
      go_wp2_with fail
      go_ret
      exact ⟨rfl, (Below.refl _ _).alloc (Nat.le_refl _) _⟩
    · have hx : xn = false := by rw [XN.out]; simpa using hneg
      have HR : Hid ((if a < 0 then -1 else if a = 0 then 0 else 1 : Int) = 1) := Lib.hid (by rw [if_neg hneg, if_neg h0])
      rw [HR.out]
      subst hx
      clear HR h0 hneg
      go_enter Tryz.func94, Tryz.ntmps94
      go_wp2_with fail
      refine (HT.out _ (HX.out.alloc _)).mono ?_
      rintro e w' ⟨rfl, rfl⟩
      go_wp2_with fail
      go_ret
      exact ⟨rfl, (Below.refl _ _).alloc (Nat.le_refl _) _⟩
set_option maxRecDepth 100000 in
set_option maxHeartbeats 1000000 in
theorem rCmp_pos (x y : Fr) (a b : Int) (w : World) (hx : Fz w x a) (hy : Fz w y b) (ha : (nd a.natAbs).length ≤ 300000) (hb : (nd b.natAbs).length ≤ 300000) (h1 : 0 < a) (h2 : 0 < b) :
    Calls Tryz.prog 69 #[x.val, y.val] w (RetIB (if a - b < 0 then -1 else if a - b = 0 then 0 else 1) w) := by
  have hl : (nd (a - b).natAbs).length ≤ 400000 := by
    rcases Int.le_total a b with h | h
    · have := nd_len_mono (show (a - b).natAbs ≤ b.natAbs by omega); omega
    · have := nd_len_mono (show (a - b).natAbs ≤ a.natAbs by omega); omega
  have HS := Lib.hid (fun W (hX : Fz W x a) (hY : Fz W y b) => rSub_pos x y a b W hX hY (by omega) (by omega) h1 h2)
  have HG := Lib.hid (fun W r (hR : Fz W r (a - b)) => rSign_z r (a - b) W hR hl)
  have HX := Lib.hid hx
  have HY := Lib.hid hy
  generalize (if a - b < 0 then -1 else if a - b = 0 then 0 else 1 : Int) = s at *
  clear hl
  obtain ⟨xn, xA, xc, xN, xB, xd, xD⟩ := x
  obtain ⟨yn, yA, yc, yN, yB, yd, yD⟩ := y
  clear hx hy
  go_enter Tryz.func69, Tryz.ntmps69
  go_wp2_with fail
  refine (HS.out _ ((HX.out.alloc _).alloc _) ((HY.out.alloc _).alloc _)).mono ?_
  rintro e w2 ⟨r, rfl, hr, hb2⟩
  have HB2 : Hid (Below w.heap.size w w2) := Lib.hid ((((Below.refl _ _).alloc (Nat.le_refl _) _).alloc (by simp) _).trans (hb2.mono (by simp; omega)))
  have HR := Lib.hid hr
  clear hr hb2
  go_wp2_with fail
  refine (HG.out _ r HR.out).mono ?_
  rintro e w3 ⟨rfl, hb3⟩
  go_wp2_with fail
  go_ret
  exact ⟨rfl, HB2.out.trans (hb3.mono HB2.out.size)⟩
end Go.Proofs.YtnflpnbpigcfhabGreatDoor
/- the reference's logarithm -/
namespace Go.Proofs.YtnflpnbpigcfhabGreatDoor
open Go.RowKit Ear
set_option linter.unusedVariables false

theorem pow_len {n k : Nat} (h : n ≤ 9223372036854775807) (hk : k ≤ 16) : (nd (n ^ k)).length ≤ 64 := by
  apply nd_len_le
  have h1 : n ^ k ≤ 9223372036854775807 ^ k := Nat.pow_le_pow_left h k
  have h2 : 9223372036854775807 ^ k ≤ 9223372036854775807 ^ 16 := Nat.pow_le_pow_right (by decide) hk
  have h3 : 9223372036854775807 ^ 16 < 4294967296 ^ 64 := by decide +kernel
  omega
theorem two_len {k : Nat} (hk : k ≤ 1100) : (nd (2 ^ k)).length ≤ 64 := by
  apply nd_len_le
  obtain ⟨m, hm⟩ : ∃ m : Nat, m = 1100 := ⟨_, rfl⟩
  have h2 : 2 ^ k ≤ 2 ^ m := Nat.pow_le_pow_right (by decide) (by omega)
  have h3 : 2 ^ m < 4294967296 ^ 64 := by subst hm; decide +kernel
  omega
def powG (x : Fr) (a n : Int) : Nat → Value → World → Prop
  | 0, v, _ => v = x.val
  | 1, v, _ => v = .int .i64 n
  | 2, v, w => ∃ r : Fr, v = r.val ∧ Fz w r n
  | 3, v, w => ∃ r : Fr, v = r.val ∧ Fz w r (a * n)
  | _, _, _ => True
theorem powG_keep {x : Fr} {a n : Int} : ∀ j v w w', powG x a n j v w → Below w.heap.size w w' → powG x a n j v w' := by
  intro j v w w' h hb
  unfold powG at *
  split at h <;> first
    | exact h
    | (obtain ⟨r, h1, h2⟩ := h; exact ⟨r, h1, h2.below hb⟩)
def cmpG (x y : Fr) (a b : Int) : Nat → Value → World → Prop
  | 0, v, _ => v = x.val
  | 1, v, w => ∃ r : Fr, v = r.val ∧ Fz w r 2
  | 2, v, w => ∃ r : Fr, v = r.val ∧ Fz w r a
  | 3, v, _ => v = y.val
  | 4, v, _ => v = .int .i64 (if a - b < 0 then -1 else if a - b = 0 then 0 else 1)
  | 5, v, _ => v = .bool (decide (a ≤ b))
  | _, _, _ => True
theorem cmpG_keep {x y : Fr} {a b : Int} : ∀ j v w w', cmpG x y a b j v w → Below w.heap.size w w' → cmpG x y a b j v w' := by
  intro j v w w' h hb
  unfold cmpG at *
  split at h <;> first
    | exact h
    | (obtain ⟨r, h1, h2⟩ := h; exact ⟨r, h1, h2.below hb⟩)
def twoG2 (x : Fr) (a : Int) : Nat → Value → World → Prop
  | 0, v, _ => v = x.val
  | 1, v, w => ∃ r : Fr, v = r.val ∧ Fz w r 2
  | 2, v, w => ∃ r : Fr, v = r.val ∧ Fz w r a
  | _, _, _ => True
theorem twoG2_keep {x : Fr} {a : Int} : ∀ j v w w', twoG2 x a j v w → Below w.heap.size w w' → twoG2 x a j v w' := by
  intro j v w w' h hb
  unfold twoG2 at *
  split at h <;> first
    | exact h
    | (obtain ⟨r, h1, h2⟩ := h; exact ⟨r, h1, h2.below hb⟩)
set_option maxHeartbeats 400000 in
theorem rLog_zero (w : World) : Calls Tryz.prog 39 #[.int .i64 0] w (RetIB (-16) w) := by
  go_enter Tryz.func39, Tryz.ntmps39
  go_wp2_with fail
  go_ret
  exact ⟨rfl, Below.refl _ _⟩
set_option maxRecDepth 100000 in
set_option maxHeartbeats 16000000 in
theorem rLog_pos (n : Nat) (w : World) (h0 : 0 < n) (h1 : n ≤ 9223372036854775807) : Calls Tryz.prog 39 #[.int .i64 n] w (RetIB (lg n) w) := by
  have hn0 : ((n : Int) == 0) = false := beq_eq_false_iff_ne.2 (by omega)
  have HL := Lib.hid (lg_pos (show n ≠ 0 by omega))
  have HN0 : Hid (n ^ 16 ≠ 0) := Lib.hid (pow16_ne (by omega))
  have HBD := Lib.hid (lg_bd (show n ≠ 0 by omega) (by omega))
  have HPL := Lib.hid (fun k hk => pow_len (n := n) (k := k) h1 hk)
  go_enter Tryz.func39, Tryz.ntmps39
  go_wp2_with fail
  refine (rOf_any 1 w (by decide) (by decide)).mono ?_
  rintro e w1 ⟨x0, rfl, hx0, hb1⟩
  have HX0 := Lib.hid hx0
  have HB1 := Lib.hid hb1
  clear hx0 hb1
  obtain ⟨xn, xA, xc, xN, xB, xd, xD⟩ := x0
  go_wp2_with fail
  obtain ⟨W, hW⟩ : ∃ W, W = w1.alloc (.cells #[.bool xn, .slice xA xN.length xc, .slice xB xD.length xd] 80) := ⟨_, rfl⟩
  have BV0 : Hid (BxV W w1.heap.size ⟨xn, xA, xc, xN, xB, xd, xD⟩) := Lib.hid (by rw [hW]; exact BxV.new w1 ⟨xn, xA, xc, xN, xB, xd, xD⟩)
  have FZ0 : Hid (Fz W ⟨xn, xA, xc, xN, xB, xd, xD⟩ ((n : Int) ^ 0)) := Lib.hid (by rw [hW, Int.pow_zero]; exact HX0.out.alloc _)
  have HBW : Hid (Below w.heap.size w W) := Lib.hid (by rw [hW]; exact HB1.out.alloc HB1.out.size _)
  have hG : w.heap.size ≤ w1.heap.size := HB1.out.size
  rw [← hW]
  clear hW
  generalize w1.heap.size = G at *
  clear HX0 HB1
  go_loopw [4] (fun i wr => ∃ k : Nat, k ≤ 16 ∧ i = .int .i64 k ∧ ∃ x : Fr, BxV wr G x ∧ Fz wr x ((n : Int) ^ k) ∧ Below w.heap.size w wr) (fun i _ => 16 - (intOf i).toNat)
  case atStart => exact ⟨0, by omega, rfl, _, BV0.out, FZ0.out, HBW.out⟩
  case round =>
    clear BV0 FZ0 HBW
    obtain ⟨k, hk, rfl, x, hbx, hfz, hbel⟩ := hrel
    have BXX := Lib.hid hbx
    have FZX := Lib.hid hfz
    have BEL := Lib.hid hbel
    clear hbx hfz hbel
    by_cases hlt : k < 16
    · go_wp2_with fail
      have HC : Hid (∀ u, Below wr.heap.size wr u → u.cell? ⟨G, 0, none⟩ = some (.bool x.neg) ∧ u.cell? ⟨G, 1, none⟩ = some (.slice x.A x.N.length x.c) ∧ u.cell? ⟨G, 2, none⟩ = some (.slice x.B x.D.length x.d)) := Lib.hid (fun u hu => ⟨(BXX.out.below hu).facts.1, (BXX.out.below hu).facts.2.1, (BXX.out.below hu).facts.2.2.1⟩)
      refine wp_region_slots_pop 4 31 rfl (by kernel_rfl) (by kernel_rfl) (by kernel_rfl) (by kernel_rfl) (fun u => Below wr.heap.size wr u) (fun u u' => Below u.heap.size u u') (powG x ((n : Int) ^ k) n) powG_keep ?_ ?_ ?_
      · exact (Below.refl _ wr).drew
      · simp only [List.pop_toArray, List.dropLast, StepsFrom]
        refine ⟨?_, ?_, ?_, ?_, trivial⟩
        · intro bb u hSu hdep hkept K hK
          have e3 : bb.tmps.getD 3 undef = .pointer (some ⟨G, 0, none⟩) := hkept 3 (by kernel_rfl)
          obtain ⟨c0, c1, c2⟩ := HC.out u hSu
          go_simp
          exact hK _ _ hSu (Below.refl _ _) rfl
        · intro bb u hSu hdep hkept K hK
          have e0 : bb.tmps.getD 0 undef = .int .i64 n := hkept 0 (by kernel_rfl)
          go_simp
          exact hK _ _ hSu (Below.refl _ _) rfl
        · intro bb u hSu hdep hkept K hK
          have e15 : bb.tmps.getD 15 undef = .int .i64 n := hdep 1 _ rfl (by kernel_rfl)
          go_simp
          refine (rOf_any n u (by omega) (by omega)).mono ?_
          rintro e w' ⟨r, rfl, hr, h4⟩
          go_simp
          exact hK _ _ (hSu.trans (h4.mono hSu.size)) h4 ⟨r, rfl, hr⟩
        · intro bb u hSu hdep hkept K hK
          have e14 : bb.tmps.getD 14 undef = x.val := hdep 0 _ rfl (by kernel_rfl)
          obtain ⟨r, e16, hr⟩ : ∃ r : Fr, bb.tmps.getD 16 undef = r.val ∧ Fz u r n := hdep 2 _ rfl (by kernel_rfl)
          go_simp
          refine (rMul_z x r ((n : Int) ^ k) n u (FZX.out.below hSu) hr (by have := HPL.out k (by omega); rw [show ((n : Int) ^ k).natAbs = n ^ k by rw [Int.natAbs_pow]; rfl]; omega) (by have := HPL.out 1 (by omega); rw [Nat.pow_one] at this; rw [Int.natAbs_natCast]; omega)).mono ?_
          rintro e w' ⟨r', rfl, hr', h4⟩
          go_simp
          exact hK _ _ (hSu.trans (h4.mono hSu.size)) h4 ⟨r', rfl, hr'⟩
      · intro bb u hN hdf hSu hG' hsame
        have e14 : bb.tmps.getD 14 undef = x.val := hG' 0 _ rfl
        have e15 : bb.tmps.getD 15 undef = .int .i64 n := hG' 1 _ rfl
        obtain ⟨r, e17, hr⟩ : ∃ r : Fr, bb.tmps.getD 17 undef = r.val ∧ Fz u r ((n : Int) ^ k * n) := hG' 3 _ rfl
        have BX2 := BXX.out.below hSu
        obtain ⟨c0, c1, c2, f0, f1, f2⟩ := BX2.facts
        have BXH := Lib.hid BX2
        have HR := Lib.hid hr
        have HB2 := Lib.hid (BEL.out.trans (hSu.mono BEL.out.size))
        clear BX2 hr hSu hG'
        rw [frame_lit bb 31 hN]
        simp only [show List.range 31 = [0, 1, 2, 3, 4, 5, 6, 7, 8, 9, 10, 11, 12, 13, 14, 15, 16, 17, 18, 19, 20, 21, 22, 23, 24, 25, 26, 27, 28, 29, 30] from rfl, List.map_cons, List.map_nil, hdf, hsame 0 (by kernel_rfl), hsame 1 (by kernel_rfl), hsame 2 (by kernel_rfl), hsame 3 (by kernel_rfl), hsame 4 (by kernel_rfl), hsame 5 (by kernel_rfl), hsame 6 (by kernel_rfl), hsame 7 (by kernel_rfl), hsame 8 (by kernel_rfl), hsame 9 (by kernel_rfl), hsame 10 (by kernel_rfl), hsame 11 (by kernel_rfl), hsame 12 (by kernel_rfl), hsame 13 (by kernel_rfl), hsame 18 (by kernel_rfl), hsame 19 (by kernel_rfl), hsame 20 (by kernel_rfl), hsame 21 (by kernel_rfl), hsame 22 (by kernel_rfl), hsame 23 (by kernel_rfl), hsame 24 (by kernel_rfl), hsame 25 (by kernel_rfl), hsame 26 (by kernel_rfl), hsame 27 (by kernel_rfl), hsame 28 (by kernel_rfl), hsame 29 (by kernel_rfl), hsame 30 (by kernel_rfl), e14, e15, e17]
        generalize bb.tmps.getD 16 undef = z16
        simp only [Array.getD_eq_getD_getElem?, List.getElem?_toArray, List.getElem?_cons_zero, List.getElem?_cons_succ, Option.getD_some]
        clear hsame hN hdf e14 e15 e17
        obtain ⟨rn, rA, rc, rN, rB, rd, rD⟩ := r
        refine PopQ.last rfl rfl (fun K hK => ?_)
        go_simp
        refine hK _ _ ?_
        clear hK K
        go_wp2_with fail
        exact ⟨⟨k + 1, by omega, by go_num, ⟨rn, rA, rc, rN, rB, rd, rD⟩, BXH.out.set ⟨rn, rA, rc, rN, rB, rd, rD⟩, by rw [Int.pow_succ]; exact HR.out.boxedV BXH.out _ _ _, ((HB2.out.setCell (by simp; omega) _).setCell (by simp; omega) _).setCell (by simp; omega) _⟩, by simp [intOf]; omega⟩
    · obtain rfl : k = 16 := by omega
      clear hlt hk
      have hs := BXX.out.lt
      obtain ⟨W0, rfl⟩ : ∃ W, W = wr := ⟨_, rfl⟩
      go_wp2_with fail
      refine (rOf_any 1 W0 (by decide) (by decide)).mono ?_
      rintro e w2 ⟨y0, rfl, hy0, hb2⟩
      have HY0 := Lib.hid hy0
      have BX2 := Lib.hid (BXX.out.below hb2)
      have FZ2 := Lib.hid (FZX.out.below hb2)
      have BE2 := Lib.hid (BEL.out.trans (hb2.mono BEL.out.size))
      have hs2 : G < w2.heap.size := BX2.out.lt
      clear hy0 hb2 BXX FZX BEL
      obtain ⟨yn, yA, yc, yN, yB, yd, yD⟩ := y0
      go_wp2_with fail
      obtain ⟨V, hV⟩ : ∃ V, V = w2.alloc (.cells #[.bool yn, .slice yA yN.length yc, .slice yB yD.length yd] 80) := ⟨_, rfl⟩
      have BV0 : Hid (BxV V w2.heap.size ⟨yn, yA, yc, yN, yB, yd, yD⟩) := Lib.hid (by rw [hV]; exact BxV.new w2 ⟨yn, yA, yc, yN, yB, yd, yD⟩)
      have FY0 : Hid (Fz V ⟨yn, yA, yc, yN, yB, yd, yD⟩ ((2 : Int) ^ 0)) := Lib.hid (by rw [hV, Int.pow_zero]; exact HY0.out.alloc _)
      have hbv : Below w2.heap.size w2 V := by rw [hV]; exact (Below.refl _ _).alloc (Nat.le_refl _) _
      have BX3 := Lib.hid (BX2.out.below hbv)
      have FZ3 := Lib.hid (FZ2.out.below hbv)
      have BE3 := Lib.hid (BE2.out.trans (hbv.mono BE2.out.size))
      have hHG : w.heap.size ≤ w2.heap.size := BE2.out.size
      rw [← hV]
      clear hV hbv BX2 FZ2 BE2 HY0
      generalize w2.heap.size = H at *
      have hGH : G ≠ H := by omega
      have HP0 : Hid (2 ^ 0 ≤ n ^ 16) := Lib.hid (by have := HN0.out; omega)
      clear hs hs2
      go_loopw [6] (fun i wr => ∃ l : Nat, i = .int .i64 l ∧ Hid (2 ^ l ≤ n ^ 16) ∧ BxV wr G x ∧ Fz wr x ((n : Int) ^ 16) ∧ Below w.heap.size w wr ∧ ∃ y : Fr, BxV wr H y ∧ Fz wr y ((2 : Int) ^ l)) (fun i _ => 1009 - (intOf i).toNat)
      case atStart => exact ⟨0, rfl, HP0, BX3.out, FZ3.out, BE3.out, _, BV0.out, FY0.out⟩
      case round =>
        clear BX3 FZ3 BE3 BV0 FY0 HP0
        obtain ⟨l, rfl, hle, hbx, hfz, hbel, y, hby, hfy⟩ := hrel
        have BXX := Lib.hid hbx
        have FZX := Lib.hid hfz
        have BEL := Lib.hid hbel
        have BYY := Lib.hid hby
        have FYY := Lib.hid hfy
        clear hbx hfz hbel hby hfy
        have hl8 : l ≤ 1008 := by
          have h3 := (Nat.le_log2 HN0.out).2 hle.out
          have h4 := HBD.out
          rw [HL.out] at h4
          omega
        have TL := Lib.hid (two_len (k := l) (by omega))
        have TL1 := Lib.hid (two_len (k := l + 1) (by omega))
        have PL16 := Lib.hid (HPL.out 16 (by omega))
        have HC : Hid (∀ u, Below wr.heap.size wr u → (u.cell? ⟨G, 0, none⟩ = some (.bool x.neg) ∧ u.cell? ⟨G, 1, none⟩ = some (.slice x.A x.N.length x.c) ∧ u.cell? ⟨G, 2, none⟩ = some (.slice x.B x.D.length x.d)) ∧ u.cell? ⟨H, 0, none⟩ = some (.bool y.neg) ∧ u.cell? ⟨H, 1, none⟩ = some (.slice y.A y.N.length y.c) ∧ u.cell? ⟨H, 2, none⟩ = some (.slice y.B y.D.length y.d)) := Lib.hid (fun u hu => ⟨⟨(BXX.out.below hu).facts.1, (BXX.out.below hu).facts.2.1, (BXX.out.below hu).facts.2.2.1⟩, (BYY.out.below hu).facts.1, (BYY.out.below hu).facts.2.1, (BYY.out.below hu).facts.2.2.1⟩)
        have HM2 : Hid (∀ u r, Below wr.heap.size wr u → Fz u r 2 → Calls Tryz.prog 68 #[y.val, r.val] u (RetFz ((2 : Int) ^ l * 2) u)) := Lib.hid (fun u r hu hr => rMul_z y r ((2 : Int) ^ l) 2 u (FYY.out.below hu) hr (by rw [show ((2 : Int) ^ l).natAbs = 2 ^ l by rw [Int.natAbs_pow]; rfl]; have := TL.out; omega) (by have := two_len (k := 1) (by decide); rw [Nat.pow_one] at this; show (nd 2).length ≤ _; omega))
        have HCM : Hid (∀ u r, Below wr.heap.size wr u → Fz u r ((2 : Int) ^ l * 2) → Calls Tryz.prog 69 #[r.val, x.val] u (RetIB (if (2 : Int) ^ l * 2 - (n : Int) ^ 16 < 0 then -1 else if (2 : Int) ^ l * 2 - (n : Int) ^ 16 = 0 then 0 else 1) u)) := Lib.hid (fun u r hu hr => rCmp_pos r x ((2 : Int) ^ l * 2) ((n : Int) ^ 16) u hr (FZX.out.below hu) (by rw [show ((2 : Int) ^ l * 2).natAbs = 2 ^ (l + 1) by rw [← Int.pow_succ, Int.natAbs_pow]; rfl]; have := TL1.out; omega) (by rw [show ((n : Int) ^ 16).natAbs = n ^ 16 by rw [Int.natAbs_pow]; rfl]; have := PL16.out; omega) (Int.mul_pos (Int.pow_pos (by decide)) (by decide)) (Int.pow_pos (by omega)))
        have HDC : Hid (decide ((2 : Int) ^ l * 2 ≤ (n : Int) ^ 16) = decide (2 ^ (l + 1) ≤ n ^ 16)) := Lib.hid (by
          have e1 : (2 : Int) ^ l * 2 = ((2 ^ (l + 1) : Nat) : Int) := by rw [← Int.pow_succ]; simp
          have e2 : (n : Int) ^ 16 = ((n ^ 16 : Nat) : Int) := by simp
          rw [e1, e2, decide_eq_decide]
          omega)
        have HT2 : Hid ((2 : Int) ^ (l + 1) = (2 : Int) ^ l * 2) := Lib.hid (Int.pow_succ 2 l)
        generalize (2 : Int) ^ l * 2 = t2 at *
        generalize hn16 : (n : Int) ^ 16 = p16 at *
        have HN16 := Lib.hid hn16
        clear hn16
        go_wp2_with fail
        refine wp_region_slots 31 rfl (by kernel_rfl) (by kernel_rfl) (by kernel_rfl) (fun u => Below wr.heap.size wr u) (fun u u' => Below u.heap.size u u') (cmpG y x t2 p16) cmpG_keep ?_ ?_ ?_
        · exact (Below.refl _ wr).drew
        · simp only [StepsFrom]
          refine ⟨?_, ?_, ?_, ?_, ?_, ?_, trivial⟩
          · intro bb u hSu hdep hkept K hK
            have e5 : bb.tmps.getD 5 undef = .pointer (some ⟨H, 0, none⟩) := hkept 5 (by kernel_rfl)
            obtain ⟨⟨c0, c1, c2⟩, c3, c4, c5⟩ := HC.out u hSu
            go_simp
            exact hK _ _ hSu (Below.refl _ _) rfl
          · intro bb u hSu hdep hkept K hK
            go_simp
            refine (rOf_any 2 u (by decide) (by decide)).mono ?_
            rintro e w' ⟨r, rfl, hr, h4⟩
            go_simp
            exact hK _ _ (hSu.trans (h4.mono hSu.size)) h4 ⟨r, rfl, hr⟩
          · intro bb u hSu hdep hkept K hK
            have e19 : bb.tmps.getD 19 undef = y.val := hdep 0 _ rfl (by kernel_rfl)
            obtain ⟨r, e20, hr⟩ : ∃ r : Fr, bb.tmps.getD 20 undef = r.val ∧ Fz u r 2 := hdep 1 _ rfl (by kernel_rfl)
            go_simp
            refine (HM2.out u r hSu hr).mono ?_
            rintro e w' ⟨r', rfl, hr', h4⟩
            go_simp
            exact hK _ _ (hSu.trans (h4.mono hSu.size)) h4 ⟨r', rfl, hr'⟩
          · intro bb u hSu hdep hkept K hK
            have e3 : bb.tmps.getD 3 undef = .pointer (some ⟨G, 0, none⟩) := hkept 3 (by kernel_rfl)
            obtain ⟨⟨c0, c1, c2⟩, c3, c4, c5⟩ := HC.out u hSu
            go_simp
            exact hK _ _ hSu (Below.refl _ _) rfl
          · intro bb u hSu hdep hkept K hK
            obtain ⟨r, e21, hr⟩ : ∃ r : Fr, bb.tmps.getD 21 undef = r.val ∧ Fz u r t2 := hdep 2 _ rfl (by kernel_rfl)
            have e22 : bb.tmps.getD 22 undef = x.val := hdep 3 _ rfl (by kernel_rfl)
            go_simp
            refine (HCM.out u r hSu hr).mono ?_
            rintro e w' ⟨rfl, h4⟩
            go_simp
            exact hK _ _ (hSu.trans (h4.mono hSu.size)) h4 rfl
          · intro bb u hSu hdep hkept K hK
            have e23 : bb.tmps.getD 23 undef = .int .i64 (if t2 - p16 < 0 then -1 else if t2 - p16 = 0 then 0 else 1) := hdep 4 _ rfl (by kernel_rfl)
            have q : decide ((if t2 - p16 < 0 then -1 else if t2 - p16 = 0 then 0 else 1 : Int) ≤ 0) = decide (t2 ≤ p16) := by
              rw [decide_eq_decide]
              by_cases h1 : t2 - p16 < 0
              · rw [if_pos h1]; omega
              · rw [if_neg h1]
                by_cases h2 : t2 - p16 = 0
                · rw [if_pos h2]; omega
                · rw [if_neg h2]; omega
            generalize (if t2 - p16 < 0 then -1 else if t2 - p16 = 0 then 0 else 1 : Int) = s at *
            go_simp
            exact hK _ _ hSu (Below.refl _ _) (by simp [cmpG])
        · intro bb u hN hdf hSu hG' hsame
          have e24 : bb.tmps.getD 24 undef = .bool (decide (t2 ≤ p16)) := hG' 5 _ rfl
          rw [HDC.out] at e24
          have HSU := Lib.hid hSu
          clear hSu hG'
          rw [frame_lit bb 31 hN]
          simp only [show List.range 31 = [0, 1, 2, 3, 4, 5, 6, 7, 8, 9, 10, 11, 12, 13, 14, 15, 16, 17, 18, 19, 20, 21, 22, 23, 24, 25, 26, 27, 28, 29, 30] from rfl, List.map_cons, List.map_nil, hdf, hsame 0 (by kernel_rfl), hsame 1 (by kernel_rfl), hsame 2 (by kernel_rfl), hsame 3 (by kernel_rfl), hsame 4 (by kernel_rfl), hsame 5 (by kernel_rfl), hsame 6 (by kernel_rfl), hsame 7 (by kernel_rfl), hsame 8 (by kernel_rfl), hsame 9 (by kernel_rfl), hsame 10 (by kernel_rfl), hsame 11 (by kernel_rfl), hsame 12 (by kernel_rfl), hsame 13 (by kernel_rfl), hsame 14 (by kernel_rfl), hsame 15 (by kernel_rfl), hsame 16 (by kernel_rfl), hsame 17 (by kernel_rfl), hsame 18 (by kernel_rfl), hsame 25 (by kernel_rfl), hsame 26 (by kernel_rfl), hsame 27 (by kernel_rfl), hsame 28 (by kernel_rfl), hsame 29 (by kernel_rfl), hsame 30 (by kernel_rfl), e24]
          generalize bb.tmps.getD 19 undef = z19
          generalize bb.tmps.getD 20 undef = z20
          generalize bb.tmps.getD 21 undef = z21
          generalize bb.tmps.getD 22 undef = z22
          generalize bb.tmps.getD 23 undef = z23
          simp only [Array.getD_eq_getD_getElem?, List.getElem?_toArray, List.getElem?_cons_zero, List.getElem?_cons_succ, Option.getD_some]
          clear hsame hN hdf e24
          clear bb
          by_cases hgo : 2 ^ (l + 1) ≤ n ^ 16
          · have HGO : Hid (2 ^ (l + 1) ≤ n ^ 16) := Lib.hid hgo
            have HD1 : decide (2 ^ (l + 1) ≤ n ^ 16) = true := decide_eq_true hgo
            rw [HD1]
            clear HD1 hgo
            have hl9 : l + 1 ≤ 1008 := by
              have h3 := (Nat.le_log2 HN0.out).2 HGO.out
              have h4 := HBD.out
              rw [HL.out] at h4
              omega
            go_wp2_with fail
            refine wp_region_slots_pop 3 31 rfl (by kernel_rfl) (by kernel_rfl) (by kernel_rfl) (by kernel_rfl) (fun v => Below wr.heap.size wr v) (fun u u' => Below u.heap.size u u') (twoG2 y t2) twoG2_keep ?_ ?_ ?_
            · exact HSU.out.drew
            · simp only [List.pop_toArray, List.dropLast, StepsFrom]
              refine ⟨?_, ?_, ?_, trivial⟩
              · intro bb u hSu hdep hkept K hK
                have e5 : bb.tmps.getD 5 undef = .pointer (some ⟨H, 0, none⟩) := hkept 5 (by kernel_rfl)
                obtain ⟨⟨c0, c1, c2⟩, c3, c4, c5⟩ := HC.out u hSu
                go_simp
                exact hK _ _ hSu (Below.refl _ _) rfl
              · intro bb u hSu hdep hkept K hK
                go_simp
                refine (rOf_any 2 u (by decide) (by decide)).mono ?_
                rintro e w' ⟨r, rfl, hr, h4⟩
                go_simp
                exact hK _ _ (hSu.trans (h4.mono hSu.size)) h4 ⟨r, rfl, hr⟩
              · intro bb u hSu hdep hkept K hK
                have e25 : bb.tmps.getD 25 undef = y.val := hdep 0 _ rfl (by kernel_rfl)
                obtain ⟨r, e26, hr⟩ : ∃ r : Fr, bb.tmps.getD 26 undef = r.val ∧ Fz u r 2 := hdep 1 _ rfl (by kernel_rfl)
                go_simp
                refine (HM2.out u r hSu hr).mono ?_
                rintro e w' ⟨r', rfl, hr', h4⟩
                go_simp
                exact hK _ _ (hSu.trans (h4.mono hSu.size)) h4 ⟨r', rfl, hr'⟩
            · intro bb v hN hdf hSv hG' hsame
              obtain ⟨r, e27, hr⟩ : ∃ r : Fr, bb.tmps.getD 27 undef = r.val ∧ Fz v r t2 := hG' 2 _ rfl
              have BY2 := BYY.out.below hSv
              obtain ⟨c0, c1, c2, f0, f1, f2⟩ := BY2.facts
              have BYH := Lib.hid BY2
              have BX2 := Lib.hid (BXX.out.below hSv)
              have FX2 := Lib.hid (FZX.out.below hSv)
              have HR := Lib.hid hr
              have HB2 := Lib.hid (BEL.out.trans (hSv.mono BEL.out.size))
              clear BY2 hr hSv hG'
              rw [frame_lit bb 31 hN]
              simp only [show List.range 31 = [0, 1, 2, 3, 4, 5, 6, 7, 8, 9, 10, 11, 12, 13, 14, 15, 16, 17, 18, 19, 20, 21, 22, 23, 24, 25, 26, 27, 28, 29, 30] from rfl, List.map_cons, List.map_nil, hdf, hsame 0 (by kernel_rfl), hsame 1 (by kernel_rfl), hsame 2 (by kernel_rfl), hsame 3 (by kernel_rfl), hsame 4 (by kernel_rfl), hsame 5 (by kernel_rfl), hsame 6 (by kernel_rfl), hsame 7 (by kernel_rfl), hsame 8 (by kernel_rfl), hsame 9 (by kernel_rfl), hsame 10 (by kernel_rfl), hsame 11 (by kernel_rfl), hsame 12 (by kernel_rfl), hsame 13 (by kernel_rfl), hsame 14 (by kernel_rfl), hsame 15 (by kernel_rfl), hsame 16 (by kernel_rfl), hsame 17 (by kernel_rfl), hsame 18 (by kernel_rfl), hsame 19 (by kernel_rfl), hsame 20 (by kernel_rfl), hsame 21 (by kernel_rfl), hsame 22 (by kernel_rfl), hsame 23 (by kernel_rfl), hsame 24 (by kernel_rfl), hsame 28 (by kernel_rfl), hsame 29 (by kernel_rfl), hsame 30 (by kernel_rfl), e27]
              generalize bb.tmps.getD 25 undef = z25
              generalize bb.tmps.getD 26 undef = z26
              simp only [Array.getD_eq_getD_getElem?, List.getElem?_toArray, List.getElem?_cons_zero, List.getElem?_cons_succ, Option.getD_some]
              clear hsame hN hdf e27 bb
              obtain ⟨rn, rA, rc, rN, rB, rd, rD⟩ := r
              refine PopQ.last rfl rfl (fun K hK => ?_)
              go_simp
              refine hK _ _ ?_
              clear hK K
              go_wp2_with fail
              exact ⟨⟨l + 1, by go_num, HGO, BX2.out.other hGH, FX2.out.boxedV BYH.out _ _ _, ((HB2.out.setCell (by simp; omega) _).setCell (by simp; omega) _).setCell (by simp; omega) _, ⟨rn, rA, rc, rN, rB, rd, rD⟩, BYH.out.set ⟨rn, rA, rc, rN, rB, rd, rD⟩, by rw [HT2.out]; exact HR.out.boxedV BYH.out _ _ _⟩, by simp [intOf]; omega⟩
          · have HGO : Hid (¬ 2 ^ (l + 1) ≤ n ^ 16) := Lib.hid hgo
            have HD1 : decide (2 ^ (l + 1) ≤ n ^ 16) = false := decide_eq_false hgo
            rw [HD1]
            clear HD1 hgo
            have HLL : Hid (lg n = (l : Int)) := Lib.hid (by
              rw [HL.out]
              congr 1
              exact (Nat.log2_eq_iff HN0.out).2 ⟨hle.out, by have := HGO.out; omega⟩)
            go_wp2_with fail
            go_ret
            exact ⟨ret_int (by rw [HLL.out]), BEL.out.trans (HSU.out.mono BEL.out.size)⟩
end Go.Proofs.YtnflpnbpigcfhabGreatDoor
/- FeatureLogs: the walk -/
namespace Go.Proofs.YtnflpnbpigcfhabGreatDoor
open Go.RowKit Ear

theorem rLog_any (n : Nat) (w : World) (h1 : n ≤ 9223372036854775807) : Calls Tryz.prog 39 #[.int .i64 n] w (RetIB (lg n) w) := by
  rcases Nat.eq_zero_or_pos n with h | h
  · subst h; exact rLog_zero w
  · exact rLog_pos n w h h1
end Go.Proofs.YtnflpnbpigcfhabGreatDoor
