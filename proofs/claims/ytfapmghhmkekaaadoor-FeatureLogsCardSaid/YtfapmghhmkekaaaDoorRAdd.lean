/- the reference's sum of two integers of different signs -/
import Derived.Test.YtfapmghhmkekaaaDoorRMul
namespace Go.Proofs.YtfapmghhmkekaaaDoor
open Go.RowKit Ear
set_option linter.unusedVariables false

def addG (x y : Fr) (a b : Int) (k0 k1 : Nat) : Nat → Value → World → Prop
  | 0, v, _ => v = .pointer (some ⟨k0, 1, none⟩)
  | 1, v, _ => v = .slice x.A x.N.length x.c
  | 2, v, _ => v = .slice x.A (nd a.natAbs).length x.c
  | 3, v, _ => v = y.val
  | 4, v, w => ∃ A c, v = .slice A (nd 1).length c ∧ Dg w A c (nd 1)
  | 5, v, w => ∃ A c, v = .slice A (nd a.natAbs).length c ∧ Dg w A c (nd a.natAbs)
  | 6, v, _ => v = .pointer (some ⟨k1, 1, none⟩)
  | 7, v, _ => v = .slice y.A y.N.length y.c
  | 8, v, _ => v = .slice y.A (nd b.natAbs).length y.c
  | 9, v, _ => v = x.val
  | 10, v, w => ∃ A c, v = .slice A (nd 1).length c ∧ Dg w A c (nd 1)
  | 11, v, w => ∃ A c, v = .slice A (nd b.natAbs).length c ∧ Dg w A c (nd b.natAbs)
  | 12, v, _ => v = x.val
  | 13, v, w => ∃ A c, v = .slice A (nd 1).length c ∧ Dg w A c (nd 1)
  | 14, v, _ => v = y.val
  | 15, v, w => ∃ A c, v = .slice A (nd 1).length c ∧ Dg w A c (nd 1)
  | 16, v, w => ∃ A c, v = .slice A (nd 1).length c ∧ Dg w A c (nd 1)
  | 17, v, w => ∃ A c, v = .slice A (nd a.natAbs).length c ∧ Dg w A c (nd a.natAbs)
  | 18, v, w => ∃ A c, v = .slice A (nd b.natAbs).length c ∧ Dg w A c (nd b.natAbs)
  | 19, v, w => ∃ A c, v = .slice A (nd 1).length c ∧ Dg w A c (nd 1)
  | _, _, _ => True
theorem addG_keep {x y : Fr} {a b : Int} {k0 k1 : Nat} : ∀ j v w w', addG x y a b k0 k1 j v w → Below w.heap.size w w' → addG x y a b k0 k1 j v w' := by
  intro j v w w' h hb
  unfold addG at *
  split at h <;> first
    | exact h
    | (obtain ⟨A, c, h1, h2⟩ := h; exact ⟨A, c, h1, h2.below hb⟩)
def endG (neg : Bool) (A5 A6 A7 : Option Addr) (c5 c6 c7 : Nat) (a b p q : Int) (Ap Aq : Option Addr) (cp cq : Nat) (k : Nat) : Nat → Value → World → Prop
  | 0, v, _ => v = .pointer (some ⟨k, 0, none⟩)
  | 1, v, _ => v = .bool neg
  | 2, v, _ => v = .slice Ap (nd p.natAbs).length cp
  | 3, v, _ => v = .slice Aq (nd q.natAbs).length cq
  | 4, v, w => ∃ A c, v = .slice A (nd (p.natAbs - q.natAbs)).length c ∧ Dg w A c (nd (p.natAbs - q.natAbs))
  | 5, v, _ => v = .slice A7 (nd 1).length c7
  | 6, v, w => ∃ r : Fr, v = r.val ∧ Fz w r (a + b)
  | _, _, _ => True
theorem endG_keep {neg : Bool} {A5 A6 A7 : Option Addr} {c5 c6 c7 : Nat} {a b p q : Int} {Ap Aq : Option Addr} {cp cq k : Nat} : ∀ j v w w', endG neg A5 A6 A7 c5 c6 c7 a b p q Ap Aq cp cq k j v w → Below w.heap.size w w' → endG neg A5 A6 A7 c5 c6 c7 a b p q Ap Aq cp cq k j v w' := by
  intro j v w w' h hb
  unfold endG at *
  split at h <;> first
    | exact h
    | (obtain ⟨A, c, h1, h2⟩ := h; exact ⟨A, c, h1, h2.below hb⟩)
    | (obtain ⟨r, h1, h2⟩ := h; exact ⟨r, h1, h2.below hb⟩)
set_option maxRecDepth 100000 in
set_option maxHeartbeats 4000000 in
theorem rAdd_opp (x y : Fr) (a b : Int) (w : World) (hx : Fz w x a) (hy : Fz w y b) (ha : (nd a.natAbs).length ≤ 400000) (hb : (nd b.natAbs).length ≤ 400000) (hab : Hid (decide (a < 0) ≠ decide (b < 0))) :
    Calls Tryd.prog 138 #[x.val, y.val] w (RetFz (a + b) w) := by
  have HX := Lib.hid hx
  have HY := Lib.hid hy
  have NX := Lib.hid hx.num
  have NY := Lib.hid hy.num
  obtain ⟨xn, xA, xc, xN, xB, xd, xD⟩ := x
  obtain ⟨yn, yA, yc, yN, yB, yd, yD⟩ := y
  simp only at NX NY
  clear hx hy
  go_enter Tryd.func138, Tryd.ntmps138
  go_wp2_with fail
  obtain ⟨W, hW⟩ : ∃ W : World, W = ((w.alloc (.cells #[.bool xn, .slice xA xN.length xc, .slice xB xD.length xd] 87)).alloc (.cells #[.bool yn, .slice yA yN.length yc, .slice yB yD.length yd] 87)).alloc (.cells #[.bool false, .slice none 0 0, .slice none 0 0] 87) := ⟨_, rfl⟩
  rw [← hW]
  have hs : W.heap.size = w.heap.size + 3 := by rw [hW]; simp
  have HB0 : Hid (Below w.heap.size w W) := Lib.hid (by rw [hW]; exact ((((Below.refl _ _).alloc (Nat.le_refl _) _).alloc (by simp) _).alloc (by simp; omega) _))
  have HBX : Hid (Bx W (w.heap.size + 1 + 1)) := Lib.hid (by rw [hW]; have := Bx.new ((w.alloc (.cells #[.bool xn, .slice xA xN.length xc, .slice xB xD.length xd] 87)).alloc (.cells #[.bool yn, .slice yA yN.length yc, .slice yB yD.length yd] 87)); simpa using this)
  have HC : Hid (∀ u, Below W.heap.size W u → (u.cell? ⟨w.heap.size, 0, none⟩ = some (.bool xn) ∧ u.cell? ⟨w.heap.size, 1, none⟩ = some (.slice xA xN.length xc) ∧ u.cell? ⟨w.heap.size, 2, none⟩ = some (.slice xB xD.length xd)) ∧ u.cell? ⟨w.heap.size + 1, 0, none⟩ = some (.bool yn) ∧ u.cell? ⟨w.heap.size + 1, 1, none⟩ = some (.slice yA yN.length yc) ∧ u.cell? ⟨w.heap.size + 1, 2, none⟩ = some (.slice yB yD.length yd)) := Lib.hid (fun u hu => by
    rw [hu.cell (p := ⟨w.heap.size, 0, none⟩) (by simp; omega), hu.cell (p := ⟨w.heap.size, 1, none⟩) (by simp; omega), hu.cell (p := ⟨w.heap.size, 2, none⟩) (by simp; omega), hu.cell (p := ⟨w.heap.size + 1, 0, none⟩) (by simp; omega), hu.cell (p := ⟨w.heap.size + 1, 1, none⟩) (by simp; omega), hu.cell (p := ⟨w.heap.size + 1, 2, none⟩) (by simp; omega), hW]
    simp [go_sem])
  have TX : Hid (∀ u, Below W.heap.size W u → Calls Tryd.prog 118 #[.slice xA xN.length xc] u fun e w' => e = .returned (.slice xA (nd a.natAbs).length xc) ∧ u = w') := Lib.hid (fun u hu => trim_any xA xc xN u (HX.out.below' hu HB0.out).ok.n.lies (Lib.hid HX.out.ok.n.dig) HX.out.ok.n.cap (by rw [NX.out]; omega) a.natAbs (Lib.hid (by rw [NX.out]; exact vl_nd _)))
  have TY : Hid (∀ u, Below W.heap.size W u → Calls Tryd.prog 118 #[.slice yA yN.length yc] u fun e w' => e = .returned (.slice yA (nd b.natAbs).length yc) ∧ u = w') := Lib.hid (fun u hu => trim_any yA yc yN u (HY.out.below' hu HB0.out).ok.n.lies (Lib.hid HY.out.ok.n.dig) HY.out.ok.n.cap (by rw [NY.out]; omega) b.natAbs (Lib.hid (by rw [NY.out]; exact vl_nd _)))
  have XN : Hid (xn = decide (a < 0)) := Lib.hid HX.out.neg
  have YN : Hid (yn = decide (b < 0)) := Lib.hid HY.out.neg
  have XY : Hid (xn ≠ yn) := Lib.hid (by rw [XN.out, YN.out]; exact hab.out)
  clear hW
  refine wp_region_slots 55 rfl (by kernel_rfl) (by kernel_rfl) (by kernel_rfl) (fun u => Below W.heap.size W u) (fun u u' => Below u.heap.size u u') (addG ⟨xn, xA, xc, xN, xB, xd, xD⟩ ⟨yn, yA, yc, yN, yB, yd, yD⟩ a b w.heap.size (w.heap.size + 1)) addG_keep ?_ ?_ ?_
  · exact (Below.refl _ W).drew
  · simp only [StepsFrom]
    refine ⟨?_, ?_, ?_, ?_, ?_, ?_, ?_, ?_, ?_, ?_, ?_, ?_, ?_, ?_, ?_, ?_, ?_, ?_, ?_, ?_, trivial⟩
    · intro bb u hSu hdep hkept K hK
      have e2 : bb.tmps.getD 2 undef = .pointer (some ⟨w.heap.size, 0, none⟩) := hkept 2 (by kernel_rfl)
      go_simp
      exact hK _ _ hSu (Below.refl _ _) rfl
    · intro bb u hSu hdep hkept K hK
      have e8 : bb.tmps.getD 8 undef = .pointer (some ⟨w.heap.size, 1, none⟩) := hdep 0 _ rfl (by kernel_rfl)
      obtain ⟨⟨c0, c1, c2⟩, c3, c4, c5⟩ := HC.out u hSu
      go_simp
      exact hK _ _ hSu (Below.refl _ _) rfl
    · intro bb u hSu hdep hkept K hK
      have e9 : bb.tmps.getD 9 undef = .slice xA xN.length xc := hdep 1 _ rfl (by kernel_rfl)
      go_simp
      refine (TX.out u hSu).mono ?_
      rintro e w' ⟨rfl, rfl⟩
      go_simp
      exact hK _ _ hSu (Below.refl _ _) rfl
    · intro bb u hSu hdep hkept K hK
      have e3 : bb.tmps.getD 3 undef = .pointer (some ⟨w.heap.size + 1, 0, none⟩) := hkept 3 (by kernel_rfl)
      obtain ⟨⟨c0, c1, c2⟩, c3, c4, c5⟩ := HC.out u hSu
      go_simp
      exact hK _ _ hSu (Below.refl _ _) rfl
    · intro bb u hSu hdep hkept K hK
      have e11 : bb.tmps.getD 11 undef = Fr.val ⟨yn, yA, yc, yN, yB, yd, yD⟩ := hdep 3 _ rfl (by kernel_rfl)
      go_simp
      refine (low_z _ b u (HY.out.below' hSu HB0.out)).mono ?_
      rintro e w' ⟨A, c, rfl, h1, h2, h3, h4⟩
      go_simp
      exact hK _ _ (hSu.trans (h4.mono hSu.size)) h4 ⟨A, c, rfl, ⟨h1, dgs_nd _, h2, h3⟩⟩
    · intro bb u hSu hdep hkept K hK
      have e10 : bb.tmps.getD 10 undef = .slice xA (nd a.natAbs).length xc := hdep 2 _ rfl (by kernel_rfl)
      obtain ⟨A12, c12, e12, D12⟩ : ∃ A c, bb.tmps.getD 12 undef = .slice A (nd 1).length c ∧ Dg u A c (nd 1) := hdep 4 _ rfl (by kernel_rfl)
      have LX := (HX.out.below' hSu HB0.out).ok.n.lies
      simp only [NX.out] at LX
      go_simp
      refine (times_any xA A12 xc c12 (nd a.natAbs) (nd 1) u LX D12.lies (Lib.hid (dgs_nd _)) (Lib.hid D12.dig) (by omega) (by rw [nd_one]; simp) a.natAbs (Lib.hid (by rw [vl_nd, vl_nd]; simp))).mono ?_
      rintro e w' ⟨A, c, rfl, h1, h2, h3, h4⟩
      go_simp
      exact hK _ _ (hSu.trans (h4.mono hSu.size)) h4 ⟨A, c, rfl, ⟨h1, dgs_nd _, h2, h3⟩⟩
    · intro bb u hSu hdep hkept K hK
      have e3 : bb.tmps.getD 3 undef = .pointer (some ⟨w.heap.size + 1, 0, none⟩) := hkept 3 (by kernel_rfl)
      go_simp
      exact hK _ _ hSu (Below.refl _ _) rfl
    · intro bb u hSu hdep hkept K hK
      have e14 : bb.tmps.getD 14 undef = .pointer (some ⟨w.heap.size + 1, 1, none⟩) := hdep 6 _ rfl (by kernel_rfl)
      obtain ⟨⟨c0, c1, c2⟩, c3, c4, c5⟩ := HC.out u hSu
      go_simp
      exact hK _ _ hSu (Below.refl _ _) rfl
    · intro bb u hSu hdep hkept K hK
      have e15 : bb.tmps.getD 15 undef = .slice yA yN.length yc := hdep 7 _ rfl (by kernel_rfl)
      go_simp
      refine (TY.out u hSu).mono ?_
      rintro e w' ⟨rfl, rfl⟩
      go_simp
      exact hK _ _ hSu (Below.refl _ _) rfl
    · intro bb u hSu hdep hkept K hK
      have e2 : bb.tmps.getD 2 undef = .pointer (some ⟨w.heap.size, 0, none⟩) := hkept 2 (by kernel_rfl)
      obtain ⟨⟨c0, c1, c2⟩, c3, c4, c5⟩ := HC.out u hSu
      go_simp
      exact hK _ _ hSu (Below.refl _ _) rfl
    · intro bb u hSu hdep hkept K hK
      have e17 : bb.tmps.getD 17 undef = Fr.val ⟨xn, xA, xc, xN, xB, xd, xD⟩ := hdep 9 _ rfl (by kernel_rfl)
      go_simp
      refine (low_z _ a u (HX.out.below' hSu HB0.out)).mono ?_
      rintro e w' ⟨A, c, rfl, h1, h2, h3, h4⟩
      go_simp
      exact hK _ _ (hSu.trans (h4.mono hSu.size)) h4 ⟨A, c, rfl, ⟨h1, dgs_nd _, h2, h3⟩⟩
    · intro bb u hSu hdep hkept K hK
      have e16 : bb.tmps.getD 16 undef = .slice yA (nd b.natAbs).length yc := hdep 8 _ rfl (by kernel_rfl)
      obtain ⟨A18, c18, e18, D18⟩ : ∃ A c, bb.tmps.getD 18 undef = .slice A (nd 1).length c ∧ Dg u A c (nd 1) := hdep 10 _ rfl (by kernel_rfl)
      have LY := (HY.out.below' hSu HB0.out).ok.n.lies
      simp only [NY.out] at LY
      go_simp
      refine (times_any yA A18 yc c18 (nd b.natAbs) (nd 1) u LY D18.lies (Lib.hid (dgs_nd _)) (Lib.hid D18.dig) (by omega) (by rw [nd_one]; simp) b.natAbs (Lib.hid (by rw [vl_nd, vl_nd]; simp))).mono ?_
      rintro e w' ⟨A, c, rfl, h1, h2, h3, h4⟩
      go_simp
      exact hK _ _ (hSu.trans (h4.mono hSu.size)) h4 ⟨A, c, rfl, ⟨h1, dgs_nd _, h2, h3⟩⟩
    · intro bb u hSu hdep hkept K hK
      have e2 : bb.tmps.getD 2 undef = .pointer (some ⟨w.heap.size, 0, none⟩) := hkept 2 (by kernel_rfl)
      obtain ⟨⟨c0, c1, c2⟩, c3, c4, c5⟩ := HC.out u hSu
      go_simp
      exact hK _ _ hSu (Below.refl _ _) rfl
    · intro bb u hSu hdep hkept K hK
      have e20 : bb.tmps.getD 20 undef = Fr.val ⟨xn, xA, xc, xN, xB, xd, xD⟩ := hdep 12 _ rfl (by kernel_rfl)
      go_simp
      refine (low_z _ a u (HX.out.below' hSu HB0.out)).mono ?_
      rintro e w' ⟨A, c, rfl, h1, h2, h3, h4⟩
      go_simp
      exact hK _ _ (hSu.trans (h4.mono hSu.size)) h4 ⟨A, c, rfl, ⟨h1, dgs_nd _, h2, h3⟩⟩
    · intro bb u hSu hdep hkept K hK
      have e3 : bb.tmps.getD 3 undef = .pointer (some ⟨w.heap.size + 1, 0, none⟩) := hkept 3 (by kernel_rfl)
      obtain ⟨⟨c0, c1, c2⟩, c3, c4, c5⟩ := HC.out u hSu
      go_simp
      exact hK _ _ hSu (Below.refl _ _) rfl
    · intro bb u hSu hdep hkept K hK
      have e22 : bb.tmps.getD 22 undef = Fr.val ⟨yn, yA, yc, yN, yB, yd, yD⟩ := hdep 14 _ rfl (by kernel_rfl)
      go_simp
      refine (low_z _ b u (HY.out.below' hSu HB0.out)).mono ?_
      rintro e w' ⟨A, c, rfl, h1, h2, h3, h4⟩
      go_simp
      exact hK _ _ (hSu.trans (h4.mono hSu.size)) h4 ⟨A, c, rfl, ⟨h1, dgs_nd _, h2, h3⟩⟩
    · intro bb u hSu hdep hkept K hK
      obtain ⟨A21, c21, e21, D21⟩ : ∃ A c, bb.tmps.getD 21 undef = .slice A (nd 1).length c ∧ Dg u A c (nd 1) := hdep 13 _ rfl (by kernel_rfl)
      obtain ⟨A23, c23, e23, D23⟩ : ∃ A c, bb.tmps.getD 23 undef = .slice A (nd 1).length c ∧ Dg u A c (nd 1) := hdep 15 _ rfl (by kernel_rfl)
      go_simp
      refine (times_any A21 A23 c21 c23 (nd 1) (nd 1) u D21.lies D23.lies (Lib.hid D21.dig) (Lib.hid D23.dig) (by rw [nd_one]; simp) (by rw [nd_one]; simp) 1 (Lib.hid (by rw [nd_one]; rfl))).mono ?_
      rintro e w' ⟨A, c, rfl, h1, h2, h3, h4⟩
      go_simp
      exact hK _ _ (hSu.trans (h4.mono hSu.size)) h4 ⟨A, c, rfl, ⟨h1, dgs_nd _, h2, h3⟩⟩
    · intro bb u hSu hdep hkept K hK
      obtain ⟨A13, c13, e13, D13⟩ : ∃ A c, bb.tmps.getD 13 undef = .slice A (nd a.natAbs).length c ∧ Dg u A c (nd a.natAbs) := hdep 5 _ rfl (by kernel_rfl)
      go_simp
      exact hK _ _ hSu (Below.refl _ _) ⟨A13, c13, rfl, D13⟩
    · intro bb u hSu hdep hkept K hK
      obtain ⟨A19, c19, e19, D19⟩ : ∃ A c, bb.tmps.getD 19 undef = .slice A (nd b.natAbs).length c ∧ Dg u A c (nd b.natAbs) := hdep 11 _ rfl (by kernel_rfl)
      go_simp
      exact hK _ _ hSu (Below.refl _ _) ⟨A19, c19, rfl, D19⟩
    · intro bb u hSu hdep hkept K hK
      obtain ⟨A24, c24, e24, D24⟩ : ∃ A c, bb.tmps.getD 24 undef = .slice A (nd 1).length c ∧ Dg u A c (nd 1) := hdep 16 _ rfl (by kernel_rfl)
      go_simp
      exact hK _ _ hSu (Below.refl _ _) ⟨A24, c24, rfl, D24⟩
  · intro bb u hN hdf hSu hG hsame
    obtain ⟨A5, c5, e5, D5⟩ : ∃ A c, bb.tmps.getD 5 undef = .slice A (nd a.natAbs).length c ∧ Dg u A c (nd a.natAbs) := hG 17 _ rfl
    obtain ⟨A6, c6, e6, D6⟩ : ∃ A c, bb.tmps.getD 6 undef = .slice A (nd b.natAbs).length c ∧ Dg u A c (nd b.natAbs) := hG 18 _ rfl
    obtain ⟨A7, c7, e7, D7⟩ : ∃ A c, bb.tmps.getD 7 undef = .slice A (nd 1).length c ∧ Dg u A c (nd 1) := hG 19 _ rfl
    have e2 : bb.tmps.getD 2 undef = .pointer (some ⟨w.heap.size, 0, none⟩) := hsame 2 (by kernel_rfl)
    have e3 : bb.tmps.getD 3 undef = .pointer (some ⟨w.heap.size + 1, 0, none⟩) := hsame 3 (by kernel_rfl)
    have e4 : bb.tmps.getD 4 undef = .pointer (some ⟨w.heap.size + 1 + 1, 0, none⟩) := hsame 4 (by kernel_rfl)
    rw [frame_lit bb 55 hN]
    simp only [show List.range 55 = [0, 1, 2, 3, 4, 5, 6, 7, 8, 9, 10, 11, 12, 13, 14, 15, 16, 17, 18, 19, 20, 21, 22, 23, 24, 25, 26, 27, 28, 29, 30, 31, 32, 33, 34, 35, 36, 37, 38, 39, 40, 41, 42, 43, 44, 45, 46, 47, 48, 49, 50, 51, 52, 53, 54] from rfl, List.map_cons, List.map_nil, e2, e3, e4, e5, e6, e7, hdf]
    clear e2 e3 e4 e5 e6 e7 hG hsame hN hdf
    generalize bb.tmps.getD 0 undef = u0
    generalize bb.tmps.getD 1 undef = u1
    generalize bb.tmps.getD 8 undef = u8
    generalize bb.tmps.getD 9 undef = u9
    generalize bb.tmps.getD 10 undef = u10
    generalize bb.tmps.getD 11 undef = u11
    generalize bb.tmps.getD 12 undef = u12
    generalize bb.tmps.getD 13 undef = u13
    generalize bb.tmps.getD 14 undef = u14
    generalize bb.tmps.getD 15 undef = u15
    generalize bb.tmps.getD 16 undef = u16
    generalize bb.tmps.getD 17 undef = u17
    generalize bb.tmps.getD 18 undef = u18
    generalize bb.tmps.getD 19 undef = u19
    generalize bb.tmps.getD 20 undef = u20
    generalize bb.tmps.getD 21 undef = u21
    generalize bb.tmps.getD 22 undef = u22
    generalize bb.tmps.getD 23 undef = u23
    generalize bb.tmps.getD 24 undef = u24
    generalize bb.tmps.getD 25 undef = u25
    generalize bb.tmps.getD 26 undef = u26
    generalize bb.tmps.getD 27 undef = u27
    generalize bb.tmps.getD 28 undef = u28
    generalize bb.tmps.getD 29 undef = u29
    generalize bb.tmps.getD 30 undef = u30
    generalize bb.tmps.getD 31 undef = u31
    generalize bb.tmps.getD 32 undef = u32
    generalize bb.tmps.getD 33 undef = u33
    generalize bb.tmps.getD 34 undef = u34
    generalize bb.tmps.getD 35 undef = u35
    generalize bb.tmps.getD 36 undef = u36
    generalize bb.tmps.getD 37 undef = u37
    generalize bb.tmps.getD 38 undef = u38
    generalize bb.tmps.getD 39 undef = u39
    generalize bb.tmps.getD 40 undef = u40
    generalize bb.tmps.getD 41 undef = u41
    generalize bb.tmps.getD 42 undef = u42
    generalize bb.tmps.getD 43 undef = u43
    generalize bb.tmps.getD 44 undef = u44
    generalize bb.tmps.getD 45 undef = u45
    generalize bb.tmps.getD 46 undef = u46
    generalize bb.tmps.getD 47 undef = u47
    generalize bb.tmps.getD 48 undef = u48
    generalize bb.tmps.getD 49 undef = u49
    generalize bb.tmps.getD 50 undef = u50
    generalize bb.tmps.getD 51 undef = u51
    generalize bb.tmps.getD 52 undef = u52
    generalize bb.tmps.getD 53 undef = u53
    generalize bb.tmps.getD 54 undef = u54
    clear bb
    have HD5 := Lib.hid D5
    have HD6 := Lib.hid D6
    have HD7 := Lib.hid D7
    have HSu := Lib.hid hSu
    obtain ⟨⟨c0, c1, c2⟩, c3, c4, c5'⟩ := HC.out u hSu
    clear D5 D6 D7 hSu
    have qxy : (xn == yn) = false := beq_eq_false_iff_ne.2 XY.out
    have HO := Lib.hid (fun r hr => order_any A5 A6 c5 c6 (nd a.natAbs) (nd b.natAbs) u HD5.out.lies HD6.out.lies (Lib.hid HD5.out.dig) (Lib.hid HD6.out.dig) HD5.out.cap HD6.out.cap (by omega) (by omega) a.natAbs b.natAbs (Lib.hid (vl_nd _)) (Lib.hid (vl_nd _)) r hr)
    by_cases hle : b.natAbs ≤ a.natAbs
    · have HC1 : Hid (∃ r : Int, 0 ≤ r ∧ cmpN a.natAbs b.natAbs = r) := Lib.hid (by unfold cmpN; rw [if_neg (by omega)]; split <;> exact ⟨_, by decide, rfl⟩)
      obtain ⟨r, hr0, hr⟩ := HC1.out
      have HR := Lib.hid hr
      clear HC1 hr
      go_wp2_with fail
      refine (HO.out r HR).mono ?_
      rintro e w' ⟨rfl, nq, rfl⟩
      go_wp2_with fail
      have hc0 : ∀ v, Below (u.drewN nq).heap.size (u.drewN nq) v → v.cell? ⟨w.heap.size, 0, none⟩ = some (.bool xn) := fun v hv => (hv.cell (p := ⟨w.heap.size, 0, none⟩) (by have := HSu.out.size; simp; omega)).trans c0
      have HC0 := Lib.hid hc0
      have HSV : Hid (Below W.heap.size W (u.drewN nq)) := Lib.hid (HSu.out.trans (below_drewN' _ _))
      have NN : Hid (((a.natAbs - b.natAbs : Nat) : Int) = vl (nd a.natAbs) - vl (nd b.natAbs)) := Lib.hid (by rw [vl_nd, vl_nd]; omega)
      have MA : Hid (a.natAbs - b.natAbs = (a + b).natAbs) := Lib.hid (by have h := hab.out; rw [ne_eq, decide_eq_decide] at h; omega)
      have SG : Hid ((xn && decide ((a + b).natAbs ≠ 0)) = decide (a + b < 0)) := Lib.hid (by have h := hab.out; rw [ne_eq, decide_eq_decide] at h; rw [XN.out, Bool.eq_iff_iff]; simp only [Bool.and_eq_true, decide_eq_true_eq]; omega)
      have LE : Hid ((nd b.natAbs).length ≤ (nd a.natAbs).length) := Lib.hid (nd_len_mono (by omega))
      have BX2 := Lib.hid ((HBX.out.below HSu.out).below (below_drewN' u nq))
      have HB2 := Lib.hid (HB0.out.trans (HSV.out.mono HB0.out.size))
      clear hc0 c0 c1 c2 c3 c4 c5' HO
      generalize hV : u.drewN nq = V at *
      have D5 : Hid (Dg V A5 c5 (nd a.natAbs)) := Lib.hid (by rw [← hV]; exact HD5.out.below (below_drewN' _ _))
      have D6 : Hid (Dg V A6 c6 (nd b.natAbs)) := Lib.hid (by rw [← hV]; exact HD6.out.below (below_drewN' _ _))
      have D7 : Hid (Dg V A7 c7 (nd 1)) := Lib.hid (by rw [← hV]; exact HD7.out.below (below_drewN' _ _))
      clear hV HD5 HD6 HD7 HSu
      refine wp_region_slots_pop 7 55 rfl (by kernel_rfl) (by kernel_rfl) (by kernel_rfl) (by kernel_rfl) (fun v => Below V.heap.size V v) (fun v v' => Below v.heap.size v v') (endG xn A5 A6 A7 c5 c6 c7 a b a b A5 A6 c5 c6 (w.heap.size)) endG_keep ?_ ?_ ?_
      · exact (Below.refl _ V).drew
      · simp only [List.pop_toArray, List.dropLast, StepsFrom]
        refine ⟨?_, ?_, ?_, ?_, ?_, ?_, ?_, trivial⟩
        · intro bb v hSu hdep hkept K hK
          have e2 : bb.tmps.getD 2 undef = .pointer (some ⟨w.heap.size, 0, none⟩) := hkept 2 (by kernel_rfl)
          go_simp
          exact hK _ _ hSu (Below.refl _ _) rfl
        · intro bb v hSu hdep hkept K hK
          have e41 : bb.tmps.getD 41 undef = .pointer (some ⟨w.heap.size, 0, none⟩) := hdep 0 _ rfl (by kernel_rfl)
          have c0 := HC0.out v hSu
          go_simp
          exact hK _ _ hSu (Below.refl _ _) rfl
        · intro bb v hSu hdep hkept K hK
          have e5 : bb.tmps.getD 5 undef = .slice A5 (nd a.natAbs).length c5 := hkept 5 (by kernel_rfl)
          go_simp
          exact hK _ _ hSu (Below.refl _ _) rfl
        · intro bb v hSu hdep hkept K hK
          have e6 : bb.tmps.getD 6 undef = .slice A6 (nd b.natAbs).length c6 := hkept 6 (by kernel_rfl)
          go_simp
          exact hK _ _ hSu (Below.refl _ _) rfl
        · intro bb v hSu hdep hkept K hK
          have e43 : bb.tmps.getD 43 undef = .slice A5 (nd a.natAbs).length c5 := hdep 2 _ rfl (by kernel_rfl)
          have e44 : bb.tmps.getD 44 undef = .slice A6 (nd b.natAbs).length c6 := hdep 3 _ rfl (by kernel_rfl)
          go_simp
          refine (minus_any A5 A6 c5 c6 _ _ v (D5.out.below hSu).lies (D6.out.below hSu).lies (Lib.hid (dgs_nd _)) (Lib.hid (dgs_nd _)) LE.out (by omega) (a.natAbs - b.natAbs) (Lib.hid NN.out.symm)).mono ?_
          rintro e w' ⟨A, c, rfl, h1, h2, h3, h4⟩
          go_simp
          exact hK _ _ (hSu.trans (h4.mono hSu.size)) h4 ⟨A, c, rfl, ⟨h1, dgs_nd _, h2, h3⟩⟩
        · intro bb v hSu hdep hkept K hK
          have e7 : bb.tmps.getD 7 undef = .slice A7 (nd 1).length c7 := hkept 7 (by kernel_rfl)
          go_simp
          exact hK _ _ hSu (Below.refl _ _) rfl
        · intro bb v hSu hdep hkept K hK
          have e42 : bb.tmps.getD 42 undef = .bool xn := hdep 1 _ rfl (by kernel_rfl)
          obtain ⟨A45, c45, e45, D45⟩ : ∃ A c, bb.tmps.getD 45 undef = .slice A (nd (a.natAbs - b.natAbs)).length c ∧ Dg v A c (nd (a.natAbs - b.natAbs)) := hdep 4 _ rfl (by kernel_rfl)
          have e46 : bb.tmps.getD 46 undef = .slice A7 (nd 1).length c7 := hdep 5 _ rfl (by kernel_rfl)
          go_simp
          refine (make1_one xn A45 A7 c45 c7 _ _ v D45 (D7.out.below hSu) (by have := nd_len_mono (show a.natAbs - b.natAbs ≤ a.natAbs by omega); omega) (by rw [nd_one]; simp) (a.natAbs - b.natAbs) (Lib.hid (vl_nd _)) (Lib.hid (.inr (by rw [nd_one]; rfl)))).mono ?_
          intro e w' hR
          obtain ⟨r, rfl, hr, h4⟩ := hR.fz (by rw [MA.out]; exact SG.out) MA.out
          go_simp
          exact hK _ _ (hSu.trans (h4.mono hSu.size)) h4 ⟨r, rfl, hr⟩
      · intro bb v hN hdf hSu hG hsame
        obtain ⟨r, e47, hr⟩ : ∃ r : Fr, bb.tmps.getD 47 undef = r.val ∧ Fz v r (a + b) := hG 6 _ rfl
        have e4 : bb.tmps.getD 4 undef = .pointer (some ⟨w.heap.size + 1 + 1, 0, none⟩) := hsame 4 (by kernel_rfl)
        have BX3 := BX2.out.below hSu
        obtain ⟨c0, c1, c2, f0, f1, f2⟩ := BX3.facts
        have BXH := Lib.hid BX3
        have HR := Lib.hid hr
        have HB3 := Lib.hid (HB2.out.trans (hSu.mono HB2.out.size))
        clear BX3 hr hSu hG hsame
        rw [frame_lit bb 55 hN]
        simp only [show List.range 55 = [0, 1, 2, 3, 4, 5, 6, 7, 8, 9, 10, 11, 12, 13, 14, 15, 16, 17, 18, 19, 20, 21, 22, 23, 24, 25, 26, 27, 28, 29, 30, 31, 32, 33, 34, 35, 36, 37, 38, 39, 40, 41, 42, 43, 44, 45, 46, 47, 48, 49, 50, 51, 52, 53, 54] from rfl, List.map_cons, List.map_nil, e4, e47, hdf]
        clear e4 e47 hN hdf
        generalize bb.tmps.getD 0 undef = z0
        generalize bb.tmps.getD 1 undef = z1
        generalize bb.tmps.getD 2 undef = z2
        generalize bb.tmps.getD 3 undef = z3
        generalize bb.tmps.getD 5 undef = z5
        generalize bb.tmps.getD 6 undef = z6
        generalize bb.tmps.getD 7 undef = z7
        generalize bb.tmps.getD 8 undef = z8
        generalize bb.tmps.getD 9 undef = z9
        generalize bb.tmps.getD 10 undef = z10
        generalize bb.tmps.getD 11 undef = z11
        generalize bb.tmps.getD 12 undef = z12
        generalize bb.tmps.getD 13 undef = z13
        generalize bb.tmps.getD 14 undef = z14
        generalize bb.tmps.getD 15 undef = z15
        generalize bb.tmps.getD 16 undef = z16
        generalize bb.tmps.getD 17 undef = z17
        generalize bb.tmps.getD 18 undef = z18
        generalize bb.tmps.getD 19 undef = z19
        generalize bb.tmps.getD 20 undef = z20
        generalize bb.tmps.getD 21 undef = z21
        generalize bb.tmps.getD 22 undef = z22
        generalize bb.tmps.getD 23 undef = z23
        generalize bb.tmps.getD 24 undef = z24
        generalize bb.tmps.getD 25 undef = z25
        generalize bb.tmps.getD 26 undef = z26
        generalize bb.tmps.getD 27 undef = z27
        generalize bb.tmps.getD 28 undef = z28
        generalize bb.tmps.getD 29 undef = z29
        generalize bb.tmps.getD 30 undef = z30
        generalize bb.tmps.getD 31 undef = z31
        generalize bb.tmps.getD 32 undef = z32
        generalize bb.tmps.getD 33 undef = z33
        generalize bb.tmps.getD 34 undef = z34
        generalize bb.tmps.getD 35 undef = z35
        generalize bb.tmps.getD 36 undef = z36
        generalize bb.tmps.getD 37 undef = z37
        generalize bb.tmps.getD 38 undef = z38
        generalize bb.tmps.getD 39 undef = z39
        generalize bb.tmps.getD 40 undef = z40
        generalize bb.tmps.getD 41 undef = z41
        generalize bb.tmps.getD 42 undef = z42
        generalize bb.tmps.getD 43 undef = z43
        generalize bb.tmps.getD 44 undef = z44
        generalize bb.tmps.getD 45 undef = z45
        generalize bb.tmps.getD 46 undef = z46
        generalize bb.tmps.getD 48 undef = z48
        generalize bb.tmps.getD 49 undef = z49
        generalize bb.tmps.getD 50 undef = z50
        generalize bb.tmps.getD 51 undef = z51
        generalize bb.tmps.getD 52 undef = z52
        generalize bb.tmps.getD 53 undef = z53
        generalize bb.tmps.getD 54 undef = z54
        obtain ⟨rn, rA, rc, rN, rB, rd, rD⟩ := r
        refine PopQ.last rfl rfl (fun K hK => ?_)
        go_simp
        refine hK _ _ ?_
        clear hK K
        go_wp2_with fail
        obtain ⟨g0, g1, g2⟩ := box3 (.bool rn) (.slice rA rN.length rc) (.slice rB rD.length rd) c0 c1 c2
        refine bodyPost_ret (v := .agg #[.bool rn, .slice rA rN.length rc, .slice rB rD.length rd]) (by simp [results, Tryd.results138, go_sem, g0, g1, g2]) rfl ?_
        exact ⟨⟨rn, rA, rc, rN, rB, rd, rD⟩, rfl, HR.out.boxed BXH.out _ _ _, ((HB3.out.setCell (by simp; omega) _).setCell (by simp; omega) _).setCell (by simp; omega) _⟩
    · have HC1 : Hid (∃ r : Int, r < 0 ∧ cmpN a.natAbs b.natAbs = r) := Lib.hid ⟨-1, by decide, cmpN_lt (by omega)⟩
      obtain ⟨r, hr0, hr⟩ := HC1.out
      have HR := Lib.hid hr
      clear HC1 hr
      go_wp2_with fail
      refine (HO.out r HR).mono ?_
      rintro e w' ⟨rfl, nq, rfl⟩
      go_wp2_with fail
      have hc0 : ∀ v, Below (u.drewN nq).heap.size (u.drewN nq) v → v.cell? ⟨w.heap.size + 1, 0, none⟩ = some (.bool yn) := fun v hv => (hv.cell (p := ⟨w.heap.size + 1, 0, none⟩) (by have := HSu.out.size; simp; omega)).trans c3
      have HC0 := Lib.hid hc0
      have HSV : Hid (Below W.heap.size W (u.drewN nq)) := Lib.hid (HSu.out.trans (below_drewN' _ _))
      have NN : Hid (((b.natAbs - a.natAbs : Nat) : Int) = vl (nd b.natAbs) - vl (nd a.natAbs)) := Lib.hid (by rw [vl_nd, vl_nd]; omega)
      have MA : Hid (b.natAbs - a.natAbs = (a + b).natAbs) := Lib.hid (by have h := hab.out; rw [ne_eq, decide_eq_decide] at h; omega)
      have SG : Hid ((yn && decide ((a + b).natAbs ≠ 0)) = decide (a + b < 0)) := Lib.hid (by have h := hab.out; rw [ne_eq, decide_eq_decide] at h; rw [YN.out, Bool.eq_iff_iff]; simp only [Bool.and_eq_true, decide_eq_true_eq]; omega)
      have LE : Hid ((nd a.natAbs).length ≤ (nd b.natAbs).length) := Lib.hid (nd_len_mono (by omega))
      have BX2 := Lib.hid ((HBX.out.below HSu.out).below (below_drewN' u nq))
      have HB2 := Lib.hid (HB0.out.trans (HSV.out.mono HB0.out.size))
      clear hc0 c0 c1 c2 c3 c4 c5' HO
      generalize hV : u.drewN nq = V at *
      have D5 : Hid (Dg V A5 c5 (nd a.natAbs)) := Lib.hid (by rw [← hV]; exact HD5.out.below (below_drewN' _ _))
      have D6 : Hid (Dg V A6 c6 (nd b.natAbs)) := Lib.hid (by rw [← hV]; exact HD6.out.below (below_drewN' _ _))
      have D7 : Hid (Dg V A7 c7 (nd 1)) := Lib.hid (by rw [← hV]; exact HD7.out.below (below_drewN' _ _))
      clear hV HD5 HD6 HD7 HSu
      refine wp_region_slots_pop 7 55 rfl (by kernel_rfl) (by kernel_rfl) (by kernel_rfl) (by kernel_rfl) (fun v => Below V.heap.size V v) (fun v v' => Below v.heap.size v v') (endG yn A5 A6 A7 c5 c6 c7 a b b a A6 A5 c6 c5 (w.heap.size + 1)) endG_keep ?_ ?_ ?_
      · exact (Below.refl _ V).drew
      · simp only [List.pop_toArray, List.dropLast, StepsFrom]
        refine ⟨?_, ?_, ?_, ?_, ?_, ?_, ?_, trivial⟩
        · intro bb v hSu hdep hkept K hK
          have e3 : bb.tmps.getD 3 undef = .pointer (some ⟨w.heap.size + 1, 0, none⟩) := hkept 3 (by kernel_rfl)
          go_simp
          exact hK _ _ hSu (Below.refl _ _) rfl
        · intro bb v hSu hdep hkept K hK
          have e48 : bb.tmps.getD 48 undef = .pointer (some ⟨w.heap.size + 1, 0, none⟩) := hdep 0 _ rfl (by kernel_rfl)
          have c0 := HC0.out v hSu
          go_simp
          exact hK _ _ hSu (Below.refl _ _) rfl
        · intro bb v hSu hdep hkept K hK
          have e6 : bb.tmps.getD 6 undef = .slice A6 (nd b.natAbs).length c6 := hkept 6 (by kernel_rfl)
          go_simp
          exact hK _ _ hSu (Below.refl _ _) rfl
        · intro bb v hSu hdep hkept K hK
          have e5 : bb.tmps.getD 5 undef = .slice A5 (nd a.natAbs).length c5 := hkept 5 (by kernel_rfl)
          go_simp
          exact hK _ _ hSu (Below.refl _ _) rfl
        · intro bb v hSu hdep hkept K hK
          have e50 : bb.tmps.getD 50 undef = .slice A6 (nd b.natAbs).length c6 := hdep 2 _ rfl (by kernel_rfl)
          have e51 : bb.tmps.getD 51 undef = .slice A5 (nd a.natAbs).length c5 := hdep 3 _ rfl (by kernel_rfl)
          go_simp
          refine (minus_any A6 A5 c6 c5 _ _ v (D6.out.below hSu).lies (D5.out.below hSu).lies (Lib.hid (dgs_nd _)) (Lib.hid (dgs_nd _)) LE.out (by omega) (b.natAbs - a.natAbs) (Lib.hid NN.out.symm)).mono ?_
          rintro e w' ⟨A, c, rfl, h1, h2, h3, h4⟩
          go_simp
          exact hK _ _ (hSu.trans (h4.mono hSu.size)) h4 ⟨A, c, rfl, ⟨h1, dgs_nd _, h2, h3⟩⟩
        · intro bb v hSu hdep hkept K hK
          have e7 : bb.tmps.getD 7 undef = .slice A7 (nd 1).length c7 := hkept 7 (by kernel_rfl)
          go_simp
          exact hK _ _ hSu (Below.refl _ _) rfl
        · intro bb v hSu hdep hkept K hK
          have e49 : bb.tmps.getD 49 undef = .bool yn := hdep 1 _ rfl (by kernel_rfl)
          obtain ⟨A52, c52, e52, D52⟩ : ∃ A c, bb.tmps.getD 52 undef = .slice A (nd (b.natAbs - a.natAbs)).length c ∧ Dg v A c (nd (b.natAbs - a.natAbs)) := hdep 4 _ rfl (by kernel_rfl)
          have e53 : bb.tmps.getD 53 undef = .slice A7 (nd 1).length c7 := hdep 5 _ rfl (by kernel_rfl)
          go_simp
          refine (make1_one yn A52 A7 c52 c7 _ _ v D52 (D7.out.below hSu) (by have := nd_len_mono (show b.natAbs - a.natAbs ≤ b.natAbs by omega); omega) (by rw [nd_one]; simp) (b.natAbs - a.natAbs) (Lib.hid (vl_nd _)) (Lib.hid (.inr (by rw [nd_one]; rfl)))).mono ?_
          intro e w' hR
          obtain ⟨r, rfl, hr, h4⟩ := hR.fz (by rw [MA.out]; exact SG.out) MA.out
          go_simp
          exact hK _ _ (hSu.trans (h4.mono hSu.size)) h4 ⟨r, rfl, hr⟩
      · intro bb v hN hdf hSu hG hsame
        obtain ⟨r, e54, hr⟩ : ∃ r : Fr, bb.tmps.getD 54 undef = r.val ∧ Fz v r (a + b) := hG 6 _ rfl
        have e4 : bb.tmps.getD 4 undef = .pointer (some ⟨w.heap.size + 1 + 1, 0, none⟩) := hsame 4 (by kernel_rfl)
        have BX3 := BX2.out.below hSu
        obtain ⟨c0, c1, c2, f0, f1, f2⟩ := BX3.facts
        have BXH := Lib.hid BX3
        have HR := Lib.hid hr
        have HB3 := Lib.hid (HB2.out.trans (hSu.mono HB2.out.size))
        clear BX3 hr hSu hG hsame
        rw [frame_lit bb 55 hN]
        simp only [show List.range 55 = [0, 1, 2, 3, 4, 5, 6, 7, 8, 9, 10, 11, 12, 13, 14, 15, 16, 17, 18, 19, 20, 21, 22, 23, 24, 25, 26, 27, 28, 29, 30, 31, 32, 33, 34, 35, 36, 37, 38, 39, 40, 41, 42, 43, 44, 45, 46, 47, 48, 49, 50, 51, 52, 53, 54] from rfl, List.map_cons, List.map_nil, e4, e54, hdf]
        clear e4 e54 hN hdf
        generalize bb.tmps.getD 0 undef = z0
        generalize bb.tmps.getD 1 undef = z1
        generalize bb.tmps.getD 2 undef = z2
        generalize bb.tmps.getD 3 undef = z3
        generalize bb.tmps.getD 5 undef = z5
        generalize bb.tmps.getD 6 undef = z6
        generalize bb.tmps.getD 7 undef = z7
        generalize bb.tmps.getD 8 undef = z8
        generalize bb.tmps.getD 9 undef = z9
        generalize bb.tmps.getD 10 undef = z10
        generalize bb.tmps.getD 11 undef = z11
        generalize bb.tmps.getD 12 undef = z12
        generalize bb.tmps.getD 13 undef = z13
        generalize bb.tmps.getD 14 undef = z14
        generalize bb.tmps.getD 15 undef = z15
        generalize bb.tmps.getD 16 undef = z16
        generalize bb.tmps.getD 17 undef = z17
        generalize bb.tmps.getD 18 undef = z18
        generalize bb.tmps.getD 19 undef = z19
        generalize bb.tmps.getD 20 undef = z20
        generalize bb.tmps.getD 21 undef = z21
        generalize bb.tmps.getD 22 undef = z22
        generalize bb.tmps.getD 23 undef = z23
        generalize bb.tmps.getD 24 undef = z24
        generalize bb.tmps.getD 25 undef = z25
        generalize bb.tmps.getD 26 undef = z26
        generalize bb.tmps.getD 27 undef = z27
        generalize bb.tmps.getD 28 undef = z28
        generalize bb.tmps.getD 29 undef = z29
        generalize bb.tmps.getD 30 undef = z30
        generalize bb.tmps.getD 31 undef = z31
        generalize bb.tmps.getD 32 undef = z32
        generalize bb.tmps.getD 33 undef = z33
        generalize bb.tmps.getD 34 undef = z34
        generalize bb.tmps.getD 35 undef = z35
        generalize bb.tmps.getD 36 undef = z36
        generalize bb.tmps.getD 37 undef = z37
        generalize bb.tmps.getD 38 undef = z38
        generalize bb.tmps.getD 39 undef = z39
        generalize bb.tmps.getD 40 undef = z40
        generalize bb.tmps.getD 41 undef = z41
        generalize bb.tmps.getD 42 undef = z42
        generalize bb.tmps.getD 43 undef = z43
        generalize bb.tmps.getD 44 undef = z44
        generalize bb.tmps.getD 45 undef = z45
        generalize bb.tmps.getD 46 undef = z46
        generalize bb.tmps.getD 47 undef = z47
        generalize bb.tmps.getD 48 undef = z48
        generalize bb.tmps.getD 49 undef = z49
        generalize bb.tmps.getD 50 undef = z50
        generalize bb.tmps.getD 51 undef = z51
        generalize bb.tmps.getD 52 undef = z52
        generalize bb.tmps.getD 53 undef = z53
        obtain ⟨rn, rA, rc, rN, rB, rd, rD⟩ := r
        refine PopQ.last rfl rfl (fun K hK => ?_)
        go_simp
        refine hK _ _ ?_
        clear hK K
        go_wp2_with fail
        obtain ⟨g0, g1, g2⟩ := box3 (.bool rn) (.slice rA rN.length rc) (.slice rB rD.length rd) c0 c1 c2
        refine bodyPost_ret (v := .agg #[.bool rn, .slice rA rN.length rc, .slice rB rD.length rd]) (by simp [results, Tryd.results138, go_sem, g0, g1, g2]) rfl ?_
        exact ⟨⟨rn, rA, rc, rN, rB, rd, rD⟩, rfl, HR.out.boxed BXH.out _ _ _, ((HB3.out.setCell (by simp; omega) _).setCell (by simp; omega) _).setCell (by simp; omega) _⟩
end Go.Proofs.YtfapmghhmkekaaaDoor
