/- the reference's logarithm -/
import Derived.Test.YtfapmghhmkekaaaDoorRCmp
import Derived.Test.YtfapmghhmkekaaaDoorMb
import Derived.Test.YtfapmghhmkekaaaDoorLGrw
namespace Go.Proofs.YtfapmghhmkekaaaDoor
open Go.RowKit Ear
set_option linter.unusedVariables false

theorem pow_len {n k : Nat} (h : n ≤ 9223372036854775807) (hk : k ≤ 16) : (nd (n ^ k)).length ≤ 64 := by
  apply nd_len_le
  have h1 : n ^ k ≤ 9223372036854775807 ^ k := Nat.pow_le_pow_left h k
  have h2 : 9223372036854775807 ^ k ≤ 9223372036854775807 ^ 16 := Nat.pow_le_pow_right (by decide) hk
  have h3 : 9223372036854775807 ^ 16 < 4294967296 ^ 64 := by decide +kernel
  omega
theorem two_len {k : Nat} (hk : k ≤ 1100) : (nd (2 ^ k)).length ≤ 64 := by
  apply nd_len_le
  obtain ⟨m, hm⟩ : ∃ m : Nat, m = 1100 := ⟨_, rfl⟩
  have h2 : 2 ^ k ≤ 2 ^ m := Nat.pow_le_pow_right (by decide) (by omega)
  have h3 : 2 ^ m < 4294967296 ^ 64 := by subst hm; decide +kernel
  omega
def powG (x : Fr) (a n : Int) : Nat → Value → World → Prop
  | 0, v, _ => v = x.val
  | 1, v, _ => v = .int .i64 n
  | 2, v, w => ∃ r : Fr, v = r.val ∧ Fz w r n
  | 3, v, w => ∃ r : Fr, v = r.val ∧ Fz w r (a * n)
  | _, _, _ => True
theorem powG_keep {x : Fr} {a n : Int} : ∀ j v w w', powG x a n j v w → Below w.heap.size w w' → powG x a n j v w' := by
  intro j v w w' h hb
  unfold powG at *
  split at h <;> first
    | exact h
    | (obtain ⟨r, h1, h2⟩ := h; exact ⟨r, h1, h2.below hb⟩)
def cmpG (x y : Fr) (a b : Int) : Nat → Value → World → Prop
  | 0, v, _ => v = x.val
  | 1, v, w => ∃ r : Fr, v = r.val ∧ Fz w r 2
  | 2, v, w => ∃ r : Fr, v = r.val ∧ Fz w r a
  | 3, v, _ => v = y.val
  | 4, v, _ => v = .int .i64 (if a - b < 0 then -1 else if a - b = 0 then 0 else 1)
  | 5, v, _ => v = .bool (decide (a ≤ b))
  | _, _, _ => True
theorem cmpG_keep {x y : Fr} {a b : Int} : ∀ j v w w', cmpG x y a b j v w → Below w.heap.size w w' → cmpG x y a b j v w' := by
  intro j v w w' h hb
  unfold cmpG at *
  split at h <;> first
    | exact h
    | (obtain ⟨r, h1, h2⟩ := h; exact ⟨r, h1, h2.below hb⟩)
def twoG2 (x : Fr) (a : Int) : Nat → Value → World → Prop
  | 0, v, _ => v = x.val
  | 1, v, w => ∃ r : Fr, v = r.val ∧ Fz w r 2
  | 2, v, w => ∃ r : Fr, v = r.val ∧ Fz w r a
  | _, _, _ => True
theorem twoG2_keep {x : Fr} {a : Int} : ∀ j v w w', twoG2 x a j v w → Below w.heap.size w w' → twoG2 x a j v w' := by
  intro j v w w' h hb
  unfold twoG2 at *
  split at h <;> first
    | exact h
    | (obtain ⟨r, h1, h2⟩ := h; exact ⟨r, h1, h2.below hb⟩)
set_option maxHeartbeats 400000 in
theorem rLog_zero (w : World) : Calls Tryd.prog 29 #[.int .i64 0] w (RetIB (-16) w) := by
  go_enter Tryd.func29, Tryd.ntmps29
  go_wp2_with fail
  go_ret
  exact ⟨rfl, Below.refl _ _⟩
set_option maxRecDepth 100000 in
set_option maxHeartbeats 16000000 in
theorem rLog_pos (n : Nat) (w : World) (h0 : 0 < n) (h1 : n ≤ 9223372036854775807) : Calls Tryd.prog 29 #[.int .i64 n] w (RetIB (lg n) w) := by
  have hn0 : ((n : Int) == 0) = false := beq_eq_false_iff_ne.2 (by omega)
  have HL := Lib.hid (lg_pos (show n ≠ 0 by omega))
  have HN0 : Hid (n ^ 16 ≠ 0) := Lib.hid (pow16_ne (by omega))
  have HBD := Lib.hid (lg_bd (show n ≠ 0 by omega) (by omega))
  have HPL := Lib.hid (fun k hk => pow_len (n := n) (k := k) h1 hk)
  go_enter Tryd.func29, Tryd.ntmps29
  go_wp2_with fail
  refine (rOf_any 1 w (by decide) (by decide)).mono ?_
  rintro e w1 ⟨x0, rfl, hx0, hb1⟩
  have HX0 := Lib.hid hx0
  have HB1 := Lib.hid hb1
  clear hx0 hb1
  obtain ⟨xn, xA, xc, xN, xB, xd, xD⟩ := x0
  go_wp2_with fail
  obtain ⟨W, hW⟩ : ∃ W, W = w1.alloc (.cells #[.bool xn, .slice xA xN.length xc, .slice xB xD.length xd] 87) := ⟨_, rfl⟩
  have BV0 : Hid (BxV W w1.heap.size ⟨xn, xA, xc, xN, xB, xd, xD⟩) := Lib.hid (by rw [hW]; exact BxV.new w1 ⟨xn, xA, xc, xN, xB, xd, xD⟩)
  have FZ0 : Hid (Fz W ⟨xn, xA, xc, xN, xB, xd, xD⟩ ((n : Int) ^ 0)) := Lib.hid (by rw [hW, Int.pow_zero]; exact HX0.out.alloc _)
  have HBW : Hid (Below w.heap.size w W) := Lib.hid (by rw [hW]; exact HB1.out.alloc HB1.out.size _)
  have hG : w.heap.size ≤ w1.heap.size := HB1.out.size
  rw [← hW]
  clear hW
  generalize w1.heap.size = G at *
  clear HX0 HB1
  go_loopw [4] (fun i wr => ∃ k : Nat, k ≤ 16 ∧ i = .int .i64 k ∧ ∃ x : Fr, BxV wr G x ∧ Fz wr x ((n : Int) ^ k) ∧ Below w.heap.size w wr) (fun i _ => 16 - (intOf i).toNat)
  case atStart => exact ⟨0, by omega, rfl, _, BV0.out, FZ0.out, HBW.out⟩
  case round =>
    clear BV0 FZ0 HBW
    obtain ⟨k, hk, rfl, x, hbx, hfz, hbel⟩ := hrel
    have BXX := Lib.hid hbx
    have FZX := Lib.hid hfz
    have BEL := Lib.hid hbel
    clear hbx hfz hbel
    by_cases hlt : k < 16
    · go_wp2_with fail
      have HC : Hid (∀ u, Below wr.heap.size wr u → u.cell? ⟨G, 0, none⟩ = some (.bool x.neg) ∧ u.cell? ⟨G, 1, none⟩ = some (.slice x.A x.N.length x.c) ∧ u.cell? ⟨G, 2, none⟩ = some (.slice x.B x.D.length x.d)) := Lib.hid (fun u hu => ⟨(BXX.out.below hu).facts.1, (BXX.out.below hu).facts.2.1, (BXX.out.below hu).facts.2.2.1⟩)
      refine wp_region_slots_pop 4 31 rfl (by kernel_rfl) (by kernel_rfl) (by kernel_rfl) (by kernel_rfl) (fun u => Below wr.heap.size wr u) (fun u u' => Below u.heap.size u u') (powG x ((n : Int) ^ k) n) powG_keep ?_ ?_ ?_
      · exact (Below.refl _ wr).drew
      · simp only [List.pop_toArray, List.dropLast, StepsFrom]
        refine ⟨?_, ?_, ?_, ?_, trivial⟩
        · intro bb u hSu hdep hkept K hK
          have e3 : bb.tmps.getD 3 undef = .pointer (some ⟨G, 0, none⟩) := hkept 3 (by kernel_rfl)
          obtain ⟨c0, c1, c2⟩ := HC.out u hSu
          go_simp
          exact hK _ _ hSu (Below.refl _ _) rfl
        · intro bb u hSu hdep hkept K hK
          have e0 : bb.tmps.getD 0 undef = .int .i64 n := hkept 0 (by kernel_rfl)
          go_simp
          exact hK _ _ hSu (Below.refl _ _) rfl
        · intro bb u hSu hdep hkept K hK
          have e15 : bb.tmps.getD 15 undef = .int .i64 n := hdep 1 _ rfl (by kernel_rfl)
          go_simp
          refine (rOf_any n u (by omega) (by omega)).mono ?_
          rintro e w' ⟨r, rfl, hr, h4⟩
          go_simp
          exact hK _ _ (hSu.trans (h4.mono hSu.size)) h4 ⟨r, rfl, hr⟩
        · intro bb u hSu hdep hkept K hK
          have e14 : bb.tmps.getD 14 undef = x.val := hdep 0 _ rfl (by kernel_rfl)
          obtain ⟨r, e16, hr⟩ : ∃ r : Fr, bb.tmps.getD 16 undef = r.val ∧ Fz u r n := hdep 2 _ rfl (by kernel_rfl)
          go_simp
          refine (rMul_z x r ((n : Int) ^ k) n u (FZX.out.below hSu) hr (by have := HPL.out k (by omega); rw [show ((n : Int) ^ k).natAbs = n ^ k by rw [Int.natAbs_pow]; rfl]; omega) (by have := HPL.out 1 (by omega); rw [Nat.pow_one] at this; rw [Int.natAbs_natCast]; omega)).mono ?_
          rintro e w' ⟨r', rfl, hr', h4⟩
          go_simp
          exact hK _ _ (hSu.trans (h4.mono hSu.size)) h4 ⟨r', rfl, hr'⟩
      · intro bb u hN hdf hSu hG' hsame
        have e14 : bb.tmps.getD 14 undef = x.val := hG' 0 _ rfl
        have e15 : bb.tmps.getD 15 undef = .int .i64 n := hG' 1 _ rfl
        obtain ⟨r, e17, hr⟩ : ∃ r : Fr, bb.tmps.getD 17 undef = r.val ∧ Fz u r ((n : Int) ^ k * n) := hG' 3 _ rfl
        have BX2 := BXX.out.below hSu
        obtain ⟨c0, c1, c2, f0, f1, f2⟩ := BX2.facts
        have BXH := Lib.hid BX2
        have HR := Lib.hid hr
        have HB2 := Lib.hid (BEL.out.trans (hSu.mono BEL.out.size))
        clear BX2 hr hSu hG'
        rw [frame_lit bb 31 hN]
        simp only [show List.range 31 = [0, 1, 2, 3, 4, 5, 6, 7, 8, 9, 10, 11, 12, 13, 14, 15, 16, 17, 18, 19, 20, 21, 22, 23, 24, 25, 26, 27, 28, 29, 30] from rfl, List.map_cons, List.map_nil, hdf, hsame 0 (by kernel_rfl), hsame 1 (by kernel_rfl), hsame 2 (by kernel_rfl), hsame 3 (by kernel_rfl), hsame 4 (by kernel_rfl), hsame 5 (by kernel_rfl), hsame 6 (by kernel_rfl), hsame 7 (by kernel_rfl), hsame 8 (by kernel_rfl), hsame 9 (by kernel_rfl), hsame 10 (by kernel_rfl), hsame 11 (by kernel_rfl), hsame 12 (by kernel_rfl), hsame 13 (by kernel_rfl), hsame 18 (by kernel_rfl), hsame 19 (by kernel_rfl), hsame 20 (by kernel_rfl), hsame 21 (by kernel_rfl), hsame 22 (by kernel_rfl), hsame 23 (by kernel_rfl), hsame 24 (by kernel_rfl), hsame 25 (by kernel_rfl), hsame 26 (by kernel_rfl), hsame 27 (by kernel_rfl), hsame 28 (by kernel_rfl), hsame 29 (by kernel_rfl), hsame 30 (by kernel_rfl), e14, e15, e17]
        generalize bb.tmps.getD 16 undef = z16
        simp only [Array.getD_eq_getD_getElem?, List.getElem?_toArray, List.getElem?_cons_zero, List.getElem?_cons_succ, Option.getD_some]
        clear hsame hN hdf e14 e15 e17
        obtain ⟨rn, rA, rc, rN, rB, rd, rD⟩ := r
        refine PopQ.last rfl rfl (fun K hK => ?_)
        go_simp
        refine hK _ _ ?_
        clear hK K
        go_wp2_with fail
        exact ⟨⟨k + 1, by omega, by go_num, ⟨rn, rA, rc, rN, rB, rd, rD⟩, BXH.out.set ⟨rn, rA, rc, rN, rB, rd, rD⟩, by rw [Int.pow_succ]; exact HR.out.boxedV BXH.out _ _ _, ((HB2.out.setCell (by simp; omega) _).setCell (by simp; omega) _).setCell (by simp; omega) _⟩, by simp [intOf]; omega⟩
    · obtain rfl : k = 16 := by omega
      clear hlt hk
      have hs := BXX.out.lt
      obtain ⟨W0, rfl⟩ : ∃ W, W = wr := ⟨_, rfl⟩
      go_wp2_with fail
      refine (rOf_any 1 W0 (by decide) (by decide)).mono ?_
      rintro e w2 ⟨y0, rfl, hy0, hb2⟩
      have HY0 := Lib.hid hy0
      have BX2 := Lib.hid (BXX.out.below hb2)
      have FZ2 := Lib.hid (FZX.out.below hb2)
      have BE2 := Lib.hid (BEL.out.trans (hb2.mono BEL.out.size))
      have hs2 : G < w2.heap.size := BX2.out.lt
      clear hy0 hb2 BXX FZX BEL
      obtain ⟨yn, yA, yc, yN, yB, yd, yD⟩ := y0
      go_wp2_with fail
      obtain ⟨V, hV⟩ : ∃ V, V = w2.alloc (.cells #[.bool yn, .slice yA yN.length yc, .slice yB yD.length yd] 87) := ⟨_, rfl⟩
      have BV0 : Hid (BxV V w2.heap.size ⟨yn, yA, yc, yN, yB, yd, yD⟩) := Lib.hid (by rw [hV]; exact BxV.new w2 ⟨yn, yA, yc, yN, yB, yd, yD⟩)
      have FY0 : Hid (Fz V ⟨yn, yA, yc, yN, yB, yd, yD⟩ ((2 : Int) ^ 0)) := Lib.hid (by rw [hV, Int.pow_zero]; exact HY0.out.alloc _)
      have hbv : Below w2.heap.size w2 V := by rw [hV]; exact (Below.refl _ _).alloc (Nat.le_refl _) _
      have BX3 := Lib.hid (BX2.out.below hbv)
      have FZ3 := Lib.hid (FZ2.out.below hbv)
      have BE3 := Lib.hid (BE2.out.trans (hbv.mono BE2.out.size))
      have hHG : w.heap.size ≤ w2.heap.size := BE2.out.size
      rw [← hV]
      clear hV hbv BX2 FZ2 BE2 HY0
      generalize w2.heap.size = H at *
      have hGH : G ≠ H := by omega
      have HP0 : Hid (2 ^ 0 ≤ n ^ 16) := Lib.hid (by have := HN0.out; omega)
      clear hs hs2
      go_loopw [6] (fun i wr => ∃ l : Nat, i = .int .i64 l ∧ Hid (2 ^ l ≤ n ^ 16) ∧ BxV wr G x ∧ Fz wr x ((n : Int) ^ 16) ∧ Below w.heap.size w wr ∧ ∃ y : Fr, BxV wr H y ∧ Fz wr y ((2 : Int) ^ l)) (fun i _ => 1009 - (intOf i).toNat)
      case atStart => exact ⟨0, rfl, HP0, BX3.out, FZ3.out, BE3.out, _, BV0.out, FY0.out⟩
      case round =>
        clear BX3 FZ3 BE3 BV0 FY0 HP0
        obtain ⟨l, rfl, hle, hbx, hfz, hbel, y, hby, hfy⟩ := hrel
        have BXX := Lib.hid hbx
        have FZX := Lib.hid hfz
        have BEL := Lib.hid hbel
        have BYY := Lib.hid hby
        have FYY := Lib.hid hfy
        clear hbx hfz hbel hby hfy
        have hl8 : l ≤ 1008 := by
          have h3 := (Nat.le_log2 HN0.out).2 hle.out
          have h4 := HBD.out
          rw [HL.out] at h4
          omega
        have TL := Lib.hid (two_len (k := l) (by omega))
        have TL1 := Lib.hid (two_len (k := l + 1) (by omega))
        have PL16 := Lib.hid (HPL.out 16 (by omega))
        have HC : Hid (∀ u, Below wr.heap.size wr u → (u.cell? ⟨G, 0, none⟩ = some (.bool x.neg) ∧ u.cell? ⟨G, 1, none⟩ = some (.slice x.A x.N.length x.c) ∧ u.cell? ⟨G, 2, none⟩ = some (.slice x.B x.D.length x.d)) ∧ u.cell? ⟨H, 0, none⟩ = some (.bool y.neg) ∧ u.cell? ⟨H, 1, none⟩ = some (.slice y.A y.N.length y.c) ∧ u.cell? ⟨H, 2, none⟩ = some (.slice y.B y.D.length y.d)) := Lib.hid (fun u hu => ⟨⟨(BXX.out.below hu).facts.1, (BXX.out.below hu).facts.2.1, (BXX.out.below hu).facts.2.2.1⟩, (BYY.out.below hu).facts.1, (BYY.out.below hu).facts.2.1, (BYY.out.below hu).facts.2.2.1⟩)
        have HM2 : Hid (∀ u r, Below wr.heap.size wr u → Fz u r 2 → Calls Tryd.prog 79 #[y.val, r.val] u (RetFz ((2 : Int) ^ l * 2) u)) := Lib.hid (fun u r hu hr => rMul_z y r ((2 : Int) ^ l) 2 u (FYY.out.below hu) hr (by rw [show ((2 : Int) ^ l).natAbs = 2 ^ l by rw [Int.natAbs_pow]; rfl]; have := TL.out; omega) (by have := two_len (k := 1) (by decide); rw [Nat.pow_one] at this; show (nd 2).length ≤ _; omega))
        have HCM : Hid (∀ u r, Below wr.heap.size wr u → Fz u r ((2 : Int) ^ l * 2) → Calls Tryd.prog 80 #[r.val, x.val] u (RetIB (if (2 : Int) ^ l * 2 - (n : Int) ^ 16 < 0 then -1 else if (2 : Int) ^ l * 2 - (n : Int) ^ 16 = 0 then 0 else 1) u)) := Lib.hid (fun u r hu hr => rCmp_pos r x ((2 : Int) ^ l * 2) ((n : Int) ^ 16) u hr (FZX.out.below hu) (by rw [show ((2 : Int) ^ l * 2).natAbs = 2 ^ (l + 1) by rw [← Int.pow_succ, Int.natAbs_pow]; rfl]; have := TL1.out; omega) (by rw [show ((n : Int) ^ 16).natAbs = n ^ 16 by rw [Int.natAbs_pow]; rfl]; have := PL16.out; omega) (Int.mul_pos (Int.pow_pos (by decide)) (by decide)) (Int.pow_pos (by omega)))
        have HDC : Hid (decide ((2 : Int) ^ l * 2 ≤ (n : Int) ^ 16) = decide (2 ^ (l + 1) ≤ n ^ 16)) := Lib.hid (by
          have e1 : (2 : Int) ^ l * 2 = ((2 ^ (l + 1) : Nat) : Int) := by rw [← Int.pow_succ]; simp
          have e2 : (n : Int) ^ 16 = ((n ^ 16 : Nat) : Int) := by simp
          rw [e1, e2, decide_eq_decide]
          omega)
        have HT2 : Hid ((2 : Int) ^ (l + 1) = (2 : Int) ^ l * 2) := Lib.hid (Int.pow_succ 2 l)
        generalize (2 : Int) ^ l * 2 = t2 at *
        generalize hn16 : (n : Int) ^ 16 = p16 at *
        have HN16 := Lib.hid hn16
        clear hn16
        go_wp2_with fail
        refine wp_region_slots 31 rfl (by kernel_rfl) (by kernel_rfl) (by kernel_rfl) (fun u => Below wr.heap.size wr u) (fun u u' => Below u.heap.size u u') (cmpG y x t2 p16) cmpG_keep ?_ ?_ ?_
        · exact (Below.refl _ wr).drew
        · simp only [StepsFrom]
          refine ⟨?_, ?_, ?_, ?_, ?_, ?_, trivial⟩
          · intro bb u hSu hdep hkept K hK
            have e5 : bb.tmps.getD 5 undef = .pointer (some ⟨H, 0, none⟩) := hkept 5 (by kernel_rfl)
            obtain ⟨⟨c0, c1, c2⟩, c3, c4, c5⟩ := HC.out u hSu
            go_simp
            exact hK _ _ hSu (Below.refl _ _) rfl
          · intro bb u hSu hdep hkept K hK
            go_simp
            refine (rOf_any 2 u (by decide) (by decide)).mono ?_
            rintro e w' ⟨r, rfl, hr, h4⟩
            go_simp
            exact hK _ _ (hSu.trans (h4.mono hSu.size)) h4 ⟨r, rfl, hr⟩
          · intro bb u hSu hdep hkept K hK
            have e19 : bb.tmps.getD 19 undef = y.val := hdep 0 _ rfl (by kernel_rfl)
            obtain ⟨r, e20, hr⟩ : ∃ r : Fr, bb.tmps.getD 20 undef = r.val ∧ Fz u r 2 := hdep 1 _ rfl (by kernel_rfl)
            go_simp
            refine (HM2.out u r hSu hr).mono ?_
            rintro e w' ⟨r', rfl, hr', h4⟩
            go_simp
            exact hK _ _ (hSu.trans (h4.mono hSu.size)) h4 ⟨r', rfl, hr'⟩
          · intro bb u hSu hdep hkept K hK
            have e3 : bb.tmps.getD 3 undef = .pointer (some ⟨G, 0, none⟩) := hkept 3 (by kernel_rfl)
            obtain ⟨⟨c0, c1, c2⟩, c3, c4, c5⟩ := HC.out u hSu
            go_simp
            exact hK _ _ hSu (Below.refl _ _) rfl
          · intro bb u hSu hdep hkept K hK
            obtain ⟨r, e21, hr⟩ : ∃ r : Fr, bb.tmps.getD 21 undef = r.val ∧ Fz u r t2 := hdep 2 _ rfl (by kernel_rfl)
            have e22 : bb.tmps.getD 22 undef = x.val := hdep 3 _ rfl (by kernel_rfl)
            go_simp
            refine (HCM.out u r hSu hr).mono ?_
            rintro e w' ⟨rfl, h4⟩
            go_simp
            exact hK _ _ (hSu.trans (h4.mono hSu.size)) h4 rfl
          · intro bb u hSu hdep hkept K hK
            have e23 : bb.tmps.getD 23 undef = .int .i64 (if t2 - p16 < 0 then -1 else if t2 - p16 = 0 then 0 else 1) := hdep 4 _ rfl (by kernel_rfl)
            have q : decide ((if t2 - p16 < 0 then -1 else if t2 - p16 = 0 then 0 else 1 : Int) ≤ 0) = decide (t2 ≤ p16) := by
              rw [decide_eq_decide]
              by_cases h1 : t2 - p16 < 0
              · rw [if_pos h1]; omega
              · rw [if_neg h1]
                by_cases h2 : t2 - p16 = 0
                · rw [if_pos h2]; omega
                · rw [if_neg h2]; omega
            generalize (if t2 - p16 < 0 then -1 else if t2 - p16 = 0 then 0 else 1 : Int) = s at *
            go_simp
            exact hK _ _ hSu (Below.refl _ _) (by simp [cmpG])
        · intro bb u hN hdf hSu hG' hsame
          have e24 : bb.tmps.getD 24 undef = .bool (decide (t2 ≤ p16)) := hG' 5 _ rfl
          rw [HDC.out] at e24
          have HSU := Lib.hid hSu
          clear hSu hG'
          rw [frame_lit bb 31 hN]
          simp only [show List.range 31 = [0, 1, 2, 3, 4, 5, 6, 7, 8, 9, 10, 11, 12, 13, 14, 15, 16, 17, 18, 19, 20, 21, 22, 23, 24, 25, 26, 27, 28, 29, 30] from rfl, List.map_cons, List.map_nil, hdf, hsame 0 (by kernel_rfl), hsame 1 (by kernel_rfl), hsame 2 (by kernel_rfl), hsame 3 (by kernel_rfl), hsame 4 (by kernel_rfl), hsame 5 (by kernel_rfl), hsame 6 (by kernel_rfl), hsame 7 (by kernel_rfl), hsame 8 (by kernel_rfl), hsame 9 (by kernel_rfl), hsame 10 (by kernel_rfl), hsame 11 (by kernel_rfl), hsame 12 (by kernel_rfl), hsame 13 (by kernel_rfl), hsame 14 (by kernel_rfl), hsame 15 (by kernel_rfl), hsame 16 (by kernel_rfl), hsame 17 (by kernel_rfl), hsame 18 (by kernel_rfl), hsame 25 (by kernel_rfl), hsame 26 (by kernel_rfl), hsame 27 (by kernel_rfl), hsame 28 (by kernel_rfl), hsame 29 (by kernel_rfl), hsame 30 (by kernel_rfl), e24]
          generalize bb.tmps.getD 19 undef = z19
          generalize bb.tmps.getD 20 undef = z20
          generalize bb.tmps.getD 21 undef = z21
          generalize bb.tmps.getD 22 undef = z22
          generalize bb.tmps.getD 23 undef = z23
          simp only [Array.getD_eq_getD_getElem?, List.getElem?_toArray, List.getElem?_cons_zero, List.getElem?_cons_succ, Option.getD_some]
          clear hsame hN hdf e24
          clear bb
          by_cases hgo : 2 ^ (l + 1) ≤ n ^ 16
          · have HGO : Hid (2 ^ (l + 1) ≤ n ^ 16) := Lib.hid hgo
            have HD1 : decide (2 ^ (l + 1) ≤ n ^ 16) = true := decide_eq_true hgo
            rw [HD1]
            clear HD1 hgo
            have hl9 : l + 1 ≤ 1008 := by
              have h3 := (Nat.le_log2 HN0.out).2 HGO.out
              have h4 := HBD.out
              rw [HL.out] at h4
              omega
            go_wp2_with fail
            refine wp_region_slots_pop 3 31 rfl (by kernel_rfl) (by kernel_rfl) (by kernel_rfl) (by kernel_rfl) (fun v => Below wr.heap.size wr v) (fun u u' => Below u.heap.size u u') (twoG2 y t2) twoG2_keep ?_ ?_ ?_
            · exact HSU.out.drew
            · simp only [List.pop_toArray, List.dropLast, StepsFrom]
              refine ⟨?_, ?_, ?_, trivial⟩
              · intro bb u hSu hdep hkept K hK
                have e5 : bb.tmps.getD 5 undef = .pointer (some ⟨H, 0, none⟩) := hkept 5 (by kernel_rfl)
                obtain ⟨⟨c0, c1, c2⟩, c3, c4, c5⟩ := HC.out u hSu
                go_simp
                exact hK _ _ hSu (Below.refl _ _) rfl
              · intro bb u hSu hdep hkept K hK
                go_simp
                refine (rOf_any 2 u (by decide) (by decide)).mono ?_
                rintro e w' ⟨r, rfl, hr, h4⟩
                go_simp
                exact hK _ _ (hSu.trans (h4.mono hSu.size)) h4 ⟨r, rfl, hr⟩
              · intro bb u hSu hdep hkept K hK
                have e25 : bb.tmps.getD 25 undef = y.val := hdep 0 _ rfl (by kernel_rfl)
                obtain ⟨r, e26, hr⟩ : ∃ r : Fr, bb.tmps.getD 26 undef = r.val ∧ Fz u r 2 := hdep 1 _ rfl (by kernel_rfl)
                go_simp
                refine (HM2.out u r hSu hr).mono ?_
                rintro e w' ⟨r', rfl, hr', h4⟩
                go_simp
                exact hK _ _ (hSu.trans (h4.mono hSu.size)) h4 ⟨r', rfl, hr'⟩
            · intro bb v hN hdf hSv hG' hsame
              obtain ⟨r, e27, hr⟩ : ∃ r : Fr, bb.tmps.getD 27 undef = r.val ∧ Fz v r t2 := hG' 2 _ rfl
              have BY2 := BYY.out.below hSv
              obtain ⟨c0, c1, c2, f0, f1, f2⟩ := BY2.facts
              have BYH := Lib.hid BY2
              have BX2 := Lib.hid (BXX.out.below hSv)
              have FX2 := Lib.hid (FZX.out.below hSv)
              have HR := Lib.hid hr
              have HB2 := Lib.hid (BEL.out.trans (hSv.mono BEL.out.size))
              clear BY2 hr hSv hG'
              rw [frame_lit bb 31 hN]
              simp only [show List.range 31 = [0, 1, 2, 3, 4, 5, 6, 7, 8, 9, 10, 11, 12, 13, 14, 15, 16, 17, 18, 19, 20, 21, 22, 23, 24, 25, 26, 27, 28, 29, 30] from rfl, List.map_cons, List.map_nil, hdf, hsame 0 (by kernel_rfl), hsame 1 (by kernel_rfl), hsame 2 (by kernel_rfl), hsame 3 (by kernel_rfl), hsame 4 (by kernel_rfl), hsame 5 (by kernel_rfl), hsame 6 (by kernel_rfl), hsame 7 (by kernel_rfl), hsame 8 (by kernel_rfl), hsame 9 (by kernel_rfl), hsame 10 (by kernel_rfl), hsame 11 (by kernel_rfl), hsame 12 (by kernel_rfl), hsame 13 (by kernel_rfl), hsame 14 (by kernel_rfl), hsame 15 (by kernel_rfl), hsame 16 (by kernel_rfl), hsame 17 (by kernel_rfl), hsame 18 (by kernel_rfl), hsame 19 (by kernel_rfl), hsame 20 (by kernel_rfl), hsame 21 (by kernel_rfl), hsame 22 (by kernel_rfl), hsame 23 (by kernel_rfl), hsame 24 (by kernel_rfl), hsame 28 (by kernel_rfl), hsame 29 (by kernel_rfl), hsame 30 (by kernel_rfl), e27]
              generalize bb.tmps.getD 25 undef = z25
              generalize bb.tmps.getD 26 undef = z26
              simp only [Array.getD_eq_getD_getElem?, List.getElem?_toArray, List.getElem?_cons_zero, List.getElem?_cons_succ, Option.getD_some]
              clear hsame hN hdf e27 bb
              obtain ⟨rn, rA, rc, rN, rB, rd, rD⟩ := r
              refine PopQ.last rfl rfl (fun K hK => ?_)
              go_simp
              refine hK _ _ ?_
              clear hK K
              go_wp2_with fail
              exact ⟨⟨l + 1, by go_num, HGO, BX2.out.other hGH, FX2.out.boxedV BYH.out _ _ _, ((HB2.out.setCell (by simp; omega) _).setCell (by simp; omega) _).setCell (by simp; omega) _, ⟨rn, rA, rc, rN, rB, rd, rD⟩, BYH.out.set ⟨rn, rA, rc, rN, rB, rd, rD⟩, by rw [HT2.out]; exact HR.out.boxedV BYH.out _ _ _⟩, by simp [intOf]; omega⟩
          · have HGO : Hid (¬ 2 ^ (l + 1) ≤ n ^ 16) := Lib.hid hgo
            have HD1 : decide (2 ^ (l + 1) ≤ n ^ 16) = false := decide_eq_false hgo
            rw [HD1]
            clear HD1 hgo
            have HLL : Hid (lg n = (l : Int)) := Lib.hid (by
              rw [HL.out]
              congr 1
              exact (Nat.log2_eq_iff HN0.out).2 ⟨hle.out, by have := HGO.out; omega⟩)
            go_wp2_with fail
            go_ret
            exact ⟨ret_int (by rw [HLL.out]), BEL.out.trans (HSU.out.mono BEL.out.size)⟩
end Go.Proofs.YtfapmghhmkekaaaDoor
