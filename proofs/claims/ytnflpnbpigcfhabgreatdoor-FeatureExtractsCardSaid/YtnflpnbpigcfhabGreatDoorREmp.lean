/- the reference's Emphasis -/
import Derived.Test.YtnflpnbpigcfhabGreatDoorRWin
import Derived.Test.YtnflpnbpigcfhabGreatDoorPEmpLaw
namespace Go.Proofs.YtnflpnbpigcfhabGreatDoor
open Go.RowKit Ear

set_option maxHeartbeats 400000 in
theorem Shape_any (num den : Int) (w : World) (b : Bool) (hb : Hid (decide (0 ≤ num ∧ num ≤ den ∧ 1 ≤ den ∧ den ≤ 1024) = b)) :
    Calls Tryz.prog 27 #[.int .i64 num, .int .i64 den] w fun e w' => e = .returned (.bool b) ∧ w = w' := by
  have hb' := hb.out
  clear hb
  subst hb'
  by_cases h1 : 0 < den
  · by_cases h2 : den ≤ 1024
    · by_cases h3 : 0 ≤ num
      · by_cases h4 : num ≤ den
        all_goals
          go_enter Tryz.func27, Tryz.ntmps27
          go_wp2_with fail
          go_ret
          exact ⟨ret_bool (by simp; omega), rfl⟩
      · go_enter Tryz.func27, Tryz.ntmps27
        go_wp2_with fail
        go_ret
        exact ⟨ret_bool (by simp; omega), rfl⟩
    · go_enter Tryz.func27, Tryz.ntmps27
      go_wp2_with fail
      go_ret
      exact ⟨ret_bool (by simp; omega), rfl⟩
  · go_enter Tryz.func27, Tryz.ntmps27
    go_wp2_with fail
    go_ret
    exact ⟨ret_bool (by simp; omega), rfl⟩

set_option maxHeartbeats 400000 in
theorem rEmphasis_chk (A : Option Addr) (c : Nat) (l : List Int) (num den : Int) (back : Bool) (w : World) (h : Lies w A (ics l)) (hn : l.length ≤ 9223372036854775807) (r : Int) (hr : Hid (rchk l num den = r)) (h0 : (r != 0) = true) :
    Calls Tryz.prog 33 #[.slice A l.length c, .int .i64 num, .int .i64 den, .bool back] w (IntsErr r [] w) := by
  have hr' := hr.out
  clear hr
  subst hr'
  by_cases h1 : 200000 < l.length
  · have e : rchk l num den = 5 := by unfold rchk vchk; rw [if_pos h1]; rfl
    rw [e] at h0 ⊢
    clear e
    go_enter Tryz.func33, Tryz.ntmps33
    go_wp2_with fail
    go_ret2
    exact ⟨none, 0, rfl, World.ownsRow_nil _ _ _ _, Below.refl _ _⟩
  cases hv : vls l with
  | false =>
    have e : rchk l num den = 2 := by unfold rchk vchk; rw [if_neg h1, hv]; rfl
    rw [e] at h0 ⊢
    have HV := Lib.hid hv
    clear e hv
    go_enter Tryz.func33, Tryz.ntmps33
    go_wp2_with fail
    refine (rValues_any A c l _ h hn false HV).mono ?_
    rintro e w' ⟨rfl, rfl⟩
    go_wp2_with fail
    go_ret2
    exact ⟨none, 0, rfl, World.ownsRow_nil _ _ _ _, Below.refl _ _⟩
  | true =>
    have hsh : ¬ (0 ≤ num ∧ num ≤ den ∧ 1 ≤ den ∧ den ≤ 1024) := fun hs => by
      have : rchk l num den = 0 := rchk_ok.2 ⟨⟨by omega, hv⟩, hs⟩
      simp [this] at h0
    have e : rchk l num den = 2 := by unfold rchk vchk; rw [if_neg h1, hv]; simp [hsh]
    rw [e] at h0 ⊢
    have HV := Lib.hid hv
    have HS := Lib.hid hsh
    clear e hv hsh
    go_enter Tryz.func33, Tryz.ntmps33
    go_wp2_with fail
    refine (rValues_any A c l _ h hn true HV).mono ?_
    rintro e w' ⟨rfl, rfl⟩
    go_wp2_with fail
    refine (Shape_any num den _ false (Lib.hid (by simpa using HS.out))).mono ?_
    rintro e w' ⟨rfl, rfl⟩
    go_wp2_with fail
    go_ret2
    exact ⟨none, 0, rfl, World.ownsRow_nil _ _ _ _, Below.refl _ _⟩

set_option maxRecDepth 100000 in
set_option maxHeartbeats 2000000 in
theorem rEmphasis_fore (A : Option Addr) (c : Nat) (l : List Int) (num den : Int) (w : World) (h : Lies w A (ics l)) (hl : l.length ≤ 200000) (hv : Hid (vls l = true))
    (h0 : 0 ≤ num) (h1 : num ≤ den) (h2 : 1 ≤ den) (h3 : den ≤ 1024) (err : Int) (out : List Int) (hout : Hid (if (∀ j, j < l.length → inR (-2147483647) 2147483647 (empAt l num den j) = true) then err = 0 ∧ out = (List.range l.length).map (empAt l num den) else err = 2 ∧ out = [])) :
    Calls Tryz.prog 33 #[.slice A l.length c, .int .i64 num, .int .i64 den, .bool false] w (IntsErr err out w) := by
  obtain ⟨i0, hi0, hz0, hz1, hz2⟩ := info_parts int_info
  have HI := Lib.hid hi0; have HZ0 := Lib.hid hz0; have HZ1 := Lib.hid hz1; have HZ2 := Lib.hid hz2
  clear hi0 hz0 hz1 hz2
  go_enter Tryz.func33, Tryz.ntmps33
  go_wp2_with fail
  refine (rValues_any A c l _ h (by omega) true hv).mono ?_
  rintro e w' ⟨rfl, rfl⟩
  go_wp2_with fail
  refine (Shape_any num den _ true (Lib.hid (by simp; omega))).mono ?_
  rintro e w' ⟨rfl, rfl⟩
  go_wp2_with fail
  go_loopw [10, 11, 12] (fun v i _ wr => ∃ k : Nat, k ≤ l.length ∧ i = .int .i64 k ∧ ∃ A1 c1, v = .slice A1 k c1 ∧ wr.ownsRow w.heap.size 3 1 (.slice A1 k c1) k (ics ((List.range k).map (empAt l num den))) ∧ Below w.heap.size w wr ∧ Hid (∀ j, j < k → inR (-2147483647) 2147483647 (empAt l num den j) = true)) (fun _ i _ _ => l.length - (intOf i).toNat)
  case atStart => exact ⟨0, Nat.zero_le _, rfl, none, 0, rfl, World.ownsRow_nil _ _ _ _, Below.refl _ _, Lib.hid fun j hj => absurd hj (by omega)⟩
  case round =>
    obtain ⟨k, hk, rfl, A1, c1, rfl, r1, r2, r3⟩ := hrel
    by_cases hlt : k < l.length
    · obtain ⟨bk, off, rfl, hbk, hck⟩ := (h.below r2).at_ hlt
      have b1 := allR_get hv.out hlt
      have e1 : l[k]?.getD 0 = l[k] := by simp [List.getElem?_eq_getElem hlt]
      rw [← e1] at b1
      clear e1
      by_cases hk0 : k = 0
      · have E3 : Hid (empAt l num den k = l[k]?.getD 0) := by subst hk0; rfl
        have d1 : decide ((0 : Int) < (k : Int)) = false := by simp; omega
        have d2 : decide (0 < k) = false := by simp; omega
        clear hk0
        generalize hx1 : l[k]?.getD 0 = x1 at *
        have H1 := Lib.hid hx1
        clear hx1
        go_wp2_with (at_builtin; refine wpList_append_own_at _ rfl (.tmp 74) (.tmp 76) _ rfl w.heap.size 3 i0 _ 1 8 Tryz.underlying22 HI.out HZ0.out HZ1.out HZ2.out rfl (by omega) (.slice A1 k c1) k (ics ((List.range k).map (empAt l num den))) rfl (r1.alloc _) ⟨wr.heap.size, 0, none⟩ 1 1 [.int .i64 x1] rfl rfl (cell_one_new _ _ _) (by simp [Value.oneCell']) (by unfold maxLen; omega) (by omega) (by simp; exact Nat.le_succ_of_le r2.size) ?_; intro v' w2 hown1 hgrow _ hat)
        obtain ⟨A', c', rfl⟩ := own_slice hown1
        exact ⟨⟨k + 1, by omega, by go_num, A', c', rfl, by rw [List.range_succ, List.map_append]; simpa [ics, E3.out] using hown1, (r2.alloc r2.size _).grown hgrow (by simp; exact Nat.le_succ_of_le r2.size) (fun k hk => (r1.lt k hk).1), Lib.hid fun j hj => by
          by_cases hjk : j = k
          · subst hjk; rw [E3.out]; exact inR_true.2 (by omega)
          · exact r3.out j (by omega)⟩, by simp [intOf]; omega⟩
      · have d1 : decide ((0 : Int) < (k : Int)) = true := by simp; omega
        have d2 : decide (0 < k) = true := by simp; omega
        obtain ⟨bk2, off2, eb, hbk2, hck2⟩ := (h.below r2).at_ (k := k - 1) (by omega)
        cases eb
        have b2 := allR_get hv.out (show k - 1 < l.length by omega)
        have e1 : l[k - 1]?.getD 0 = l[k - 1] := by simp [List.getElem?_eq_getElem (show k - 1 < l.length by omega)]
        rw [← e1] at b2
        clear e1
        have e3 : empAt l num den k = l[k]?.getD 0 - rnd (num * l[k - 1]?.getD 0) den := by unfold empAt; rw [if_neg hk0]
        generalize hx1 : l[k]?.getD 0 = x1 at *
        generalize hx2 : l[k - 1]?.getD 0 = x2 at *
        have m1 := mul_bd2 (A := 1024) (X := 2147483647) h0 (by omega) (by omega) b2.2 (by omega)
        have hrb := rnd_bd (a := num * x2) (b := den) h2
        have hyb : -(1024 * 2147483647) ≤ rnd (num * x2) den ∧ rnd (num * x2) den ≤ 1024 * 2147483647 := by
          by_cases hs : 0 ≤ num * x2
          · have := hrb.1 hs; omega
          · have := hrb.2 (by omega); omega
        have i0' : (0 : Int) ≤ (k : Int) - 1 := by omega
        have i3 : (1 : Int) ≤ (k : Int) := by omega
        have i1 : (k : Int) - 1 < (l.length : Int) := by omega
        have i2 : ((k : Int) - 1).toNat = k - 1 := by omega
        have i4 : (k : Int) - 1 < (k : Int) := by omega
        have H1 := Lib.hid hx1
        have H2 := Lib.hid hx2
        have E3 := Lib.hid e3
        clear hx1 hx2 hrb e3 hk0
        rcases Bool.eq_false_or_eq_true (inR (-2147483647) 2147483647 (x1 - rnd (num * x2) den)) with hin | hin
        · have hin2 := inR_true.1 hin
          have HIN := Lib.hid hin
          clear hin
          go_wp2_with (first
            | (go_at_call 63; refine (Round_any _ _ _ h2 (by omega) (by omega) (by omega)).mono ?_; rintro e w' ⟨rfl, rfl⟩)
            | (at_builtin; refine wpList_append_own_at _ rfl (.tmp 74) (.tmp 76) _ rfl w.heap.size 3 i0 _ 1 8 Tryz.underlying22 HI.out HZ0.out HZ1.out HZ2.out rfl (by omega) (.slice _ k c1) k (ics ((List.range k).map (empAt l num den))) rfl (r1.alloc _) ⟨wr.heap.size, 0, none⟩ 1 1 [.int .i64 (x1 - rnd (num * x2) den)] rfl rfl (cell_one_new _ _ _) (by simp [Value.oneCell']) (by unfold maxLen; omega) (by omega) (by simp; exact Nat.le_succ_of_le r2.size) ?_; intro v' w2 hown1 hgrow _ hat))
          obtain ⟨A', c', rfl⟩ := own_slice hown1
          exact ⟨⟨k + 1, by omega, by go_num, A', c', rfl, by rw [List.range_succ, List.map_append]; simpa [ics, E3.out] using hown1, (r2.alloc r2.size _).grown hgrow (by simp; exact Nat.le_succ_of_le r2.size) (fun k hk => (r1.lt k hk).1), Lib.hid fun j hj => by
            by_cases hjk : j = k
            · subst hjk; rw [E3.out]; exact HIN.out
            · exact r3.out j (by omega)⟩, by simp [intOf]; omega⟩
        · have hin2 := inR_false.1 hin
          have hv2 : ¬ ∀ j, j < l.length → inR (-2147483647) 2147483647 (empAt l num den j) = true := fun hh => by
            have := hh k hlt
            rw [E3.out, hin] at this
            exact absurd this (by simp)
          have h6 := hout.out
          rw [if_neg hv2] at h6
          obtain ⟨rfl, rfl⟩ := h6
          clear hv2 hin
          rcases hin2 with hs | hs
          · go_wp2_with (go_at_call 63; refine (Round_any _ _ _ h2 (by omega) (by omega) (by omega)).mono ?_; rintro e w' ⟨rfl, rfl⟩)
            go_ret2
            exact ⟨none, 0, rfl, World.ownsRow_nil _ _ _ _, r2⟩
          · have hs' : ¬ x1 - rnd (num * x2) den < -2147483647 := by omega
            go_wp2_with (go_at_call 63; refine (Round_any _ _ _ h2 (by omega) (by omega) (by omega)).mono ?_; rintro e w' ⟨rfl, rfl⟩)
            go_ret2
            exact ⟨none, 0, rfl, World.ownsRow_nil _ _ _ _, r2⟩
    · obtain rfl : k = l.length := by omega
      have h6 := hout.out
      rw [if_pos r3.out] at h6
      obtain ⟨rfl, rfl⟩ := h6
      go_wp2_with fail
      go_ret2
      exact ⟨A1, c1, by rw [List.length_map, List.length_range]; rfl, by rw [List.length_map, List.length_range]; exact r1, r2⟩

set_option maxRecDepth 100000 in
set_option maxHeartbeats 2000000 in
theorem rEmphasis_back (A : Option Addr) (c : Nat) (l : List Int) (num den : Int) (w : World) (h : Lies w A (ics l)) (hl : l.length ≤ 200000) (hv : Hid (vls l = true))
    (h0 : 0 ≤ num) (h1 : num ≤ den) (h2 : 1 ≤ den) (h3 : den ≤ 1024) (err : Int) (out : List Int) (hout : Hid (if (∀ j, j < l.length → inR (-2147483647) 2147483647 (rstAt l num den j) = true) then err = 0 ∧ out = (List.range l.length).map (rstAt l num den) else err = 2 ∧ out = [])) :
    Calls Tryz.prog 33 #[.slice A l.length c, .int .i64 num, .int .i64 den, .bool true] w (IntsErr err out w) := by
  obtain ⟨i0, hi0, hz0, hz1, hz2⟩ := info_parts int_info
  have HI := Lib.hid hi0; have HZ0 := Lib.hid hz0; have HZ1 := Lib.hid hz1; have HZ2 := Lib.hid hz2
  clear hi0 hz0 hz1 hz2
  go_enter Tryz.func33, Tryz.ntmps33
  go_wp2_with fail
  refine (rValues_any A c l _ h (by omega) true hv).mono ?_
  rintro e w' ⟨rfl, rfl⟩
  go_wp2_with fail
  refine (Shape_any num den _ true (Lib.hid (by simp; omega))).mono ?_
  rintro e w' ⟨rfl, rfl⟩
  go_wp2_with fail
  go_loopw [10, 11, 12] (fun v i _ wr => ∃ k : Nat, k ≤ l.length ∧ i = .int .i64 k ∧ ∃ A1 c1, v = .slice A1 k c1 ∧ wr.ownsRow w.heap.size 3 1 (.slice A1 k c1) k (ics ((List.range k).map (rstAt l num den))) ∧ Below w.heap.size w wr ∧ Hid (∀ j, j < k → inR (-2147483647) 2147483647 (rstAt l num den j) = true)) (fun _ i _ _ => l.length - (intOf i).toNat)
  case atStart => exact ⟨0, Nat.zero_le _, rfl, none, 0, rfl, World.ownsRow_nil _ _ _ _, Below.refl _ _, Lib.hid fun j hj => absurd hj (by omega)⟩
  case round =>
    obtain ⟨k, hk, rfl, A1, c1, rfl, r1, r2, r3⟩ := hrel
    by_cases hlt : k < l.length
    · obtain ⟨bk, off, rfl, hbk, hck⟩ := (h.below r2).at_ hlt
      have b1 := allR_get hv.out hlt
      have e1 : l[k]?.getD 0 = l[k] := by simp [List.getElem?_eq_getElem hlt]
      rw [← e1] at b1
      clear e1
      by_cases hk0 : k = 0
      · have E3 : Hid (rstAt l num den k = l[k]?.getD 0) := by subst hk0; rfl
        have d1 : decide ((0 : Int) < (k : Int)) = false := by simp; omega
        have d2 : decide (0 < k) = false := by simp; omega
        clear hk0
        generalize hx1 : l[k]?.getD 0 = x1 at *
        have H1 := Lib.hid hx1
        clear hx1
        go_wp2_with (at_builtin; refine wpList_append_own_at _ rfl (.tmp 74) (.tmp 76) _ rfl w.heap.size 3 i0 _ 1 8 Tryz.underlying22 HI.out HZ0.out HZ1.out HZ2.out rfl (by omega) (.slice A1 k c1) k (ics ((List.range k).map (rstAt l num den))) rfl (r1.alloc _) ⟨wr.heap.size, 0, none⟩ 1 1 [.int .i64 x1] rfl rfl (cell_one_new _ _ _) (by simp [Value.oneCell']) (by unfold maxLen; omega) (by omega) (by simp; exact Nat.le_succ_of_le r2.size) ?_; intro v' w2 hown1 hgrow _ hat)
        obtain ⟨A', c', rfl⟩ := own_slice hown1
        exact ⟨⟨k + 1, by omega, by go_num, A', c', rfl, by rw [List.range_succ, List.map_append]; simpa [ics, E3.out] using hown1, (r2.alloc r2.size _).grown hgrow (by simp; exact Nat.le_succ_of_le r2.size) (fun k hk => (r1.lt k hk).1), Lib.hid fun j hj => by
          by_cases hjk : j = k
          · subst hjk; rw [E3.out]; exact inR_true.2 (by omega)
          · exact r3.out j (by omega)⟩, by simp [intOf]; omega⟩
      · have d1 : decide ((0 : Int) < (k : Int)) = true := by simp; omega
        have d2 : decide (0 < k) = true := by simp; omega
        obtain ⟨g, cap, hform, hg1, hg2⟩ := r1.form (by omega)
        obtain ⟨rfl, rfl⟩ : A1 = some ⟨g, 0, none⟩ ∧ c1 = cap := by injection hform with e1 _ e3; exact ⟨e1, e3⟩
        have q3 : wr.cell? ⟨g, k - 1, none⟩ = some (.int .i64 (rstAt l num den (k - 1))) := by
          rw [r1.cellAt (k - 1) (by omega)]; simp [show k - 1 < k by omega]
        have b2 := inR_true.1 (r3.out (k - 1) (by omega))
        have e3 : rstAt l num den k = l[k]?.getD 0 + rnd (num * rstAt l num den (k - 1)) den := by
          obtain ⟨j, rfl⟩ : ∃ j, k = j + 1 := ⟨k - 1, by omega⟩
          rfl
        generalize hx1 : l[k]?.getD 0 = x1 at *
        generalize hx2 : rstAt l num den (k - 1) = x2 at *
        have m1 := mul_bd2 (A := 1024) (X := 2147483647) h0 (by omega) (by omega) b2.2 (by omega)
        have hrb := rnd_bd (a := num * x2) (b := den) h2
        have hyb : -(1024 * 2147483647) ≤ rnd (num * x2) den ∧ rnd (num * x2) den ≤ 1024 * 2147483647 := by
          by_cases hs : 0 ≤ num * x2
          · have := hrb.1 hs; omega
          · have := hrb.2 (by omega); omega
        have i0' : (0 : Int) ≤ (k : Int) - 1 := by omega
        have i3 : (1 : Int) ≤ (k : Int) := by omega
        have i1 : (k : Int) - 1 < (l.length : Int) := by omega
        have i2 : ((k : Int) - 1).toNat = k - 1 := by omega
        have i4 : (k : Int) - 1 < (k : Int) := by omega
        have H1 := Lib.hid hx1
        have H2 := Lib.hid hx2
        have E3 := Lib.hid e3
        clear hx1 hx2 hrb e3 hk0
        rcases Bool.eq_false_or_eq_true (inR (-2147483647) 2147483647 (x1 + rnd (num * x2) den)) with hin | hin
        · have hin2 := inR_true.1 hin
          have HIN := Lib.hid hin
          clear hin
          go_wp2_with (first
            | (go_at_call 63; refine (Round_any _ _ _ h2 (by omega) (by omega) (by omega)).mono ?_; rintro e w' ⟨rfl, rfl⟩)
            | (at_builtin; refine wpList_append_own_at _ rfl (.tmp 74) (.tmp 76) _ rfl w.heap.size 3 i0 _ 1 8 Tryz.underlying22 HI.out HZ0.out HZ1.out HZ2.out rfl (by omega) (.slice _ k c1) k (ics ((List.range k).map (rstAt l num den))) rfl (r1.alloc _) ⟨wr.heap.size, 0, none⟩ 1 1 [.int .i64 (x1 + rnd (num * x2) den)] rfl rfl (cell_one_new _ _ _) (by simp [Value.oneCell']) (by unfold maxLen; omega) (by omega) (by simp; exact Nat.le_succ_of_le r2.size) ?_; intro v' w2 hown1 hgrow _ hat))
          obtain ⟨A', c', rfl⟩ := own_slice hown1
          exact ⟨⟨k + 1, by omega, by go_num, A', c', rfl, by rw [List.range_succ, List.map_append]; simpa [ics, E3.out] using hown1, (r2.alloc r2.size _).grown hgrow (by simp; exact Nat.le_succ_of_le r2.size) (fun k hk => (r1.lt k hk).1), Lib.hid fun j hj => by
            by_cases hjk : j = k
            · subst hjk; rw [E3.out]; exact HIN.out
            · exact r3.out j (by omega)⟩, by simp [intOf]; omega⟩
        · have hin2 := inR_false.1 hin
          have hv2 : ¬ ∀ j, j < l.length → inR (-2147483647) 2147483647 (rstAt l num den j) = true := fun hh => by
            have := hh k hlt
            rw [E3.out, hin] at this
            exact absurd this (by simp)
          have h6 := hout.out
          rw [if_neg hv2] at h6
          obtain ⟨rfl, rfl⟩ := h6
          clear hv2 hin
          rcases hin2 with hs | hs
          · go_wp2_with (go_at_call 63; refine (Round_any _ _ _ h2 (by omega) (by omega) (by omega)).mono ?_; rintro e w' ⟨rfl, rfl⟩)
            go_ret2
            exact ⟨none, 0, rfl, World.ownsRow_nil _ _ _ _, r2⟩
          · have hs' : ¬ x1 + rnd (num * x2) den < -2147483647 := by omega
            go_wp2_with (go_at_call 63; refine (Round_any _ _ _ h2 (by omega) (by omega) (by omega)).mono ?_; rintro e w' ⟨rfl, rfl⟩)
            go_ret2
            exact ⟨none, 0, rfl, World.ownsRow_nil _ _ _ _, r2⟩
    · obtain rfl : k = l.length := by omega
      have h6 := hout.out
      rw [if_pos r3.out] at h6
      obtain ⟨rfl, rfl⟩ := h6
      go_wp2_with fail
      go_ret2
      exact ⟨A1, c1, by rw [List.length_map, List.length_range]; rfl, by rw [List.length_map, List.length_range]; exact r1, r2⟩

end Go.Proofs.YtnflpnbpigcfhabGreatDoor
