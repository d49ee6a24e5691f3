/- wave.Restore -/
import Derived.Test.YtnhkngmdjomfjaaEmphW
import Derived.Test.YtnhkngmdjomfjaaPRst
namespace Go.Proofs.Ytnhkngmdjomfjaa
open Go.RowKit Ear

set_option maxHeartbeats 400000 in
theorem Restore_chk (A : Option Addr) (c : Nat) (l : List Int) (num den : Int) (w : World) (h : Lies w A (ics l)) (hn : l.length ≤ 9223372036854775807) (r : Int) (hr : Hid (rchk l num den = r)) (h0 : (r != 0) = true) :
    Calls Try.prog 45 #[.slice A l.length c, .int .i64 num, .int .i64 den] w (IntsErr r [] w) := by
  go_enter Try.func45, Try.ntmps45
  go_wp2_with (go_at_call 80; refine (ratio_any A c l num den _ h hn _ hr).mono ?_; rintro e w' ⟨rfl, rfl⟩)
  go_ret2
  exact ⟨none, 0, rfl, World.ownsRow_nil _ _ _ _, Below.refl _ _⟩

set_option maxRecDepth 100000 in
set_option maxHeartbeats 1000000 in
theorem Restore_ok (A : Option Addr) (c : Nat) (l : List Int) (num den : Int) (w : World) (h : Lies w A (ics l)) (hA : A = none → c = 0 ∧ l = []) (hr : Hid (rchk l num den = 0)) (hl : l.length ≤ 200000) (hv : Hid (vls l = true))
    (h0 : 0 ≤ num) (h1 : num ≤ den) (h2 : 1 ≤ den) (h3 : den ≤ 1024) (err : Int) (out : List Int) (hout : Hid (if vls (rst l num den) = true then err = 0 ∧ out = rst l num den else err = 2 ∧ out = [])) :
    Calls Try.prog 45 #[.slice A l.length c, .int .i64 num, .int .i64 den] w (IntsErr err out w) := by
  go_enter Try.func45, Try.ntmps45
  go_wp2_with fail
  refine (ratio_any A c l num den _ h (by omega) _ hr).mono ?_
  rintro e w' ⟨rfl, rfl⟩
  go_wp2_with fail
  refine (CloneI_any A c l _ h hA (by omega)).mono ?_
  rintro e w1 ⟨A1, c1, rfl, ho1, hb1⟩
  have HA := Lib.hid hA
  clear hA
  go_wp2_with fail
  go_loopw [10] (fun i wr => ∃ k : Nat, 1 ≤ k ∧ (k ≤ l.length ∨ k = 1) ∧ i = .int .i64 k ∧ wr.ownsRow w.heap.size 3 1 (.slice A1 l.length c1) l.length (ics (rstTo l num den k)) ∧ Below w.heap.size w wr ∧ Hid (∀ j, j < k → j < l.length → inR (-2147483647) 2147483647 (rstAt l num den j) = true)) (fun i _ => l.length - (intOf i).toNat)
  case atStart =>
    refine ⟨1, by omega, .inr rfl, rfl, by rw [rstTo_one]; exact ho1, hb1, Lib.hid fun j hj hjl => ?_⟩
    have : j = 0 := by omega
    subst this
    have := allR_get hv.out hjl
    rw [inR_true]
    simpa [rstAt, List.getElem?_eq_getElem hjl] using this
  case round =>
    obtain ⟨k, hk1, hk2, rfl, r1, r2, r3⟩ := hrel
    by_cases hlt : k < l.length
    · obtain ⟨g, cap, hform, hg1, hg2⟩ := r1.form (by omega)
      obtain ⟨rfl, rfl⟩ : A1 = some ⟨g, 0, none⟩ ∧ c1 = cap := by injection hform with e1 _ e3; exact ⟨e1, e3⟩
      have q1 : wr.cell? ⟨g, k, none⟩ = some (.int .i64 (l[k]?.getD 0)) := by
        rw [r1.cellAt k (by omega)]; simp only [List.getElem?_map, rstTo_get l num den k hlt]; rfl
      have q3 : wr.cell? ⟨g, k - 1, none⟩ = some (.int .i64 (rstAt l num den (k - 1))) := by
        rw [r1.cellAt (k - 1) (by omega)]; simp only [List.getElem?_map, rstTo_get' l num den k (k - 1) (by omega) (by omega)]; rfl
      have q2 : wr.frozen? ⟨g, k, none⟩ = false := r1.frozenAt k
      have b1 := allR_get hv.out hlt
      have b2 := inR_true.1 (r3.out (k - 1) (by omega) (by omega))
      have e1 : l[k]?.getD 0 = l[k] := by simp [List.getElem?_eq_getElem hlt]
      rw [← e1] at b1
      clear e1
      have e3 : rstAt l num den k = l[k]?.getD 0 + rnd (num * rstAt l num den (k - 1)) den := by
        obtain ⟨j, rfl⟩ : ∃ j, k = j + 1 := ⟨k - 1, by omega⟩
        rfl
      generalize hx1 : l[k]?.getD 0 = x1 at *
      generalize hx2 : rstAt l num den (k - 1) = x2 at *
      have m1 := mul_bd2 (A := 1024) (X := 2147483647) h0 (by omega) (by omega) b2.2 (by omega)
      have p1 : IntKind.i64.wrap (num * x2) = num * x2 := IntWalk.i64_in _ (by omega)
      have p0 : IntKind.i64.wrap ((k : Int) - 1) = (k : Int) - 1 := IntWalk.i64_in _ (by omega)
      have hrb := rnd_bd (a := num * x2) (b := den) h2
      have hyb : -(1024 * 2147483647) ≤ rnd (num * x2) den ∧ rnd (num * x2) den ≤ 1024 * 2147483647 := by
        by_cases hs : 0 ≤ num * x2
        · have := hrb.1 hs; omega
        · have := hrb.2 (by omega); omega
      have p2 : IntKind.i64.wrap (x1 + rnd (num * x2) den) = x1 + rnd (num * x2) den := IntWalk.i64_in _ (by omega)
      have i0 : (0 : Int) ≤ (k : Int) - 1 := by omega
      have i3 : (1 : Int) ≤ (k : Int) := by omega
      have i1 : (k : Int) - 1 < (l.length : Int) := by omega
      have i2 : ((k : Int) - 1).toNat = k - 1 := by omega
      have H1 := Lib.hid hx1
      have H2 := Lib.hid hx2
      have E3 := Lib.hid e3
      clear hx1 hx2 hrb e3
      go_wp2_with fail
      go_still_tail 15, (by kernel_rfl)
      still_call (still_of (rounded_any _ _ _ h2 (by omega) (by omega) (by omega)))
      repeat still_step
      refine wpStill_nil ?_
      have hst := r1.stored k (.int .i64 (x1 + rnd (num * x2) den))
      have hset : (ics (rstTo l num den k)).set k (.int .i64 (x1 + rnd (num * x2) den)) = ics (rstTo l num den (k + 1)) := by
        rw [rstTo_succ, ics, ics, List.map_set, E3.out]
      rw [hset] at hst
      have hbe := (r2.setCell (p := ⟨g, k, none⟩) (by exact hg1) (.int .i64 (x1 + rnd (num * x2) den)))
      rcases Bool.eq_false_or_eq_true (inR (-2147483647) 2147483647 (x1 + rnd (num * x2) den)) with hin | hin
      · have hin2 := inR_true.1 hin
        have g1 : decide (x1 + rnd (num * x2) den < -2147483647) = false := by simp; omega
        have g2 : decide (2147483647 < x1 + rnd (num * x2) den) = false := by simp; omega
        clear hin2
        go_wp2_with fail
        exact ⟨⟨k + 1, by omega, .inl (by omega), by go_num, hst.1.drew, hbe.drew, Lib.hid fun j hj hjl => by
          by_cases hjk : j = k
          · subst hjk; rw [E3.out]; exact hin
          · exact r3.out j (by omega) hjl⟩, by simp [intOf]; omega⟩
      · have hin2 := inR_false.1 hin
        have hv2 : ¬ vls (rst l num den) = true := fun hh => by
          have := rst_vls.1 hh k hlt
          rw [E3.out, hin] at this
          exact absurd this (by simp)
        have h6 := hout.out
        rw [if_neg hv2] at h6
        obtain ⟨rfl, rfl⟩ := h6
        clear hv2
        by_cases hs : x1 + rnd (num * x2) den < -2147483647
        · have g1 : decide (x1 + rnd (num * x2) den < -2147483647) = true := by simp; omega
          clear hin2
          go_wp2_with fail
          go_ret2
          exact ⟨none, 0, rfl, World.ownsRow_nil _ _ _ _, hbe.drew⟩
        · have g1 : decide (x1 + rnd (num * x2) den < -2147483647) = false := by simp; omega
          have g2 : decide (2147483647 < x1 + rnd (num * x2) den) = true := by simp; omega
          clear hin2
          go_wp2_with fail
          go_ret2
          exact ⟨none, 0, rfl, World.ownsRow_nil _ _ _ _, hbe.drew⟩
    · rw [rstTo_all l num den k (by omega)] at r1
      have hv2 : vls (rst l num den) = true := rst_vls.2 fun j hj => r3.out j (by omega) hj
      have h6 := hout.out
      rw [if_pos hv2] at h6
      obtain ⟨rfl, rfl⟩ := h6
      have HEL := Lib.hid (rst_length l num den)
      clear hv2
      go_wp2_with fail
      go_ret2
      exact ⟨A1, c1, by rw [HEL.out]; rfl, by rw [HEL.out]; exact r1, r2⟩
end Go.Proofs.Ytnhkngmdjomfjaa
