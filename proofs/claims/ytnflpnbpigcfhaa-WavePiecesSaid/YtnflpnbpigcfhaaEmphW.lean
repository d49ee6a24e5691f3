/- wave.Emphasize -/
import Derived.Test.YtnflpnbpigcfhaaEmph
import Derived.Test.YtnflpnbpigcfhaaPEmph
namespace Go.Proofs.Ytnflpnbpigcfhaa
open Go.RowKit Ear

theorem still_of {P : Program} {f : FuncId} {args : Array Value} {w : World} {v : Value} (h : Calls P f args w fun e w' => e = .returned v ∧ w = w') : Calls P f args w fun e w' => e = .returned v ∧ w' = w :=
  h.mono fun _ _ ⟨he, hw⟩ => ⟨he, hw.symm⟩

set_option maxHeartbeats 400000 in
theorem Emphasize_chk (A : Option Addr) (c : Nat) (l : List Int) (num den : Int) (w : World) (h : Lies w A (ics l)) (hn : l.length ≤ 9223372036854775807) (r : Int) (hr : Hid (rchk l num den = r)) (h0 : (r != 0) = true) :
    Calls Try.prog 14 #[.slice A l.length c, .int .i64 num, .int .i64 den] w (IntsErr r [] w) := by
  go_enter Try.func14, Try.ntmps14
  go_wp2_with (go_at_call 24; refine (ratio_any A c l num den _ h hn _ hr).mono ?_; rintro e w' ⟨rfl, rfl⟩)
  go_ret2
  exact ⟨none, 0, rfl, World.ownsRow_nil _ _ _ _, Below.refl _ _⟩

set_option maxRecDepth 100000 in
set_option maxHeartbeats 1000000 in
theorem Emphasize_ok (A : Option Addr) (c : Nat) (l : List Int) (num den : Int) (w : World) (h : Lies w A (ics l)) (hA : A = none → c = 0 ∧ l = []) (hr : Hid (rchk l num den = 0)) (hl : l.length ≤ 200000) (hv : Hid (vls l = true))
    (h0 : 0 ≤ num) (h1 : num ≤ den) (h2 : 1 ≤ den) (h3 : den ≤ 1024) (r err : Int) (out : List Int) (hr2 : Hid (vchk (emp l num den) = r)) (hout : Hid (if r = 0 then err = 0 ∧ out = emp l num den else err = 2 ∧ out = [])) :
    Calls Try.prog 14 #[.slice A l.length c, .int .i64 num, .int .i64 den] w (IntsErr err out w) := by
  go_enter Try.func14, Try.ntmps14
  go_wp2_with fail
  refine (ratio_any A c l num den _ h (by omega) _ hr).mono ?_
  rintro e w' ⟨rfl, rfl⟩
  go_wp2_with fail
  refine (CloneI_any A c l _ h hA (by omega)).mono ?_
  rintro e w1 ⟨A1, c1, rfl, ho1, hb1⟩
  have HA := Lib.hid hA
  clear hA
  go_wp2_with fail
  go_loopw [10] (fun i wr => ∃ k : Nat, 1 ≤ k ∧ (k ≤ l.length ∨ k = 1) ∧ i = .int .i64 k ∧ wr.ownsRow w.heap.size 3 1 (.slice A1 l.length c1) l.length (ics (empTo l num den k)) ∧ Below w.heap.size w wr) (fun i _ => l.length - (intOf i).toNat)
  case atStart => exact ⟨1, by omega, .inr rfl, rfl, by rw [empTo_one]; exact ho1, hb1⟩
  case round =>
    obtain ⟨k, hk1, hk2, rfl, r1, r2⟩ := hrel
    by_cases hlt : k < l.length
    · obtain ⟨g, cap, hform, hg1, hg2⟩ := r1.form (by omega)
      obtain ⟨rfl, rfl⟩ : A1 = some ⟨g, 0, none⟩ ∧ c1 = cap := by injection hform with e1 _ e3; exact ⟨e1, e3⟩
      have q1 : wr.cell? ⟨g, k, none⟩ = some (.int .i64 (l[k]?.getD 0)) := by
        rw [r1.cellAt k (by omega)]; simp only [List.getElem?_map, empTo_get l num den k hlt]; rfl
      have q2 : wr.frozen? ⟨g, k, none⟩ = false := r1.frozenAt k
      obtain ⟨bk, off, rfl, hb, hc⟩ := (h.below r2).at_ (k := k - 1) (by omega)
      have b1 := allR_get hv.out hlt
      have b2 := allR_get hv.out (show k - 1 < l.length by omega)
      have e1 : l[k]?.getD 0 = l[k] := by simp [List.getElem?_eq_getElem hlt]
      have e2 : l[k - 1]?.getD 0 = l[k - 1] := by simp [List.getElem?_eq_getElem (show k - 1 < l.length by omega)]
      rw [← e1] at b1
      rw [← e2] at b2
      clear e1 e2
      generalize hx1 : l[k]?.getD 0 = x1 at *
      generalize hx2 : l[k - 1]?.getD 0 = x2 at *
      have m1 := mul_bd2 (A := 1024) (X := 2147483647) h0 (by omega) (by omega) b2.2 (by omega)
      have p1 : IntKind.i64.wrap (num * x2) = num * x2 := IntWalk.i64_in _ (by omega)
      have p0 : IntKind.i64.wrap ((k : Int) - 1) = (k : Int) - 1 := IntWalk.i64_in _ (by omega)
      have hrb := rnd_bd (a := num * x2) (b := den) h2
      have hyb : -(1024 * 2147483647) ≤ rnd (num * x2) den ∧ rnd (num * x2) den ≤ 1024 * 2147483647 := by
        by_cases hs : 0 ≤ num * x2
        · have := hrb.1 hs; omega
        · have := hrb.2 (by omega); omega
      have p2 : IntKind.i64.wrap (x1 - rnd (num * x2) den) = x1 - rnd (num * x2) den := IntWalk.i64_in _ (by omega)
      have i0 : (0 : Int) ≤ (k : Int) - 1 := by omega
      have i3 : (1 : Int) ≤ (k : Int) := by omega
      have i1 : (k : Int) - 1 < (l.length : Int) := by omega
      have i2 : ((k : Int) - 1).toNat = k - 1 := by omega
      have H1 := Lib.hid hx1
      have H2 := Lib.hid hx2
      clear hx1 hx2 hrb
      go_wp2_with fail
      go_still_tail 15, (by kernel_rfl)
      still_call (still_of (rounded_any _ _ _ h2 (by omega) (by omega) (by omega)))
      repeat still_step
      refine wpStill_nil ?_
      go_wp2_with fail
      have hst := r1.stored k (.int .i64 (x1 - rnd (num * x2) den))
      have hset : (ics (empTo l num den k)).set k (.int .i64 (x1 - rnd (num * x2) den)) = ics (empTo l num den (k + 1)) := by
        rw [empTo_succ, ics, ics, List.map_set, ← H1.out, ← H2.out]
        simp only [empAt, if_neg (show ¬ k = 0 by omega)]
      rw [hset] at hst
      exact ⟨⟨k + 1, by omega, .inl (by omega), by go_num, hst.1.drew, (r2.setCell (by exact hg1) _).drew⟩, by simp [intOf]; omega⟩
    · rw [empTo_all l num den k (by omega)] at r1
      have hel : (emp l num den).length = l.length := by simp [emp]
      have hval := values_any A1 c1 (emp l num den) wr (Lies.of_own r1) (by omega) r hr2
      rw [hel] at hval
      have HEL := Lib.hid hel
      have HV := Lib.hid hval
      clear hel hval
      go_wp2_with fail
      refine HV.out.mono ?_
      rintro e w' ⟨rfl, rfl⟩
      by_cases hr0 : r = 0
      · have h5 : (r != 0) = false := by simp [hr0]
        have h6 := hout.out
        rw [if_pos hr0] at h6
        obtain ⟨rfl, rfl⟩ := h6
        clear hr0
        go_wp2_with fail
        go_ret2
        exact ⟨A1, c1, by rw [HEL.out]; rfl, by rw [HEL.out]; exact r1, r2⟩
      · have h5 : (r != 0) = true := by simp [hr0]
        have h6 := hout.out
        rw [if_neg hr0] at h6
        obtain ⟨rfl, rfl⟩ := h6
        clear hr0
        go_wp2_with fail
        go_ret2
        exact ⟨none, 0, rfl, World.ownsRow_nil _ _ _ _, r2⟩
end Go.Proofs.Ytnflpnbpigcfhaa
