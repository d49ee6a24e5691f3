/- Bands; the reference's Edges, Energy, Bands -/
import Derived.Test.YtnflpnbpigcfhabDoorQBnd
import Derived.Test.YtnflpnbpigcfhabDoorMc
namespace Go.Proofs.YtnflpnbpigcfhabDoor
open Go.RowKit Ear

set_option maxRecDepth 100000 in
set_option maxHeartbeats 2000000 in
theorem rEdges_all (B : Option Addr) (d n : Nat) (e : List Int) (w : World) (hB : Lies w B (ics e)) (hl : e.length ≤ 9223372036854775807) (r : Bool) (hr : Hid (edgOk e n = r)) :
    Calls Tryd.prog 12 #[.slice B e.length d, .int .i64 n] w (RetBool r w) := by
  by_cases h2 : e.length < 2
  · have hz : r = false := by rw [← hr.out, edgOk, decide_eq_false (by omega), Bool.and_false]
    subst hz
    clear hr
    go_enter Tryd.func12, Tryd.ntmps12
    go_wp2_with fail
    go_ret
    exact ⟨rfl, 0, rfl⟩
  · go_enter Tryd.func12, Tryd.ntmps12
    go_wp2_with fail
    go_loopw [5] (fun i wr => ∃ k : Nat, k ≤ e.length ∧ i = .int .i64 k ∧ Hid ((List.range k).all (edgAt e n) = true) ∧ ∃ m, wr = w.drewN m) (fun i _ => e.length - (intOf i).toNat)
    case atStart => exact ⟨0, by omega, rfl, Lib.hid rfl, 0, rfl⟩
    case round =>
      obtain ⟨k, hk, rfl, hp, m0, hwd⟩ := hrel
      have HB : Lies wr B (ics e) := by rw [hwd]; exact hB
      have WD := Lib.hid hwd
      clear hwd
      by_cases hlt : k < e.length
      · obtain ⟨b1, o1, rfl, hb1, hc1⟩ := HB.at_ hlt
        have hno : Hid (edgAt e n k = false → r = false) := Lib.hid (fun h => by
          rw [← hr.out, edgOk, edg_false_at hlt h, Bool.false_and])
        have hyes : Hid (edgAt e n k = true → Hid ((List.range (k + 1)).all (edgAt e n) = true)) := Lib.hid (fun h => Lib.hid (edg_upto_succ hp.out h))
        by_cases h0 : k = 0
        · subst h0
          rw [Nat.add_zero] at hc1
          have hat : Hid (edgAt e n 0 = true ↔ ((0 : Int) ≤ e[0]?.getD 0 ∧ e[0]?.getD 0 ≤ (n : Int))) := Lib.hid (by rw [edgAt_iff]; simp)
          generalize e[0]?.getD 0 = x at *
          by_cases h1 : x < 0
          · have hz := hno.out (by rw [Bool.eq_false_iff]; intro h; have := hat.out.1 h; omega)
            subst hz
            have d1 : decide (x < 0) = true := by simp [h1]
            clear hr hno hyes hp HB
            go_wp2_with fail
            go_quiet (fail)
            go_wp2_with fail
            go_ret
            exact ⟨rfl, by rw [WD.out]; exact drewN_ex _ _ _⟩
          · have d1 : decide (x < 0) = false := by simp; omega
            by_cases h2 : (n : Int) < x
            · have hz := hno.out (by rw [Bool.eq_false_iff]; intro h; have := hat.out.1 h; omega)
              subst hz
              have d2 : decide ((n : Int) < x) = true := by simp [h2]
              clear hr hno hyes hp HB
              go_wp2_with fail
              go_quiet (fail)
              go_wp2_with fail
              go_ret
              exact ⟨rfl, by rw [WD.out]; exact drewN_ex _ _ _⟩
            · have HY := hyes.out (hat.out.2 (by omega))
              have d2 : decide ((n : Int) < x) = false := by simp; omega
              clear hno hyes hp HB
              go_wp2_with fail
              go_quiet (fail)
              go_wp2_with fail
              exact ⟨⟨1, by omega, by go_num, HY, by rw [WD.out]; exact drewN_ex _ _ _⟩, by simp [intOf]; omega⟩
        · obtain ⟨m, rfl⟩ : ∃ m, k = m + 1 := ⟨k - 1, by omega⟩
          have hlm : m < e.length := by omega
          obtain ⟨b2, o2, eA, hb2, hc2⟩ := HB.at_ hlm
          cases eA
          have hat : Hid (edgAt e n (m + 1) = true ↔ ((0 : Int) ≤ e[m + 1]?.getD 0 ∧ e[m + 1]?.getD 0 ≤ (n : Int) ∧ e[m]?.getD 0 < e[m + 1]?.getD 0)) := Lib.hid (by rw [edgAt_iff]; simp)
          have p1 : IntKind.i64.wrap (((m + 1 : Nat) : Int) - 1) = (m : Int) := by rw [IntWalk.i64_in _ (by omega)]; omega
          generalize hq : m + 1 = q at *
          have HQ := Lib.hid hq
          have hq0 : 0 < q := by omega
          have d0 : decide ((0 : Int) < (q : Int)) = true := by simp; omega
          clear hq
          generalize e[q]?.getD 0 = x at *
          generalize e[m]?.getD 0 = y at *
          by_cases h1 : x < 0
          · have hz := hno.out (by rw [Bool.eq_false_iff]; intro h; have := hat.out.1 h; omega)
            subst hz
            have d1 : decide (x < 0) = true := by simp [h1]
            clear hr hno hyes hp HB
            go_wp2_with fail
            go_quiet (fail)
            go_wp2_with fail
            go_ret
            exact ⟨rfl, by rw [WD.out]; exact drewN_ex _ _ _⟩
          · have d1 : decide (x < 0) = false := by simp; omega
            by_cases h2 : (n : Int) < x
            · have hz := hno.out (by rw [Bool.eq_false_iff]; intro h; have := hat.out.1 h; omega)
              subst hz
              have d2 : decide ((n : Int) < x) = true := by simp [h2]
              clear hr hno hyes hp HB
              go_wp2_with fail
              go_quiet (fail)
              go_wp2_with fail
              go_ret
              exact ⟨rfl, by rw [WD.out]; exact drewN_ex _ _ _⟩
            · have d2 : decide ((n : Int) < x) = false := by simp; omega
              by_cases h3 : x ≤ y
              · have hz := hno.out (by rw [Bool.eq_false_iff]; intro h; have := hat.out.1 h; omega)
                subst hz
                have d3 : decide (x ≤ y) = true := by simp [h3]
                clear hr hno hyes hp HB
                go_wp2_with fail
                go_quiet (fail)
                go_wp2_with fail
                go_ret
                exact ⟨rfl, by rw [WD.out]; exact drewN_ex _ _ _⟩
              · have HY := hyes.out (hat.out.2 (by omega))
                have d3 : decide (x ≤ y) = false := by simp; omega
                clear hno hyes hp HB
                go_wp2_with fail
                go_quiet (fail)
                go_wp2_with fail
                exact ⟨⟨q + 1, by omega, by go_num, HY, by rw [WD.out]; exact drewN_ex _ _ _⟩, by simp [intOf]; omega⟩
      · obtain rfl : k = e.length := by omega
        have hz : r = true := by rw [← hr.out, edgOk, hp.out, Bool.true_and, decide_eq_true (by omega)]
        subst hz
        clear hr HB
        go_wp2_with fail
        go_ret
        exact ⟨rfl, m0, WD.out⟩
theorem rEdges_any (B : Option Addr) (d n : Nat) (e : List Int) (w : World) (hB : Lies w B (ics e)) (hl : e.length ≤ 1000) (r : Bool) (hr : Hid (edgOk e n = r)) :
    Calls Tryd.prog 12 #[.slice B e.length d, .int .i64 n] w (RetBool r w) := rEdges_all B d n e w hB (by omega) r hr
end Go.Proofs.YtnflpnbpigcfhabDoor
