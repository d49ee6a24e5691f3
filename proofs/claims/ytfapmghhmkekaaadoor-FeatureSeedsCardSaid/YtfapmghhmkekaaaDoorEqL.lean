/- slices.Equal, slices.EqualFunc of lists of lists -/
import Derived.Test.YtfapmghhmkekaaaDoorMc
import Derived.Test.YtfapmghhmkekaaaDoorMb
namespace Go.Proofs.YtfapmghhmkekaaaDoor
open Go.RowKit Ear

set_option maxHeartbeats 400000 in
theorem EqualI_any (A B : Option Addr) (c d : Nat) (a b : List Int) (w : World) (ha : Lies w A (ics a)) (hb : Lies w B (ics b)) (hna : a.length ≤ 9223372036854775807) (r : Bool) (hr : Hid (decide (a = b) = r)) :
    Calls Tryd.prog 100 #[.slice A a.length c, .slice B b.length d] w (RetBool r w) := by
  by_cases hl : a.length = b.length
  · have H1 : ((a.length : Int) != (b.length : Int)) = false := by simp [hl]
    have HL := Lib.hid hl
    clear hl
    go_enter Tryd.func100, Tryd.ntmps100
    go_wp2
    go_loopw [5, 13] (fun _ i wr => ∃ k : Nat, k ≤ a.length ∧ i = .int .i64 k ∧ Hid (a.take k = b.take k) ∧ ∃ n, wr = w.drewN n) (fun _ i _ => a.length - (intOf i).toNat)
    case atStart => exact ⟨0, Nat.zero_le _, rfl, rfl, 0, rfl⟩
    case round =>
      obtain ⟨k, hk, rfl, hp, n, rfl⟩ := hrel
      by_cases hlt : k < a.length
      · have hlt' : k < b.length := by have := HL.out; omega
        obtain ⟨b1, o1, rfl, hba, hca⟩ := ha.at_ hlt
        obtain ⟨b2, o2, rfl, hbb, hcb⟩ := hb.at_ hlt'
        have hyes : Hid (a[k]?.getD 0 = b[k]?.getD 0 → a.take (k + 1) = b.take (k + 1)) := Lib.hid fun e => same_take_succ hlt hlt' hp.out (by simpa [List.getElem?_eq_getElem hlt, List.getElem?_eq_getElem hlt'] using e)
        have hno : Hid (¬ a[k]?.getD 0 = b[k]?.getD 0 → r = false) := Lib.hid fun e => by
          rw [← hr.out, decide_eq_false_iff_not]
          intro h
          exact e (by rw [h])
        generalize a[k]?.getD 0 = x at *
        generalize b[k]?.getD 0 = y at *
        by_cases hx : x = y
        · have H2 : (x != y) = false := by simp [hx]
          have HY := Lib.hid (hyes.out hx)
          clear hx hyes hno
          go_wp2
          go_quiet (fail)
          go_wp2
          exact ⟨⟨k + 1, by omega, by go_num, HY, _, rfl⟩, by simp [intOf]; omega⟩
        · have H2 : (x != y) = true := by simp [hx]
          have hz := hno.out hx
          subst hz
          clear hx hyes hno hr
          go_wp2
          go_quiet (fail)
          go_wp2
          go_ret
          exact ⟨rfl, drewN_ex _ _ _⟩
      · have HR : r = true := by
          have := hp.out
          rw [List.take_of_length_le (by omega), List.take_of_length_le (by have := HL.out; omega)] at this
          rw [← hr.out]; simp [this]
        subst HR
        clear hr
        go_wp2
        go_ret
        exact ⟨rfl, _, rfl⟩
  · have H1 : ((a.length : Int) != (b.length : Int)) = true := by simp; omega
    have HR : r = false := by
      rw [← hr.out]
      have : ¬ a = b := fun h => hl (by rw [h])
      simp [this]
    subst HR
    clear hr hl
    go_enter Tryd.func100, Tryd.ntmps100
    go_wp2
    go_ret
    exact ⟨rfl, 0, rfl⟩

set_option maxRecDepth 100000 in
set_option maxHeartbeats 1000000 in
theorem EqualFunc_any (A B : Option Addr) (c d : Nat) (L M : List Inn) (w : World) (hA : LL w A L) (hB : LL w B M) (hna : L.length ≤ 9223372036854775807) (r : Bool) (hr : Hid (decide (vsOf L = vsOf M) = r)) :
    Calls Tryd.prog 99 #[.slice A L.length c, .slice B M.length d, .func (.func 100) #[] #[]] w (RetBool r w) := by
  have heg : ∀ (args : Array Value) (w : World), (callFunc 100 args).run Tryd.prog w = .ok (.enter 100 args) w := enters_of Tryd.func100 (by kernel_rfl) rfl
  have HVL : Hid ((vsOf L).length = L.length) := Lib.hid (by simp)
  have HVM : Hid ((vsOf M).length = M.length) := Lib.hid (by simp)
  by_cases hl : L.length = M.length
  · have H1 : ((L.length : Int) != (M.length : Int)) = false := by simp [hl]
    have HL := Lib.hid hl
    clear hl
    go_enter Tryd.func99, Tryd.ntmps99
    go_wp2_with fail
    go_loopw [7, 8, 9, 17] (fun _ _ _ i wr => ∃ k : Nat, k ≤ L.length ∧ i = .int .i64 k ∧ Hid ((vsOf L).take k = (vsOf M).take k) ∧ ∃ n, wr = w.drewN n) (fun _ _ _ i _ => L.length - (intOf i).toNat)
    case atStart => exact ⟨0, Nat.zero_le _, rfl, rfl, 0, rfl⟩
    case round =>
      obtain ⟨k, hk, rfl, hp, n, hwd⟩ := hrel
      have LA : LL wr A L := by rw [hwd]; exact hA.below (below_drewN' _ _)
      have LB : LL wr B M := by rw [hwd]; exact hB.below (below_drewN' _ _)
      have WD := Lib.hid hwd
      clear hwd
      by_cases hlt : k < L.length
      · have hlt' : k < M.length := by have := HL.out; omega
        have q1 : k < (vsOf L).length := by rw [HVL.out]; exact hlt
        have q2 : k < (vsOf M).length := by rw [HVM.out]; exact hlt'
        obtain ⟨b1, o1, rfl, hb1, hc1⟩ := LA.lies.lat hlt
        obtain ⟨b2, o2, rfl, hb2, hc2⟩ := LB.lies.lat hlt'
        have hx1 := LA.inn _ (List.getElem_mem hlt)
        have hx2 := LB.inn _ (List.getElem_mem hlt')
        have hyes : Hid (L[k].2.2 = M[k].2.2 → (vsOf L).take (k + 1) = (vsOf M).take (k + 1)) := Lib.hid fun e => vs_take_succ q1 q2 hp.out (by simpa using e)
        have hno : Hid (¬ L[k].2.2 = M[k].2.2 → r = false) := Lib.hid fun e => by
          rw [← hr.out, decide_eq_false_iff_not]
          intro h
          apply e
          have h3 : (vsOf L)[k]? = (vsOf M)[k]? := by rw [h]
          rw [List.getElem?_eq_getElem q1, List.getElem?_eq_getElem q2] at h3
          injection h3 with h3
          simpa using h3
        clear q1 q2 LA LB
        generalize L[k] = X at *
        generalize M[k] = Y at *
        obtain ⟨XA, Xc, xl⟩ := X
        obtain ⟨YA, Yc, yl⟩ := Y
        simp only at *
        have HX1 := Lib.hid hx1
        have HX2 := Lib.hid hx2
        have hxl := hx1.2.2.1
        simp only at hxl
        clear hx1 hx2
        cases hb : decide (xl = yl) with
        | true =>
          have HB := Lib.hid hb
          have HY := Lib.hid (hyes.out (of_decide_eq_true hb))
          clear hb hyes hno
          go_wp2_with fail
          refine (EqualI_any XA YA Xc Yc xl yl wr HX1.out.1 HX2.out.1 (by omega) true HB).mono ?_
          rintro e w' ⟨rfl, n2, rfl⟩
          go_wp2_with fail
          exact ⟨⟨k + 1, by omega, by go_num, HY, by rw [WD.out]; exact drewN_ex _ _ _⟩, by simp [intOf]; omega⟩
        | false =>
          have HB := Lib.hid hb
          have HY := hno.out (of_decide_eq_false hb)
          subst HY
          clear hb hyes hno hr
          go_wp2_with fail
          refine (EqualI_any XA YA Xc Yc xl yl wr HX1.out.1 HX2.out.1 (by omega) false HB).mono ?_
          rintro e w' ⟨rfl, n2, rfl⟩
          go_wp2_with fail
          go_ret
          exact ⟨rfl, by rw [WD.out]; exact drewN_ex _ _ _⟩
      · have HR : r = true := by
          have := hp.out
          rw [List.take_of_length_le (by rw [HVL.out]; omega), List.take_of_length_le (by rw [HVM.out]; have := HL.out; omega)] at this
          rw [← hr.out]; simp [this]
        subst HR
        clear hr LA LB
        go_wp2_with fail
        go_ret
        exact ⟨rfl, n, WD.out⟩
  · have H1 : ((L.length : Int) != (M.length : Int)) = true := by simp; omega
    have HR : r = false := by
      rw [← hr.out]
      have : ¬ vsOf L = vsOf M := fun h => hl (by have := congrArg List.length h; simpa using this)
      simp [this]
    subst HR
    clear hr hl
    go_enter Tryd.func99, Tryd.ntmps99
    go_wp2_with fail
    go_ret
    exact ⟨rfl, 0, rfl⟩
end Go.Proofs.YtfapmghhmkekaaaDoor
