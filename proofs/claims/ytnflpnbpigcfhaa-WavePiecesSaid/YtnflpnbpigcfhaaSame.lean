/- Same: equality of two lists -/
import Derived.Test.YtnflpnbpigcfhaaRec
namespace Go.Proofs.Ytnflpnbpigcfhaa
open Go.RowKit Ear

theorem same_take_succ {a b : List Int} {k : Nat} (hk : k < a.length) (hk' : k < b.length) (h : a.take k = b.take k) (hx : a[k] = b[k]) : a.take (k + 1) = b.take (k + 1) := by
  rw [List.take_succ_eq_append_getElem hk, List.take_succ_eq_append_getElem hk', h, hx]

theorem drewN_ex (w : World) (a b : Nat) : ∃ n, (w.drewN a).drewN b = w.drewN n := ⟨a + b, World.drewN_drewN ..⟩

/-- the post of a function that only reads (it may draw) -/
def RetBool (b : Bool) (w : World) (e : Ending) (w' : World) : Prop := e = .returned (.bool b) ∧ ∃ n, w' = w.drewN n

set_option maxHeartbeats 400000 in
theorem Same_any (A B : Option Addr) (c d : Nat) (a b : List Int) (w : World) (ha : Lies w A (ics a)) (hb : Lies w B (ics b)) (hna : a.length ≤ 9223372036854775807) (hnb : b.length ≤ 9223372036854775807) (r : Bool) (hr : Hid (decide (a = b) = r)) :
    Calls Try.prog 11 #[.slice A a.length c, .slice B b.length d] w (RetBool r w) := by
  by_cases hl : a.length = b.length
  · have H1 : ((a.length : Int) != (b.length : Int)) = false := by simp [hl]
    have HL := Lib.hid hl
    clear hl
    go_enter Try.func11, Try.ntmps11
    go_wp2
    go_loopw [5] (fun i wr => ∃ k : Nat, k ≤ a.length ∧ i = .int .i64 k ∧ Hid (a.take k = b.take k) ∧ ∃ n, wr = w.drewN n) (fun i _ => a.length - (intOf i).toNat)
    case atStart => exact ⟨0, Nat.zero_le _, rfl, rfl, 0, rfl⟩
    case round =>
      obtain ⟨k, hk, rfl, hp, n, rfl⟩ := hrel
      by_cases hlt : k < a.length
      · have hlt' : k < b.length := by have := HL.out; omega
        obtain ⟨b1, o1, rfl, hba, hca⟩ := ha.at_ hlt
        obtain ⟨b2, o2, rfl, hbb, hcb⟩ := hb.at_ hlt'
        go_wp2
        go_quiet (fail)
        by_cases hx : a[k] = b[k]
        · have H2 : (a[k] != b[k]) = false := by simp [hx]
          have HX := Lib.hid hx
          clear hx
          go_wp2
          go_roundw
          case rel => exact ⟨k + 1, by omega, by go_num, same_take_succ hlt hlt' hp.out HX.out, _, rfl⟩
          case measure => simp [intOf]; omega
        · have H2 : (a[k] != b[k]) = true := by simp [hx]
          go_wp2
          go_ret
          refine ⟨ret_bool ?_, drewN_ex _ _ _⟩
          rw [← hr.out]
          have : ¬ a = b := fun h => hx (by subst h; rfl)
          simp [this]
      · go_wp2
        go_ret
        refine ⟨ret_bool ?_, _, rfl⟩
        have := hp.out
        rw [List.take_of_length_le (by omega), List.take_of_length_le (by have := HL.out; omega)] at this
        rw [← hr.out]
        simp [this]
  · have H1 : ((a.length : Int) != (b.length : Int)) = true := by simp; omega
    go_enter Try.func11, Try.ntmps11
    go_wp2
    go_ret
    refine ⟨ret_bool ?_, 0, rfl⟩
    rw [← hr.out]
    have : ¬ a = b := fun h => hl (by rw [h])
    simp [this]
theorem stood_seg : Try.prog.stoodInHeld 51 = false := by kernel_rfl
theorem neq_seg (x0 x1 y0 y1 : Int) (w : World) : (binOp .neq 51 (.agg #[.int .i64 x0, .int .i64 x1]) (.agg #[.int .i64 y0, .int .i64 y1])).run Try.prog w = .ok (.bool (!(x0 == y0 && x1 == y1))) w := by
  have hf : Try.prog.fieldsOf 51 = #[{ name := "From", type := 3, offset := 0, embedded := false, tag := "", pkgPath := "", byteOffset := 0 }, { name := "To", type := 3, offset := 1, embedded := false, tag := "", pkgPath := "", byteOffset := 8 }] := by
    unfold Program.fieldsOf; rw [Try.underlying51]
  rw [run_neq_struct, run_equalIn_agg w _ _ _ _ (by rw [hf, Try.underlying51]) stood_seg, hf]
  cases h0 : x0 == y0 <;> cases h1 : x1 == y1 <;> simp [Op.eqFields, part, isAgg, run_underlying Try.underlying3, run_equalIn_int w _ _ _ _ _ _ Try.underlying3, h0, h1]

/-- segments as cells -/
def scs : List (Int × Int) → List Value
  | [] => []
  | p :: l => .int .i64 p.1 :: .int .i64 p.2 :: scs l
theorem scs_length (l : List (Int × Int)) : (scs l).length = l.length * 2 := by
  induction l with
  | nil => rfl
  | cons p l ih => simp [scs, ih]; omega
theorem scs_append (a b : List (Int × Int)) : scs (a ++ b) = scs a ++ scs b := by
  induction a with
  | nil => rfl
  | cons p l ih => simp [scs, ih]
theorem scs_get (l : List (Int × Int)) (k : Nat) (h : k < l.length) : (scs l)[k * 2]? = some (.int .i64 l[k].1) ∧ (scs l)[k * 2 + 1]? = some (.int .i64 l[k].2) := by
  induction l generalizing k with
  | nil => simp at h
  | cons p l ih =>
    cases k with
    | zero => simp [scs]
    | succ k =>
      have := ih k (by simpa using h)
      rw [show (k + 1) * 2 = k * 2 + 2 by omega, show k * 2 + 2 + 1 = (k * 2 + 1) + 2 by omega]
      simpa [scs] using this
theorem Lies.seg {w : World} {A : Option Addr} {l : List (Int × Int)} (h : Lies w A (scs l)) {k : Nat} (hk : k < l.length) :
    ∃ b off, A = some ⟨b, off, none⟩ ∧ b < w.heap.size ∧ w.cell? ⟨b, off + k * 2, none⟩ = some (.int .i64 l[k].1) ∧ w.cell? ⟨b, off + k * 2 + 1, none⟩ = some (.int .i64 l[k].2) := by
  obtain ⟨b, off, e, hb, hc⟩ := h (by rw [scs_length]; omega)
  exact ⟨b, off, e, hb, hc _ _ (scs_get l k hk).1, hc _ _ (scs_get l k hk).2⟩
theorem sameS_take_succ {a b : List (Int × Int)} {k : Nat} (hk : k < a.length) (hk' : k < b.length) (h : a.take k = b.take k) (hx : a[k] = b[k]) : a.take (k + 1) = b.take (k + 1) := by
  rw [List.take_succ_eq_append_getElem hk, List.take_succ_eq_append_getElem hk', h, hx]

set_option maxHeartbeats 400000 in
theorem SameSegments_any (A B : Option Addr) (c d : Nat) (a b : List (Int × Int)) (w : World) (ha : Lies w A (scs a)) (hb : Lies w B (scs b)) (hna : a.length ≤ 9223372036854775807) (hnb : b.length ≤ 9223372036854775807) (r : Bool) (hr : Hid (decide (a = b) = r)) :
    Calls Try.prog 18 #[.slice A a.length c, .slice B b.length d] w (RetBool r w) := by
  by_cases hl : a.length = b.length
  · have H1 : ((a.length : Int) != (b.length : Int)) = false := by simp [hl]
    have HL := Lib.hid hl
    clear hl
    go_enter Try.func18, Try.ntmps18
    go_wp2
    go_loopw [5] (fun i wr => ∃ k : Nat, k ≤ a.length ∧ i = .int .i64 k ∧ Hid (a.take k = b.take k) ∧ ∃ n, wr = w.drewN n) (fun i _ => a.length - (intOf i).toNat)
    case atStart => exact ⟨0, Nat.zero_le _, rfl, rfl, 0, rfl⟩
    case round =>
      obtain ⟨k, hk, rfl, hp, n, rfl⟩ := hrel
      by_cases hlt : k < a.length
      · have hlt' : k < b.length := by have := HL.out; omega
        obtain ⟨b1, o1, rfl, hba, hca, hca'⟩ := ha.seg hlt
        obtain ⟨b2, o2, rfl, hbb, hcb, hcb'⟩ := hb.seg hlt'
        have hneq := neq_seg a[k].1 a[k].2 b[k].1 b[k].2
        go_wp2
        go_quiet (fail)
        clear hneq
        by_cases hx : a[k] = b[k]
        · have H2 : (!a[k].1 == b[k].1 || !a[k].2 == b[k].2) = false := by simp [hx]
          have HX := Lib.hid hx
          clear hx
          rw [H2]
          go_wp2
          go_roundw
          case rel => exact ⟨k + 1, by omega, by go_num, sameS_take_succ hlt hlt' hp.out HX.out, _, rfl⟩
          case measure => simp [intOf]; omega
        · have H2 : (!a[k].1 == b[k].1 || !a[k].2 == b[k].2) = true := by
            cases h1 : a[k].1 == b[k].1 <;> cases h2 : a[k].2 == b[k].2 <;> simp
            exact hx (Prod.ext (by simpa using h1) (by simpa using h2))
          rw [H2]
          have HX := Lib.hid hx
          clear hx
          go_wp2
          go_ret
          refine ⟨ret_bool ?_, drewN_ex _ _ _⟩
          rw [← hr.out]
          have : ¬ a = b := fun h => HX.out (by subst h; rfl)
          simp [this]
      · go_wp2
        go_ret
        refine ⟨ret_bool ?_, _, rfl⟩
        have := hp.out
        rw [List.take_of_length_le (by omega), List.take_of_length_le (by have := HL.out; omega)] at this
        rw [← hr.out]
        simp [this]
  · have H1 : ((a.length : Int) != (b.length : Int)) = true := by simp; omega
    go_enter Try.func18, Try.ntmps18
    go_wp2
    go_ret
    refine ⟨ret_bool ?_, 0, rfl⟩
    rw [← hr.out]
    have : ¬ a = b := fun h => hl (by rw [h])
    simp [this]
end Go.Proofs.Ytnflpnbpigcfhaa
