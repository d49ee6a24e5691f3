/- the predicates, slices.IndexFunc and ContainsFunc over them; samples, values, check -/
import Derived.Test.YtnflpnbpigcfhaaRefA
namespace Go.Proofs.Ytnflpnbpigcfhaa
open Go.RowKit Ear

set_option maxHeartbeats 400000 in
theorem samples1_any (x : Int) (w : World) : Calls Try.prog 41 #[.int .i64 x] w fun e w' => e = .returned (.bool (!inR (-32768) 32767 x)) ∧ w = w' := by
  by_cases h1 : x < -32768
  · go_enter Try.func41, Try.ntmps41
    go_wp2
    go_ret
    exact ⟨ret_bool (by simp [inR]; omega), rfl⟩
  · by_cases h2 : 32767 < x
    all_goals
      go_enter Try.func41, Try.ntmps41
      go_wp2
      go_ret
      exact ⟨ret_bool (by simp [inR]; omega), rfl⟩

set_option maxHeartbeats 400000 in
theorem values1_any (x : Int) (w : World) : Calls Try.prog 31 #[.int .i64 x] w fun e w' => e = .returned (.bool (!inR (-2147483647) 2147483647 x)) ∧ w = w' := by
  by_cases h1 : x < -2147483647
  · go_enter Try.func31, Try.ntmps31
    go_wp2
    go_ret
    exact ⟨ret_bool (by simp [inR]; omega), rfl⟩
  · by_cases h2 : 2147483647 < x
    all_goals
      go_enter Try.func31, Try.ntmps31
      go_wp2
      go_ret
      exact ⟨ret_bool (by simp [inR]; omega), rfl⟩

/-- a predicate on integers that only computes -/
structure Pred (g : FuncId) (p : Int → Bool) : Prop where
  enter : ∀ (args : Array Value) (w : World), (callFunc g args).run Try.prog w = .ok (.enter g args) w
  gives : ∀ (x : Int) (w : World), Calls Try.prog g #[.int .i64 x] w fun e w' => e = .returned (.bool (p x)) ∧ w = w'

theorem any_take_succ {p : Int → Bool} {l : List Int} {k : Nat} (hk : k < l.length) (h : (l.take k).any p = false) (hx : p l[k] = false) : (l.take (k + 1)).any p = false := by
  rw [List.take_succ_eq_append_getElem hk, List.any_append, h]
  simp [hx]
theorem any_true_at {p : Int → Bool} {l : List Int} {k : Nat} (hk : k < l.length) (hx : p l[k] = true) : l.any p = true := by
  rw [List.any_eq_true]
  exact ⟨l[k], List.getElem_mem hk, hx⟩
/-- the post of slices.IndexFunc: only whether there is one is said -/
def IdxPost (p : Int → Bool) (l : List Int) (w : World) (e : Ending) (w' : World) : Prop := ∃ r : Int, e = .returned (.int .i64 r) ∧ w = w' ∧ decide (0 ≤ r) = l.any p

set_option maxRecDepth 100000 in
set_option maxHeartbeats 400000 in
theorem IndexI_any (g : FuncId) (p : Int → Bool) (hp : Pred g p) (A : Option Addr) (c : Nat) (l : List Int) (w : World) (h : Lies w A (ics l)) (hn : l.length ≤ 9223372036854775807) :
    Calls Try.prog 40 #[.slice A l.length c, .func (.func g) #[] #[]] w (IdxPost p l w) := by
  have heg := hp.enter
  go_enter Try.func40, Try.ntmps40
  go_wp2
  go_loop [5, 8] (fun _ i => ∃ k : Nat, k ≤ l.length ∧ i = .int .i64 k ∧ (l.take k).any p = false) (fun _ i => l.length - (intOf i).toNat)
  case atStart => exact ⟨0, Nat.zero_le _, rfl, rfl⟩
  case round =>
    obtain ⟨k, hk, rfl, hp'⟩ := hrel
    have HP := Lib.hid hp'
    clear hp'
    by_cases hlt : k < l.length
    · obtain ⟨bk, off, rfl, hb, hc⟩ := h.at_ hlt
      go_wp2_with fail
      refine (hp.gives _ _).mono ?_
      rintro e w' ⟨rfl, rfl⟩
      cases hpx : p l[k] with
      | true =>
        have HX := Lib.hid hpx
        clear hpx
        go_wp2_with fail
        go_ret
        exact ⟨k, rfl, rfl, by rw [any_true_at hlt HX.out]; simp⟩
      | false =>
        have HX := Lib.hid hpx
        clear hpx
        go_wp2_with fail
        exact ⟨⟨k + 1, by omega, by go_num, any_take_succ hlt HP.out HX.out⟩, by simp [intOf]; omega⟩
    · go_wp2
      go_ret
      exact ⟨-1, rfl, rfl, by have hh := HP.out; rw [List.take_of_length_le (by omega)] at hh; rw [hh]; rfl⟩

set_option maxHeartbeats 400000 in
theorem ContainsI_any (g : FuncId) (p : Int → Bool) (hp : Pred g p) (A : Option Addr) (c : Nat) (l : List Int) (w : World) (h : Lies w A (ics l)) (hn : l.length ≤ 9223372036854775807) :
    Calls Try.prog 30 #[.slice A l.length c, .func (.func g) #[] #[]] w fun e w' => e = .returned (.bool (l.any p)) ∧ w = w' := by
  go_enter Try.func30, Try.ntmps30
  go_wp2_with fail
  refine (IndexI_any g p hp A c l _ h hn).mono ?_
  rintro e w' ⟨r, rfl, rfl, hr⟩
  have HR := Lib.hid hr
  clear hr
  go_wp2_with fail
  go_ret
  exact ⟨ret_bool HR.out, rfl⟩

theorem samples1_pred : Pred 41 (fun x => !inR (-32768) 32767 x) := ⟨enters_of Try.func41 (by kernel_rfl) rfl, samples1_any⟩
theorem values1_pred : Pred 31 (fun x => !inR (-2147483647) 2147483647 x) := ⟨enters_of Try.func31 (by kernel_rfl) rfl, values1_any⟩
theorem any_not_allR (lo hi : Int) (l : List Int) : l.any (fun x => !inR lo hi x) = !allR lo hi l := by
  unfold allR; rw [List.all_eq_not_any_not]; simp only [Bool.not_not]

set_option maxHeartbeats 400000 in
theorem samples_any (A : Option Addr) (c : Nat) (l : List Int) (w : World) (h : Lies w A (ics l)) (hn : l.length ≤ 9223372036854775807) (b : Bool) (hb : Hid (smp l = b)) :
    Calls Try.prog 33 #[.slice A l.length c] w fun e w' => e = .returned (.bool b) ∧ w = w' := by
  go_enter Try.func33, Try.ntmps33
  go_wp2_with fail
  refine (ContainsI_any _ _ samples1_pred A c l _ h hn).mono ?_
  rintro e w' ⟨rfl, rfl⟩
  rw [any_not_allR]
  generalize hx : allR (-32768) 32767 l = x
  have HX := Lib.hid hx
  clear hx
  go_wp2_with fail
  go_ret
  exact ⟨ret_bool (by rw [← hb.out, smp, HX.out]), rfl⟩

set_option maxHeartbeats 400000 in
theorem values_any (A : Option Addr) (c : Nat) (l : List Int) (w : World) (h : Lies w A (ics l)) (hn : l.length ≤ 9223372036854775807) (r : Int) (hr : Hid (vchk l = r)) :
    Calls Try.prog 19 #[.slice A l.length c] w fun e w' => e = .returned (.int .i64 r) ∧ w = w' := by
  by_cases h1 : 200000 < l.length
  · go_enter Try.func19, Try.ntmps19
    go_wp2_with fail
    go_ret
    exact ⟨ret_int (by rw [← hr.out, vchk, if_pos h1]), rfl⟩
  · cases hx : allR (-2147483647) 2147483647 l
    all_goals
      have HX := Lib.hid hx
      clear hx
      go_enter Try.func19, Try.ntmps19
      go_wp2_with fail
      refine (ContainsI_any _ _ values1_pred A c l _ h hn).mono ?_
      rintro e w' ⟨rfl, rfl⟩
      rw [any_not_allR, HX.out]
      go_wp2_with fail
      go_ret
      exact ⟨ret_int (by rw [← hr.out, vchk, if_neg h1, vls, HX.out]; rfl), rfl⟩
end Go.Proofs.Ytnflpnbpigcfhaa
