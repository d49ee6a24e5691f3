/- Mb: the texts PLen, Pos, Wth, Mak, PCos, Cos, PTrf, Trf, PLoop, Spc, Cpy, Cep, Cep2, PInv, Inv, PLog, Sqr, PLg, Logf, PLin, PGrow, PTab, Tab in one. -/
import Derived.Test.YtnflpnbpigcfhabDoorMa
import Derived.Test.YtnflpnbpigcfhabDoorLen
import Derived.OwnWalk
import Derived.Lib.BitFns
/- Plain facts: the lengths that a transform can have -/
namespace Ear

/-- a transform can have this length -/
def lenOk (n : Nat) : Bool := n == 1 || n == 2 || n == 4 || n == 8 || n == 16 || n == 32 || n == 64
theorem lenOk_bd {n : Nat} (h : lenOk n = true) : 1 ≤ n ∧ n ≤ 64 := by
  simp [lenOk] at h; omega
theorem lenOk_no {n : Nat} (h : n < 1 ∨ 64 < n) : lenOk n = false := by
  simp [lenOk]; omega
theorem lenOk_and : ∀ n : Nat, n < 65 → 1 ≤ n → (Go.bits .and .i64 (n : Int) ((n : Int) - 1) == 0) = lenOk n := by decide +kernel
end Ear
/- possible, Length, within, rounded, far -/
namespace Go.Proofs.YtnflpnbpigcfhabDoor
open Go.RowKit Ear

set_option maxHeartbeats 400000 in
theorem possible_any (n : Nat) (w : World) (hn : n ≤ 9223372036854775807) (r : Bool) (hr : Hid (lenOk n = r)) :
    Calls Tryd.prog 30 #[.int .i64 (n : Int)] w fun e w' => e = .returned (.bool r) ∧ w = w' := by
  by_cases h1 : 1 ≤ n
  · by_cases h2 : n ≤ 64
    · have h3 := lenOk_and n (by omega) h1
      rw [hr.out] at h3
      generalize hz : bits .and .i64 (n : Int) ((n : Int) - 1) = z at *
      go_enter Tryd.func30, Tryd.ntmps30
      go_wp2_with fail
      go_ret
      exact ⟨rfl, rfl⟩
    · have h3 := lenOk_no (n := n) (by omega)
      rw [hr.out] at h3
      subst h3
      clear hr
      go_enter Tryd.func30, Tryd.ntmps30
      go_wp2_with fail
      go_ret
      exact ⟨rfl, rfl⟩
  · have h3 := lenOk_no (n := n) (by omega)
    rw [hr.out] at h3
    subst h3
    clear hr
    obtain rfl : n = 0 := by omega
    go_enter Tryd.func30, Tryd.ntmps30
    go_wp2_with fail
    go_ret
    exact ⟨rfl, rfl⟩

set_option maxHeartbeats 400000 in
theorem rLength_any (n : Nat) (w : World) (hn : n ≤ 9223372036854775807) (r : Bool) (hr : Hid (lenOk n = r)) :
    Calls Tryd.prog 11 #[.int .i64 (n : Int)] w fun e w' => e = .returned (.bool r) ∧ w = w' := by
  have hr' := hr.out
  clear hr
  cases r with
  | true =>
    simp only [lenOk, Bool.or_eq_true, beq_iff_eq] at hr'
    rcases hr' with (((((rfl | rfl) | rfl) | rfl) | rfl) | rfl) | rfl
    all_goals
      go_enter Tryd.func11, Tryd.ntmps11
      go_wp2_with fail
      go_ret
      exact ⟨rfl, rfl⟩
  | false =>
    simp only [lenOk, Bool.or_eq_false_iff, beq_eq_false_iff_ne] at hr'
    obtain ⟨⟨⟨⟨⟨⟨h1, h2⟩, h3⟩, h4⟩, h5⟩, h6⟩, h7⟩ := hr'
    have q1 : ((n : Int) == 1) = false := by simp; omega
    have q2 : ((n : Int) == 2) = false := by simp; omega
    have q3 : ((n : Int) == 4) = false := by simp; omega
    have q4 : ((n : Int) == 8) = false := by simp; omega
    have q5 : ((n : Int) == 16) = false := by simp; omega
    have q6 : ((n : Int) == 32) = false := by simp; omega
    have q7 : ((n : Int) == 64) = false := by simp; omega
    clear h1 h2 h3 h4 h5 h6 h7
    go_enter Tryd.func11, Tryd.ntmps11
    go_wp2_with fail
    go_ret
    exact ⟨rfl, rfl⟩

set_option maxHeartbeats 400000 in
theorem frounded_pos (a b : Int) (w : World) (h0 : 0 ≤ a) (hb : 1 ≤ b) (h : 2 * a + b ≤ 9223372036854775807) (hb2 : 2 * b ≤ 9223372036854775807) :
    Calls Tryd.prog 67 #[.int .i64 a, .int .i64 b] w fun e w' => e = .returned (.int .i64 (rnd a b)) ∧ w = w' := by
  go_enter Tryd.func67, Tryd.ntmps67
  go_wp2_with fail
  go_ret
  exact ⟨ret_int (rnd_pos h0).symm, rfl⟩
set_option maxHeartbeats 400000 in
theorem frounded_any (a b : Int) (w : World) (hb : 1 ≤ b) (h : 2 * a + b ≤ 9223372036854775807) (h' : -9223372036854775807 ≤ 2 * a - b) (hb2 : 2 * b ≤ 9223372036854775807) :
    Calls Tryd.prog 67 #[.int .i64 a, .int .i64 b] w fun e w' => e = .returned (.int .i64 (rnd a b)) ∧ w = w' := by
  by_cases h0 : 0 ≤ a
  · exact frounded_pos a b w h0 hb h hb2
  · have hr := (rnd_bd (a := -a) hb).1 (by omega)
    go_enter Tryd.func67, Tryd.ntmps67
    go_wp2_with (go_at_call 67; refine (frounded_pos _ _ _ (by omega) (by omega) (by omega) (by omega)).mono ?_; rintro e w' ⟨rfl, rfl⟩)
    go_ret
    exact ⟨ret_int (rnd_of_neg (by omega)).symm, rfl⟩

/-- division with rounding by the rest -/
theorem rnd_far {a b : Int} (h : 0 ≤ a) (hb : 1 ≤ b) : rnd a b = if b - a % b ≤ a % b then a / b + 1 else a / b := by
  have h1 := Int.mul_ediv_add_emod a b
  have h2 := Int.emod_nonneg a (show b ≠ 0 by omega)
  have h3 := Int.emod_lt_of_pos a (show 0 < b by omega)
  generalize a / b = q at *
  generalize a % b = r at *
  have e : 2 * b * (q + 1) = 2 * (b * q) + 2 * b := by rw [Int.mul_add, Int.mul_assoc]; omega
  have e0 : 2 * b * q = 2 * (b * q) := by rw [Int.mul_assoc]
  have e2 : 2 * b * (q + 1 + 1) = 2 * (b * q) + 4 * b := by rw [Int.mul_add, Int.mul_add, Int.mul_assoc]; omega
  have key : ∀ c : Int, 2 * b * c ≤ 2 * a + b → 2 * a + b < 2 * b * (c + 1) → rnd a b = c := fun c hc1 hc2 => by
    have := le_rnd (a := a) (b := b) (q := c) h hb hc1
    have := rnd_le (a := a) (b := b) (q := c) h hb hc2
    omega
  split
  · exact key _ (by rw [e]; omega) (by rw [e2]; omega)
  · exact key _ (by rw [e0]; omega) (by rw [e]; omega)

/-- the post of a function that only reads (it may draw) -/
def RetI (v : Int) (w : World) (e : Ending) (w' : World) : Prop := e = .returned (.int .i64 v) ∧ ∃ n, w' = w.drewN n

set_option maxHeartbeats 400000 in
theorem far_pos (a b : Int) (w : World) (h0 : 0 ≤ a) (hb : 1 ≤ b) (ha : a ≤ 9223372036854775807) (hb2 : b ≤ 4611686018427387904) :
    Calls Tryd.prog 34 #[.int .i64 a, .int .i64 b] w (RetI (rnd a b) w) := by
  have e1 : Int.tdiv a b = a / b := Int.tdiv_eq_ediv_of_nonneg h0
  have e2 : Int.tmod a b = a % b := Int.tmod_eq_emod_of_nonneg h0
  have h2 := Int.emod_nonneg a (show b ≠ 0 by omega)
  have h3 := Int.emod_lt_of_pos a (show 0 < b by omega)
  have h4 : 0 ≤ a / b := Int.ediv_nonneg h0 (by omega)
  have h5 : a / b ≤ a := Int.ediv_le_self _ h0
  have hq : a / b = 9223372036854775807 → a % b = 0 ∧ b = 1 := fun hh => by
    have h1 := Int.mul_ediv_add_emod a b
    have : b * (a / b) ≤ a := by omega
    have hb1 : b = 1 := by
      have : ¬ 2 ≤ b := fun h2b => by
        have := Int.mul_le_mul_of_nonneg_right h2b h4
        omega
      omega
    subst hb1
    omega
  have E := Lib.hid (rnd_far h0 hb)
  generalize a / b = q at *
  generalize a % b = r at *
  by_cases hc : b - r ≤ r
  · have hq1 : q ≤ 9223372036854775806 := by
      rcases (show q = 9223372036854775807 ∨ q ≤ 9223372036854775806 by omega) with h | h
      · have := hq h; omega
      · exact h
    clear hq
    go_enter Tryd.func34, Tryd.ntmps34
    go_wp2
    go_quiet (fail)
    go_wp2
    go_ret
    exact ⟨ret_int (by rw [E.out, if_pos (by omega)]), _, rfl⟩
  · clear hq
    go_enter Tryd.func34, Tryd.ntmps34
    go_wp2
    go_quiet (fail)
    go_wp2
    go_ret
    exact ⟨ret_int (by rw [E.out, if_neg (by omega)]), _, rfl⟩
set_option maxHeartbeats 400000 in
theorem far_any (a b : Int) (w : World) (hb : 1 ≤ b) (ha : a ≤ 9223372036854775807) (ha' : -9223372036854775807 ≤ a) (hb2 : b ≤ 4611686018427387904) :
    Calls Tryd.prog 34 #[.int .i64 a, .int .i64 b] w (RetI (rnd a b) w) := by
  by_cases h0 : 0 ≤ a
  · exact far_pos a b w h0 hb ha hb2
  · have hr := (rnd_bd (a := -a) hb).1 (by omega)
    go_enter Tryd.func34, Tryd.ntmps34
    go_wp2_with fail
    refine (far_pos _ _ _ (by omega) (by omega) (by omega) (by omega)).mono ?_
    rintro e w' ⟨rfl, n, rfl⟩
    go_wp2_with fail
    go_ret
    exact ⟨ret_int (rnd_of_neg (by omega)).symm, _, rfl⟩
end Go.Proofs.YtnflpnbpigcfhabDoor
/- within: all numbers are at most as great as a bound -/
namespace Go.Proofs.YtnflpnbpigcfhabDoor
open Go.RowKit Ear

/-- a predicate on integers that has captured something and only computes, as long as the world is as it is -/
structure PredC (g : FuncId) (q : Value) (p : Int → Bool) (w : World) : Prop where
  enter : ∀ (args : Array Value) (w : World), (callFunc g args).run Tryd.prog w = .ok (.enter g args) w
  gives : ∀ (x : Int), Calls Tryd.prog g #[.int .i64 x, q] w fun e w' => e = .returned (.bool (p x)) ∧ w = w'

set_option maxRecDepth 100000 in
set_option maxHeartbeats 400000 in
theorem IndexI_c (g : FuncId) (q : Value) (p : Int → Bool) (A : Option Addr) (c : Nat) (l : List Int) (w : World) (hp : PredC g q p w) (h : Lies w A (ics l)) (hn : l.length ≤ 9223372036854775807) :
    Calls Tryd.prog 69 #[.slice A l.length c, .func (.func g) #[] #[q]] w (IdxPost p l w) := by
  have heg := hp.enter
  go_enter Tryd.func69, Tryd.ntmps69
  go_wp2
  go_loop [5, 8] (fun _ i => ∃ k : Nat, k ≤ l.length ∧ i = .int .i64 k ∧ (l.take k).any p = false) (fun _ i => l.length - (intOf i).toNat)
  case atStart => exact ⟨0, Nat.zero_le _, rfl, rfl⟩
  case round =>
    obtain ⟨k, hk, rfl, hp'⟩ := hrel
    have HP := Lib.hid hp'
    clear hp'
    by_cases hlt : k < l.length
    · obtain ⟨bk, off, rfl, hb, hc⟩ := h.at_ hlt
      go_wp2_with fail
      refine (hp.gives _).mono ?_
      rintro e w' ⟨rfl, rfl⟩
      cases hpx : p l[k] with
      | true =>
        have HX := Lib.hid hpx
        clear hpx
        go_wp2_with fail
        go_ret
        exact ⟨k, rfl, rfl, by rw [any_true_at hlt HX.out]; simp⟩
      | false =>
        have HX := Lib.hid hpx
        clear hpx
        go_wp2_with fail
        exact ⟨⟨k + 1, by omega, by go_num, any_take_succ hlt HP.out HX.out⟩, by simp [intOf]; omega⟩
    · go_wp2
      go_ret
      exact ⟨-1, rfl, rfl, by have hh := HP.out; rw [List.take_of_length_le (by omega)] at hh; rw [hh]; rfl⟩

set_option maxHeartbeats 400000 in
theorem ContainsI_c (g : FuncId) (q : Value) (p : Int → Bool) (A : Option Addr) (c : Nat) (l : List Int) (w : World) (hp : PredC g q p w) (h : Lies w A (ics l)) (hn : l.length ≤ 9223372036854775807) :
    Calls Tryd.prog 53 #[.slice A l.length c, .func (.func g) #[] #[q]] w fun e w' => e = .returned (.bool (l.any p)) ∧ w = w' := by
  go_enter Tryd.func53, Tryd.ntmps53
  go_wp2_with fail
  refine (IndexI_c g q p A c l _ hp h hn).mono ?_
  rintro e w' ⟨r, rfl, rfl, hr⟩
  have HR := Lib.hid hr
  clear hr
  go_wp2_with fail
  go_ret
  exact ⟨ret_bool HR.out, rfl⟩

set_option maxHeartbeats 400000 in
theorem within1_any (x d : Int) (b : Nat) (w : World) (hc : w.cell? ⟨b, 0, none⟩ = some (.int .i64 d)) (hd : 0 ≤ d) (hd2 : d ≤ 9223372036854775807) :
    Calls Tryd.prog 54 #[.int .i64 x, .pointer (some ⟨b, 0, none⟩)] w fun e w' => e = .returned (.bool (!inR (-d) d x)) ∧ w = w' := by
  by_cases h1 : x < -d
  · go_enter Tryd.func54, Tryd.ntmps54
    go_wp2
    go_ret
    exact ⟨ret_bool (by simp [inR]; omega), rfl⟩
  · by_cases h2 : d < x
    all_goals
      go_enter Tryd.func54, Tryd.ntmps54
      go_wp2
      go_ret
      exact ⟨ret_bool (by simp [inR]; omega), rfl⟩

/-- the post of a function that only makes memory and answers a bool -/
def RetB (b : Bool) (w : World) (e : Ending) (w' : World) : Prop := e = .returned (.bool b) ∧ Below w.heap.size w w'

set_option maxHeartbeats 400000 in
theorem within_any (A : Option Addr) (c : Nat) (l : List Int) (d : Int) (w : World) (h : Lies w A (ics l)) (hn : l.length ≤ 9223372036854775807) (hd : 0 ≤ d) (hd2 : d ≤ 9223372036854775807) (r : Bool) (hr : Hid (allR (-d) d l = r)) :
    Calls Tryd.prog 31 #[.slice A l.length c, .int .i64 d] w (RetB r w) := by
  go_enter Tryd.func31, Tryd.ntmps31
  go_wp2_with fail
  refine (ContainsI_c _ _ (fun x => !inR (-d) d x) A c l _ ⟨enters_of Tryd.func54 (by kernel_rfl) rfl, fun x => within1_any x d _ _ (by simp) hd hd2⟩ (h.alloc _) hn).mono ?_
  rintro e w' ⟨rfl, rfl⟩
  rw [any_not_allR, hr.out]
  go_wp2_with fail
  go_ret
  exact ⟨ret_bool (by simp), (Below.refl _ _).alloc (Nat.le_refl _) _⟩
end Go.Proofs.YtnflpnbpigcfhabDoor
/- make of integers, as an owned row of zeros -/
namespace Go.Proofs.YtnflpnbpigcfhabDoor
open Go.RowKit Ear

theorem made_ints (n : Nat) : (madeCells (Value.int .i64 0).cells (n * 1)).toList = ics (List.replicate n 0) := by
  apply List.ext_getElem (by simp [madeCells])
  intro k h1 h2
  simp [madeCells, Value.cells, Nat.mod_one]
/-- the post of a function that makes a list of integers -/
def RetInts (out : List Int) (w : World) (e : Ending) (w' : World) : Prop :=
  ∃ A c, e = .returned (.slice A out.length c) ∧ w'.ownsRow w.heap.size 3 1 (.slice A out.length c) out.length (ics out) ∧ Below w.heap.size w w'

/-- make([]int, n) -/
theorem make_ints (w : World) (n : Nat) (hn : n ≤ 1000000000) (base : Nat) (hb : base ≤ w.heap.size) :
    ∃ w', (Instr.makeSlice 22 (.int .i64 (n : Int)) (.int .i64 (n : Int))).run Tryd.prog w = .ok (.slice (some ⟨w.heap.size, 0, none⟩) n n) w' ∧
      w'.ownsRow base 3 1 (.slice (some ⟨w.heap.size, 0, none⟩) n n) n (ics (List.replicate n 0)) ∧ Below w.heap.size w w' := by
  obtain ⟨i0, hi0, hz0, hz1, hz2⟩ := info_parts int_info
  obtain ⟨w', h1, h2, h3⟩ := run_make_full (P := Tryd.prog) w base 22 3 i0 _ 1 Tryd.underlying22 hi0 hz0 hz1 .i64 .i64 n (by rw [hz2]; omega) (by unfold maxLen; omega) hb
  rw [made_ints] at h2
  exact ⟨w', h1, h2, below_none h3⟩
end Go.Proofs.YtnflpnbpigcfhabDoor
/- Plain facts: the table of cosines and its extension. -/
namespace Ear

/-- the table's 65 numbers -/
def cosTab : List Int := [16384, 16379, 16364, 16340, 16305, 16261, 16207, 16143, 16069, 15986, 15893, 15791, 15679, 15557, 15426, 15286, 15137, 14978, 14811, 14635, 14449, 14256, 14053, 13842, 13623, 13395, 13160, 12916, 12665, 12406, 12140, 11866, 11585, 11297, 11003, 10702, 10394, 10080, 9760, 9434, 9102, 8765, 8423, 8076, 7723, 7366, 7005, 6639, 6270, 5897, 5520, 5139, 4756, 4370, 3981, 3590, 3196, 2801, 2404, 2006, 1606, 1205, 804, 402, 0]
def cosAt (k : Nat) : Int := cosTab.getD k 0
theorem cosTab_length : cosTab.length = 65 := rfl
theorem cosAt_all : ∀ k, k < 65 → 0 ≤ cosAt k ∧ cosAt k ≤ 16384 := by decide
theorem cosAt_bd (k : Nat) : 0 ≤ cosAt k ∧ cosAt k ≤ 16384 := by
  by_cases h : k < 65
  · exact cosAt_all k h
  · have : cosAt k = 0 := by unfold cosAt; rw [List.getD_eq_getElem?_getD, List.getElem?_eq_none (by rw [cosTab_length]; omega)]; rfl
    omega
/-- C of a rest -/
def cosM (m : Nat) : Int := if m ≤ 64 then cosAt m else if m ≤ 128 then -cosAt (128 - m) else if m ≤ 192 then -cosAt (m - 128) else cosAt (256 - m)
/-- the extended table -/
def cosC (j : Nat) : Int := cosM (j % 256)
theorem cosM_bd (m : Nat) : -16384 ≤ cosM m ∧ cosM m ≤ 16384 := by
  unfold cosM
  have h1 := cosAt_bd m; have h2 := cosAt_bd (128 - m); have h3 := cosAt_bd (m - 128); have h4 := cosAt_bd (256 - m)
  split
  · omega
  · split
    · omega
    · split <;> omega
theorem cosC_bd (j : Nat) : -16384 ≤ cosC j ∧ cosC j ≤ 16384 := cosM_bd _
end Ear
/- feature.cosine, the reference's C -/
namespace Go.Proofs.YtnflpnbpigcfhabDoor
open Go.RowKit Ear

/-- the variable api.Cosines holds the table -/
def CosOk (w : World) : Prop := Lies w (some ⟨0, 0, none⟩) (ics cosTab)
theorem CosOk.cell {w : World} (h : CosOk w) (k : Nat) (hk : k < 65) : w.cell? ⟨0, k, none⟩ = some (.int .i64 (cosAt k)) := by
  obtain ⟨b, off, e, _, hc⟩ := h (by decide)
  cases e
  have := hc k (.int .i64 (cosAt k)) (by
    rw [List.getElem?_map, cosAt, List.getD_eq_getElem?_getD, List.getElem?_eq_getElem (by rw [cosTab_length]; exact hk)]; rfl)
  rwa [Nat.zero_add] at this
theorem CosOk.below {w w' : World} (h : CosOk w) (hb : Below w.heap.size w w') : CosOk w' := Lies.below h hb

set_option maxHeartbeats 400000 in
theorem cosine_any (j : Int) (k : Nat) (hj : j = (k : Int)) (w : World) (hc : CosOk w) :
    Calls Tryd.prog 33 #[.int .i64 j] w fun e w' => e = .returned (.int .i64 (cosC k)) ∧ w = w' := by
  subst hj
  obtain ⟨m, hm⟩ : ∃ m : Nat, m = k % 256 := ⟨_, rfl⟩
  have e0 : Int.tmod (k : Int) 256 = (m : Int) := by rw [hm]; rfl
  have hlt : m < 256 := by omega
  have hC : cosC k = cosM m := by unfold cosC; rw [hm]
  rw [hC]
  clear hC hm
  by_cases h1 : m ≤ 64
  · have hcell := hc.cell m (by omega)
    have E : Hid (cosM m = cosAt m) := by unfold cosM; rw [if_pos h1]; rfl
    have hb := cosAt_bd m
    generalize cosAt m = x at *
    go_enter Tryd.func33, Tryd.ntmps33
    go_wp2_with fail
    go_ret
    exact ⟨ret_int E.out.symm, rfl⟩
  · by_cases h2 : m ≤ 128
    · obtain ⟨q, hq⟩ : ∃ q : Nat, q = 128 - m := ⟨_, rfl⟩
      have hcell := hc.cell q (by omega)
      have E : Hid (cosM m = -cosAt q) := by unfold cosM; rw [if_neg h1, if_pos h2, hq]; rfl
      have hb := cosAt_bd q
      have i0 : (128 : Int) - (m : Int) = (q : Int) := by omega
      have hq65 : q < 65 := by omega
      clear hq
      generalize cosAt q = x at *
      go_enter Tryd.func33, Tryd.ntmps33
      go_wp2_with fail
      go_ret
      exact ⟨ret_int E.out.symm, rfl⟩
    · by_cases h3 : m ≤ 192
      · obtain ⟨q, hq⟩ : ∃ q : Nat, q = m - 128 := ⟨_, rfl⟩
        have hcell := hc.cell q (by omega)
        have E : Hid (cosM m = -cosAt q) := by unfold cosM; rw [if_neg h1, if_neg h2, if_pos h3, hq]; rfl
        have hb := cosAt_bd q
        have i0 : (m : Int) - 128 = (q : Int) := by omega
        have hq65 : q < 65 := by omega
        clear hq
        generalize cosAt q = x at *
        go_enter Tryd.func33, Tryd.ntmps33
        go_wp2_with fail
        go_ret
        exact ⟨ret_int E.out.symm, rfl⟩
      · obtain ⟨q, hq⟩ : ∃ q : Nat, q = 256 - m := ⟨_, rfl⟩
        have hcell := hc.cell q (by omega)
        have E : Hid (cosM m = cosAt q) := by unfold cosM; rw [if_neg h1, if_neg h2, if_neg h3, hq]; rfl
        have hb := cosAt_bd q
        have i0 : (256 : Int) - (m : Int) = (q : Int) := by omega
        have hq65 : q < 65 := by omega
        clear hq
        generalize cosAt q = x at *
        go_enter Tryd.func33, Tryd.ntmps33
        go_wp2_with fail
        go_ret
        exact ⟨ret_int E.out.symm, rfl⟩

end Go.Proofs.YtnflpnbpigcfhabDoor
/- Plain facts: transforms -/
namespace Ear

/-- the first m terms of the k-th number of the transform -/
def trS (l : List Int) (n k : Nat) : Nat → Int
  | 0 => 0
  | i + 1 => trS l n k i + l[i]?.getD 0 * cosC ((2 * i + 1) * k * 64 / n)
/-- the transform -/
def trf (l : List Int) : List Int := (List.range l.length).map fun k => trS l l.length k l.length
/-- the transform, of which k numbers are done, and the k-th one up to i terms -/
def trTo (l : List Int) (k i : Nat) : List Int := (List.range l.length).map fun q => if q < k then trS l l.length q l.length else if q = k then trS l l.length k i else 0
theorem trf_length (l : List Int) : (trf l).length = l.length := by simp [trf]
theorem trTo_length (l : List Int) (k i : Nat) : (trTo l k i).length = l.length := by simp [trTo]
theorem trTo_zero (l : List Int) : trTo l 0 0 = List.replicate l.length 0 := by
  apply List.ext_getElem (by simp [trTo])
  intro q h1 h2
  simp only [trTo, List.getElem_map, List.getElem_range, List.getElem_replicate]
  rw [if_neg (by omega)]
  split <;> rfl
theorem trTo_all (l : List Int) : trTo l l.length 0 = trf l := by
  apply List.ext_getElem (by simp [trTo, trf])
  intro q h1 h2
  simp only [trTo, List.length_map, List.length_range] at h1
  simp only [trTo, trf, List.getElem_map, List.getElem_range]
  rw [if_pos h1]
theorem trTo_next (l : List Int) (k : Nat) : trTo l k l.length = trTo l (k + 1) 0 := by
  apply List.ext_getElem (by simp [trTo])
  intro q h1 h2
  simp only [trTo, List.getElem_map, List.getElem_range]
  by_cases h : q < k
  · rw [if_pos h, if_pos (by omega)]
  · by_cases h' : q = k
    · subst h'; rw [if_neg h, if_pos rfl, if_pos (by omega)]
    · rw [if_neg h, if_neg h', if_neg (by omega)]
      split <;> rfl
theorem trTo_get (l : List Int) (k i : Nat) (hk : k < l.length) : (trTo l k i)[k]? = some (trS l l.length k i) := by
  rw [List.getElem?_eq_getElem (by simpa [trTo] using hk)]
  simp [trTo]
theorem trTo_set (l : List Int) (k i : Nat) (v : Int) (h : v = trS l l.length k (i + 1)) : (trTo l k i).set k v = trTo l k (i + 1) := by
  subst h
  apply List.ext_getElem (by simp [trTo])
  intro q h1 h2
  rw [List.getElem_set]
  simp only [trTo, List.getElem_map, List.getElem_range]
  by_cases h : k = q
  · subst h; simp
  · rw [if_neg h]
    by_cases h' : q < k
    · rw [if_pos h', if_pos h']
    · rw [if_neg h', if_neg h', if_neg (by omega), if_neg (by omega)]
/-- a product of two bounded numbers -/
theorem mul_abs {x y A B : Int} (h1 : -A ≤ x) (h2 : x ≤ A) (h3 : -B ≤ y) (h4 : y ≤ B) : -(A * B) ≤ x * y ∧ x * y ≤ A * B := by
  have a1 := Int.mul_nonneg (show 0 ≤ A - x by omega) (show 0 ≤ B - y by omega)
  have a2 := Int.mul_nonneg (show 0 ≤ A + x by omega) (show 0 ≤ B + y by omega)
  have a3 := Int.mul_nonneg (show 0 ≤ A - x by omega) (show 0 ≤ B + y by omega)
  have a4 := Int.mul_nonneg (show 0 ≤ A + x by omega) (show 0 ≤ B - y by omega)
  simp only [Int.sub_mul, Int.add_mul, Int.mul_sub, Int.mul_add] at a1 a2 a3 a4
  omega
theorem all_at {l : List Int} {d : Int} (hd : 0 ≤ d) (h : allR (-d) d l = true) (i : Nat) : -d ≤ l[i]?.getD 0 ∧ l[i]?.getD 0 ≤ d := by
  by_cases hi : i < l.length
  · have := allR_get h hi
    simp only [List.getElem?_eq_getElem hi, Option.getD_some]
    omega
  · rw [List.getElem?_eq_none (by omega)]
    simp; omega
theorem trS_bd {l : List Int} {d : Int} (hd : 0 ≤ d) (h : allR (-d) d l = true) (n k : Nat) : ∀ i : Nat, -((i : Int) * (d * 16384)) ≤ trS l n k i ∧ trS l n k i ≤ (i : Int) * (d * 16384) := by
  intro i
  induction i with
  | zero => simp [trS]
  | succ i ih =>
    have hx := all_at hd h i
    have hc := cosC_bd ((2 * i + 1) * k * 64 / n)
    have hm := mul_abs hx.1 hx.2 hc.1 hc.2
    have e : ((i + 1 : Nat) : Int) * (d * 16384) = (i : Int) * (d * 16384) + d * 16384 := by
      rw [Int.natCast_add, Int.add_mul]; simp
    rw [e]
    simp only [trS]
    omega
theorem trS_bd64 {l : List Int} (h : allR (-65536) 65536 l = true) (n k i : Nat) (hi : i ≤ 64) : -68719476736 ≤ trS l n k i ∧ trS l n k i ≤ 68719476736 := by
  have := trS_bd (d := 65536) (by omega) h n k i
  omega
/-- the other way to the same index -/
theorem idx_eq {n : Nat} (h : lenOk n = true) (a k : Nat) : a * k * (64 / n) = a * k * 64 / n := by
  have hd : n ∣ 64 := by
    simp only [lenOk, Bool.or_eq_true, beq_iff_eq] at h
    rcases h with (((((rfl | rfl) | rfl) | rfl) | rfl) | rfl) | rfl <;> decide
  exact (Nat.mul_div_assoc _ hd).symm
end Ear
/- transform, the reference's Transform -/
namespace Go.Proofs.YtnflpnbpigcfhabDoor
open Go.RowKit Ear

set_option maxRecDepth 100000 in
set_option maxHeartbeats 1000000 in
theorem transform_any (A : Option Addr) (c : Nat) (l : List Int) (w : World) (h : Lies w A (ics l)) (hC : CosOk w) (hn : lenOk l.length = true) (hv : Hid (allR (-65536) 65536 l = true)) :
    Calls Tryd.prog 32 #[.slice A l.length c] w (RetInts (trf l) w) := by
  have hlen := lenOk_bd hn
  go_enter Tryd.func32, Tryd.ntmps32
  go_wp2_with fail
  obtain ⟨w1, hmk, ho1, hb1⟩ := make_ints w l.length (by omega) w.heap.size (Nat.le_refl _)
  rw [hmk]
  clear hmk
  obtain ⟨g, hg⟩ : ∃ g, g = w.heap.size := ⟨_, rfl⟩
  rw [← hg] at ho1 ⊢
  have hg0 : w.heap.size ≤ g := by omega
  clear hg
  go_wp2_with fail
  go_loopw [5, 6, 7, 14] (fun _ _ _ i wr => ∃ k : Nat, k ≤ l.length ∧ i = .int .i64 k ∧ wr.ownsRow g 3 1 (.slice (some ⟨g, 0, none⟩) l.length l.length) l.length (ics (trTo l k 0)) ∧ Below w.heap.size w wr) (fun _ _ _ i _ => l.length - (intOf i).toNat)
  case atStart => exact ⟨0, by omega, rfl, by rw [trTo_zero]; exact ho1, hb1⟩
  case round =>
    obtain ⟨k, hk, rfl, r1, r2⟩ := hrel
    by_cases hlt : k < l.length
    · go_wp2_with fail
      go_loopw [6, 7, 19] (fun _ _ i wr => ∃ m : Nat, m ≤ l.length ∧ i = .int .i64 m ∧ wr.ownsRow g 3 1 (.slice (some ⟨g, 0, none⟩) l.length l.length) l.length (ics (trTo l k m)) ∧ Below w.heap.size w wr) (fun _ _ i _ => l.length - (intOf i).toNat)
      case atStart => exact ⟨0, by omega, rfl, r1, r2⟩
      case round =>
        obtain ⟨i, hi, rfl, s1, s2⟩ := hrel
        by_cases hli : i < l.length
        · obtain ⟨bk, off, rfl, hb, hc⟩ := (h.below s2).at_ hli
          have hC' := hC.below s2
          have q1 : wr.cell? ⟨g, k, none⟩ = some (.int .i64 (trS l l.length k i)) := by
            rw [s1.cellAt k (by omega)]; simp only [List.getElem?_map, trTo_get l k i hlt]; rfl
          have q2 : wr.frozen? ⟨g, k, none⟩ = false := s1.frozenAt k
          have b1 := all_at (l := l) (d := 65536) (by omega) hv.out i
          have b2 := trS_bd64 hv.out l.length k i (by omega)
          have b3 := trS_bd64 hv.out l.length k (i + 1) (by omega)
          have e3 : trS l l.length k (i + 1) = trS l l.length k i + l[i]?.getD 0 * cosC ((2 * i + 1) * k * 64 / l.length) := rfl
          obtain ⟨J, hJ⟩ : ∃ J : Nat, J = (2 * i + 1) * k := ⟨_, rfl⟩
          rw [← hJ] at e3
          have eJ : (2 * (i : Int) + 1) * (k : Int) = (J : Int) := by rw [hJ]; simp
          have bJ : J ≤ 129 * 64 := by rw [hJ]; exact Nat.mul_le_mul (by omega) (by omega)
          have eQ : Int.tdiv ((J : Int) * 64) (l.length : Int) = ((J * 64 / l.length : Nat) : Int) := rfl
          have bc := cosC_bd (J * 64 / l.length)
          have bQ : J * 64 / l.length ≤ J * 64 := Nat.div_le_self _ _
          have n0 : ¬ l = [] := fun e => by rw [e] at hli; simp at hli
          generalize hx1 : l[i]?.getD 0 = x1 at *
          generalize hx2 : trS l l.length k i = x2 at *
          generalize hx3 : trS l l.length k (i + 1) = x3 at *
          generalize J * 64 / l.length = Q at *
          generalize hx4 : cosC Q = x4 at *
          have m1 := mul_abs (A := 65536) (B := 16384) b1.1 b1.2 bc.1 bc.2
          have p1 : IntKind.i64.wrap (2 * (i : Int)) = 2 * (i : Int) := IntWalk.i64_in _ (by omega)
          have p2 : IntKind.i64.wrap (2 * (i : Int) + 1) = 2 * (i : Int) + 1 := IntWalk.i64_in _ (by omega)
          have p3 : IntKind.i64.wrap (J : Int) = (J : Int) := IntWalk.i64_in _ (by omega)
          have p4 : IntKind.i64.wrap ((J : Int) * 64) = (J : Int) * 64 := IntWalk.i64_in _ (by omega)
          have p5 : IntKind.i64.wrap (Q : Int) = (Q : Int) := IntWalk.i64_in _ (by omega)
          have p6 : IntKind.i64.wrap (x1 * x4) = x1 * x4 := IntWalk.i64_in _ (by omega)
          have p7 : IntKind.i64.wrap (x2 + x1 * x4) = x2 + x1 * x4 := IntWalk.i64_in _ (by omega)
          have H1 := Lib.hid hx1
          have H2 := Lib.hid hx2
          have H3 := Lib.hid hx3
          have H4 := Lib.hid hx4
          have E3 := Lib.hid e3
          clear hx1 hx2 hx3 hx4 e3 hJ b2 b3 bc m1 b1
          go_wp2_with fail
          go_still_tail 17, (by kernel_rfl)
          still_call (still_of (cosine_any _ Q rfl _ (Lies.drew hC')))
          rw [H4.out]
          repeat still_step
          refine wpStill_nil ?_
          go_wp2_with fail
          have hst := s1.stored k (.int .i64 (x2 + x1 * x4))
          have hset : (ics (trTo l k i)).set k (.int .i64 (x2 + x1 * x4)) = ics (trTo l k (i + 1)) := by
            rw [← List.map_set, trTo_set l k i _ (by rw [H3.out, E3.out])]
          rw [hset] at hst
          exact ⟨⟨i + 1, by omega, by go_num, hst.1.drew, (s2.setCell hg0 _).drew⟩, by simp [intOf]; omega⟩
        · obtain rfl : i = l.length := by omega
          rw [trTo_next] at s1
          go_wp2_with fail
          exact ⟨⟨k + 1, by omega, by go_num, s1, s2⟩, by simp [intOf]; omega⟩
    · obtain rfl : k = l.length := by omega
      rw [trTo_all] at r1
      go_wp2_with fail
      go_ret
      exact ⟨_, _, by rw [trf_length]; rfl, by rw [trf_length]; exact ownsRow_le r1 hg0, r2⟩

end Go.Proofs.YtnflpnbpigcfhabDoor
/- Plain facts: a list that is filled, or mapped, one by one -/
namespace Ear

/-- n zeros, of which the first k are filled -/
def fillTo (f : Nat → Int) (n k : Nat) : List Int := (List.range n).map fun q => if q < k then f q else 0
theorem fillTo_length (f : Nat → Int) (n k : Nat) : (fillTo f n k).length = n := by simp [fillTo]
theorem fillTo_zero (f : Nat → Int) (n : Nat) : fillTo f n 0 = List.replicate n 0 := by
  apply List.ext_getElem (by simp [fillTo])
  intro q h1 h2
  simp [fillTo]
theorem fillTo_all (f : Nat → Int) (n : Nat) : fillTo f n n = (List.range n).map f := by
  apply List.ext_getElem (by simp [fillTo])
  intro q h1 h2
  simp only [fillTo, List.length_map, List.length_range] at h1
  simp only [fillTo, List.getElem_map, List.getElem_range]
  rw [if_pos h1]
theorem fillTo_get (f : Nat → Int) (n k : Nat) (hk : k < n) : (fillTo f n k)[k]? = some 0 := by
  rw [List.getElem?_eq_getElem (by simpa [fillTo] using hk)]
  simp [fillTo]
theorem fillTo_set (f : Nat → Int) (n k : Nat) (v : Int) (h : v = f k) : (fillTo f n k).set k v = fillTo f n (k + 1) := by
  subst h
  apply List.ext_getElem (by simp [fillTo])
  intro q h1 h2
  rw [List.getElem_set]
  simp only [fillTo, List.getElem_map, List.getElem_range]
  by_cases h : k = q
  · subst h; simp
  · rw [if_neg h]
    by_cases h' : q < k
    · rw [if_pos h', if_pos (by omega)]
    · rw [if_neg h', if_neg (by omega)]
/-- a list of which the first k are mapped -/
def mapTo (f : Int → Int) (l : List Int) (k : Nat) : List Int := (List.range l.length).map fun q => if q < k then f (l[q]?.getD 0) else l[q]?.getD 0
theorem mapTo_length (f : Int → Int) (l : List Int) (k : Nat) : (mapTo f l k).length = l.length := by simp [mapTo]
theorem mapTo_zero (f : Int → Int) (l : List Int) : mapTo f l 0 = l := by
  apply List.ext_getElem (by simp [mapTo])
  intro q h1 h2
  simp [mapTo, List.getElem?_eq_getElem h2]
theorem mapTo_all (f : Int → Int) (l : List Int) : mapTo f l l.length = l.map f := by
  apply List.ext_getElem (by simp [mapTo])
  intro q h1 h2
  simp only [mapTo, List.length_map, List.length_range] at h1
  simp only [mapTo, List.getElem_map, List.getElem_range]
  rw [if_pos h1, List.getElem?_eq_getElem h1]; rfl
theorem mapTo_get (f : Int → Int) (l : List Int) (k : Nat) (hk : k < l.length) : (mapTo f l k)[k]? = some (l[k]?.getD 0) := by
  rw [List.getElem?_eq_getElem (by simpa [mapTo] using hk)]
  simp [mapTo]
theorem mapTo_set (f : Int → Int) (l : List Int) (k : Nat) (v : Int) (h : v = f (l[k]?.getD 0)) : (mapTo f l k).set k v = mapTo f l (k + 1) := by
  subst h
  apply List.ext_getElem (by simp [mapTo])
  intro q h1 h2
  rw [List.getElem_set]
  simp only [mapTo, List.getElem_map, List.getElem_range]
  by_cases h : k = q
  · subst h; simp
  · rw [if_neg h]
    by_cases h' : q < k
    · rw [if_pos h', if_pos (by omega)]
    · rw [if_neg h', if_neg (by omega)]
theorem range_map_get (l : List Int) (f : Int → Int) : (List.range l.length).map (fun q => f (l[q]?.getD 0)) = l.map f := by
  apply List.ext_getElem (by simp)
  intro q h1 h2
  simp only [List.length_map, List.length_range] at h1
  simp only [List.getElem_map, List.getElem_range]
  rw [List.getElem?_eq_getElem h1]; rfl
end Ear
/- Transform, spectrum, Spectrum and the reference's -/
namespace Go.Proofs.YtnflpnbpigcfhabDoor
open Go.RowKit Ear

/-- what Transform answers -/
def trfR (l : List Int) : Int × List Int := if lenOk l.length = true ∧ allR (-65536) 65536 l = true then (0, trf l) else (2, [])
/-- the spectrum -/
def spc (l : List Int) : List Int := (trf l).map (rnd · 16384)
theorem spc_length (l : List Int) : (spc l).length = l.length := by simp [spc, trf_length]
def spcR (l : List Int) : Int × List Int := if lenOk l.length = true ∧ allR (-65536) 65536 l = true then (0, spc l) else (2, [])
theorem trf_bd {l : List Int} (h : allR (-65536) 65536 l = true) (hn : l.length ≤ 64) (k : Nat) : -68719476736 ≤ (trf l)[k]?.getD 0 ∧ (trf l)[k]?.getD 0 ≤ 68719476736 := by
  by_cases hk : k < l.length
  · have := trS_bd64 h l.length k l.length hn
    rw [List.getElem?_eq_getElem (by rw [trf_length]; exact hk)]
    simpa [trf] using this
  · rw [List.getElem?_eq_none (by rw [trf_length]; omega)]; simp

set_option maxHeartbeats 400000 in
theorem Transform_any (A : Option Addr) (c : Nat) (l : List Int) (w : World) (h : Lies w A (ics l)) (hC : CosOk w) (hn : l.length ≤ 9223372036854775807) (err : Int) (out : List Int) (ho : Hid (trfR l = (err, out))) :
    Calls Tryd.prog 15 #[.slice A l.length c] w (IntsErr err out w) := by
  have ho' := ho.out
  clear ho
  unfold trfR at ho'
  cases h1 : lenOk l.length with
  | false =>
    rw [if_neg (by simp [h1])] at ho'
    injection ho' with e1 e2
    subst e1 e2
    have H1 := Lib.hid h1
    clear h1
    go_enter Tryd.func15, Tryd.ntmps15
    go_wp2_with fail
    refine (possible_any l.length _ hn false H1).mono ?_
    rintro e w' ⟨rfl, rfl⟩
    go_wp2_with fail
    go_ret2
    exact ⟨none, 0, rfl, World.ownsRow_nil _ _ _ _, Below.refl _ _⟩
  | true =>
    cases h2 : allR (-65536) 65536 l with
    | false =>
      rw [if_neg (by simp [h2])] at ho'
      injection ho' with e1 e2
      subst e1 e2
      have H1 := Lib.hid h1
      have H2 := Lib.hid h2
      clear h1 h2
      go_enter Tryd.func15, Tryd.ntmps15
      go_wp2_with fail
      refine (possible_any l.length _ hn true H1).mono ?_
      rintro e w' ⟨rfl, rfl⟩
      go_wp2_with fail
      refine (within_any A c l 65536 _ h hn (by omega) (by omega) false H2).mono ?_
      rintro e w1 ⟨rfl, hb1⟩
      go_wp2_with fail
      go_ret2
      exact ⟨none, 0, rfl, World.ownsRow_nil _ _ _ _, hb1⟩
    | true =>
      rw [if_pos ⟨h1, h2⟩] at ho'
      injection ho' with e1 e2
      have E2 := Lib.hid e2
      subst e1
      have H1 := Lib.hid h1
      have H2 := Lib.hid h2
      clear h1 h2 e2
      go_enter Tryd.func15, Tryd.ntmps15
      go_wp2_with fail
      refine (possible_any l.length _ hn true H1).mono ?_
      rintro e w' ⟨rfl, rfl⟩
      go_wp2_with fail
      refine (within_any A c l 65536 _ h hn (by omega) (by omega) true H2).mono ?_
      rintro e w1 ⟨rfl, hb1⟩
      have L1 := Lib.hid (h.below hb1)
      have C1 := Lib.hid (hC.below hb1)
      go_wp2_with fail
      refine (transform_any A c l _ L1.out C1.out H1.out H2).mono ?_
      rintro e w2 ⟨A2, c2, rfl, ho2, hb2⟩
      rw [E2.out] at ho2 ⊢
      go_wp2_with fail
      go_ret2
      exact ⟨A2, c2, rfl, ownsRow_le ho2 hb1.size, hb1.trans (hb2.mono hb1.size)⟩
set_option maxRecDepth 100000 in
set_option maxHeartbeats 1000000 in
theorem spectrum_any (A : Option Addr) (c : Nat) (l : List Int) (w : World) (h : Lies w A (ics l)) (hC : CosOk w) (hn : lenOk l.length = true) (hv : Hid (allR (-65536) 65536 l = true)) :
    Calls Tryd.prog 51 #[.slice A l.length c] w (RetInts (spc l) w) := by
  have hlen := lenOk_bd hn
  have HE := Lib.hid (trf_length l)
  go_enter Tryd.func51, Tryd.ntmps51
  go_wp2_with fail
  refine (transform_any A c l _ h hC hn hv).mono ?_
  rintro e w1 ⟨A1, c1, rfl, ho1, hb1⟩
  rw [HE.out] at ho1 ⊢
  go_wp2_with fail
  go_loopw [4, 9] (fun _ i wr => ∃ k : Nat, k ≤ l.length ∧ i = .int .i64 k ∧ wr.ownsRow w.heap.size 3 1 (.slice A1 l.length c1) l.length (ics (mapTo (rnd · 16384) (trf l) k)) ∧ Below w.heap.size w wr) (fun _ i _ => l.length - (intOf i).toNat)
  case atStart => exact ⟨0, by omega, rfl, by rw [mapTo_zero]; exact ho1, hb1⟩
  case round =>
    obtain ⟨k, hk, rfl, r1, r2⟩ := hrel
    by_cases hlt : k < l.length
    · obtain ⟨g, cap, hform, hg1, hg2⟩ := r1.form (by omega)
      obtain ⟨rfl, rfl⟩ : A1 = some ⟨g, 0, none⟩ ∧ c1 = cap := by injection hform with e1 _ e3; exact ⟨e1, e3⟩
      have q1 : wr.cell? ⟨g, k, none⟩ = some (.int .i64 ((trf l)[k]?.getD 0)) := by
        rw [r1.cellAt k (by omega)]; simp only [List.getElem?_map, mapTo_get _ (trf l) k (by rw [HE.out]; exact hlt)]; rfl
      have q2 : wr.frozen? ⟨g, k, none⟩ = false := r1.frozenAt k
      have b1 := trf_bd hv.out hlen.2 k
      generalize hx1 : (trf l)[k]?.getD 0 = x1 at *
      have H1 := Lib.hid hx1
      clear hx1
      go_wp2_with (go_at_call 67; refine (frounded_any _ _ _ (by omega) (by omega) (by omega) (by omega)).mono ?_; rintro e w' ⟨rfl, rfl⟩)
      have hst := r1.stored k (.int .i64 (rnd x1 16384))
      have hset : (ics (mapTo (rnd · 16384) (trf l) k)).set k (.int .i64 (rnd x1 16384)) = ics (mapTo (rnd · 16384) (trf l) (k + 1)) := by
        rw [← List.map_set, mapTo_set _ _ _ _ (by rw [H1.out])]
      rw [hset] at hst
      exact ⟨⟨k + 1, by omega, by go_num, hst.1, r2.setCell (by exact hg1) _⟩, by simp [intOf]; omega⟩
    · obtain rfl : k = l.length := by omega
      have e : mapTo (rnd · 16384) (trf l) l.length = spc l := by
        have := mapTo_all (rnd · 16384) (trf l)
        rw [HE.out] at this
        exact this
      rw [e] at r1
      clear e
      go_wp2_with fail
      go_ret
      exact ⟨A1, c1, by rw [spc_length]; rfl, by rw [spc_length]; exact r1, r2⟩

theorem spc_fill (l : List Int) : fillTo (fun q => rnd ((trf l)[q]?.getD 0) 16384) l.length l.length = spc l := by
  rw [fillTo_all]
  have := range_map_get (trf l) (rnd · 16384)
  rw [trf_length] at this
  exact this

end Go.Proofs.YtnflpnbpigcfhabDoor
/- copy into a row that the call owns whole; fitting, Padded, extended -/
namespace Go.Proofs.YtnflpnbpigcfhabDoor
open Go.RowKit Ear

theorem own_whole {w : World} {base : Nat} {e : TypeId} {n g : Nat} {xs : List Value} (h : w.ownsRow base e 1 (.slice (some ⟨g, 0, none⟩) n n) n xs) : base ≤ g ∧ xs.length = n ∧ w.heap[g]? = some (.cells xs.toArray e (0, 0)) := by
  obtain ⟨h1, h2⟩ := h
  rcases h2 with ⟨h2, _⟩ | ⟨g', cap, cur, hv, hb, hg, _, _, hs, ht⟩
  · cases h2
  · injection hv with e1 _ e3
    injection e1 with e1
    injection e1 with e1 _ _
    subst e1 e3
    rw [List.take_of_length_le (by simp; omega)] at ht
    subst ht
    exact ⟨hb, by simpa using h1, by simpa using hg⟩
theorem own_of_row {w : World} {base : Nat} {e : TypeId} {n g : Nat} {xs : List Value} (hb : base ≤ g) (hg : w.heap[g]? = some (.cells xs.toArray e (0, 0))) (hl : xs.length = n) (hm : n ≤ maxLen) : w.ownsRow base e 1 (.slice (some ⟨g, 0, none⟩) n n) n xs :=
  ⟨by omega, .inr ⟨g, n, xs.toArray, rfl, hb, hg, Nat.le_refl _, hm, by simp [hl], List.take_of_length_le (by simp; omega)⟩⟩

/-- copy of integers into a row that is owned whole -/
theorem wpList_copy_ints {w : World} {ops : Array Oper} {rest : List Oper} {o : Oper} {a : Act} {Q : Exit → Act → World → Prop} (hgd : o.guard = none) (d s : Operand)
    (ho : o.op = .call { callee := .builtin .copy, args := #[d, s], argTypes := #[22, 22] })
    (g n c : Nat) (A : Option Addr) (l ys : List Int) (hd : a.eval d = .slice (some ⟨g, 0, none⟩) n n) (hs : a.eval s = .slice A l.length c) (hl : l.length ≤ n) (base : Nat)
    (hown : w.ownsRow base 3 1 (.slice (some ⟨g, 0, none⟩) n n) n (ics ys)) (hm : n ≤ maxLen) (hlie : Lies w A (ics l)) (B : Nat) (w0 : World) (hb : Below B w0 w) (hBg : B ≤ g)
    (h : ∀ w', w'.ownsRow base 3 1 (.slice (some ⟨g, 0, none⟩) n n) n (ics (l ++ ys.drop l.length)) → Below B w0 w' → wpList Tryd.prog ops Q rest (a.put o.dst (goInt l.length)) w') :
    wpList Tryd.prog ops Q (o :: rest) a w := by
  obtain ⟨hbg, hyl, hrow⟩ := own_whole hown
  have hcl : (ics l).length = l.length := by simp
  have hsz : (Tryd.prog.info? 3).map (·.size) = some 1 := by kernel_rfl
  refine wpList_copy_splice hgd d s 22 22 ho 3 Tryd.underlying22 hsz (some ⟨g, 0, none⟩) A n n l.length c hd hs g 0 (ics ys) 3 hrow (ics l) (by rw [hcl]; exact (Nat.min_eq_left hl).symm) ?_ (by omega) (ics_one l) B w0 hb hBg ?_
  · intro h0
    obtain ⟨b, off, e, _, _⟩ := hlie h0
    exact ⟨rfl, ⟨b, off, none⟩, e, fun j v hv => (e ▸ hlie).cells_add j v hv⟩
  · intro w' hrow' hb'
    have e : splice (ics ys) 0 (ics l) = ics (l ++ ys.drop l.length) := by simp [splice]
    rw [e] at hrow'
    rw [hcl]
    refine h w' (own_of_row hbg hrow'.out ?_ hm) hb'
    simp at hyl ⊢
    omega

/-- a list with zeros added -/
def ext (l : List Int) (n : Nat) : List Int := l ++ List.replicate (n - l.length) 0
theorem ext_length {l : List Int} {n : Nat} (h : l.length ≤ n) : (ext l n).length = n := by simp [ext]; omega

end Go.Proofs.YtnflpnbpigcfhabDoor
/- fitting, Padded, cepstrum, Cepstrum and the reference's -/
namespace Go.Proofs.YtnflpnbpigcfhabDoor
open Go.RowKit Ear

/-- the least length of a transform that is at least m (m at most 64) -/
def fit (m : Nat) : Nat := if m ≤ 1 then 1 else if m ≤ 2 then 2 else if m ≤ 4 then 4 else if m ≤ 8 then 8 else if m ≤ 16 then 16 else if m ≤ 32 then 32 else 64
theorem fit_ok (m : Nat) : lenOk (fit m) = true := by
  unfold fit
  split
  · rfl
  · split
    · rfl
    · split
      · rfl
      · split
        · rfl
        · split
          · rfl
          · split <;> rfl
theorem fit_ge {m : Nat} (h : m ≤ 64) : m ≤ fit m := by
  unfold fit
  split
  · omega
  · split
    · omega
    · split
      · omega
      · split
        · omega
        · split
          · omega
          · split <;> omega
/-- how far the search is -/
def fitInv (m n : Nat) : Prop := n = 1 ∨ (n = 2 ∧ 1 < m) ∨ (n = 4 ∧ 2 < m) ∨ (n = 8 ∧ 4 < m) ∨ (n = 16 ∧ 8 < m) ∨ (n = 32 ∧ 16 < m) ∨ (n = 64 ∧ 32 < m)
theorem fitInv_next {m n : Nat} (h : fitInv m n) (h1 : n < m) (h2 : n < 64) : fitInv m (2 * n) := by unfold fitInv at *; omega
theorem fitInv_bd {m n : Nat} (h : fitInv m n) : 1 ≤ n ∧ n ≤ 64 := by unfold fitInv at *; omega
theorem fitInv_end {m n : Nat} (h : fitInv m n) (h1 : m ≤ n) : fit m = n := by
  unfold fitInv at h
  unfold fit
  split
  · omega
  · split
    · omega
    · split
      · omega
      · split
        · omega
        · split
          · omega
          · split <;> omega

set_option maxHeartbeats 400000 in
theorem fitting_any (m : Nat) (w : World) (hm : m ≤ 64) :
    Calls Tryd.prog 35 #[.int .i64 m] w fun e w' => e = .returned (.int .i64 (fit m : Nat)) ∧ w = w' := by
  go_enter Tryd.func35, Tryd.ntmps35
  go_wp2
  go_loop [3] (fun i => ∃ n : Nat, i = .int .i64 n ∧ Hid (fitInv m n)) (fun i => 64 - (intOf i).toNat)
  case atStart => exact ⟨1, rfl, Or.inl rfl⟩
  case round =>
    obtain ⟨n, rfl, hn⟩ := hrel
    have hb := fitInv_bd hn.out
    by_cases hlt : n < m
    · have hx := Lib.hid (fitInv_next hn.out hlt (by omega))
      go_wp2_with fail
      exact ⟨⟨2 * n, by go_num, hx⟩, by simp [intOf]; omega⟩
    · have hx := Lib.hid (fitInv_end hn.out (by omega))
      go_wp2_with fail
      go_ret
      exact ⟨by rw [hx.out]; rfl, rfl⟩

/-- what Padded answers -/
def pad (m : Nat) : Nat := if m ≤ 64 then fit m else 0
set_option maxHeartbeats 400000 in
theorem rPadded_any (m : Nat) (w : World) (hm : m ≤ 9223372036854775807) :
    Calls Tryd.prog 14 #[.int .i64 m] w fun e w' => e = .returned (.int .i64 (pad m : Nat)) ∧ w = w' := by
  go_enter Tryd.func14, Tryd.ntmps14
  go_wp2
  go_loop [3] (fun i => ∃ n : Nat, i = .int .i64 n ∧ Hid (fitInv m n)) (fun i => 64 - (intOf i).toNat)
  case atStart => exact ⟨1, rfl, Or.inl rfl⟩
  case round =>
    obtain ⟨n, rfl, hn⟩ := hrel
    have hb := fitInv_bd hn.out
    by_cases hlt : n < m
    · by_cases h64 : n < 64
      · have hx := Lib.hid (fitInv_next hn.out hlt (by omega))
        go_wp2_with fail
        exact ⟨⟨2 * n, by go_num, hx⟩, by simp [intOf]; omega⟩
      · have hx : Hid (pad m = 0) := by show pad m = 0; unfold pad; rw [if_neg (by omega)]
        go_wp2_with fail
        go_ret
        exact ⟨by rw [hx.out]; rfl, rfl⟩
    · have hx : Hid (pad m = n) := by show pad m = n; unfold pad; rw [if_pos (by omega)]; exact fitInv_end hn.out (by omega)
      go_wp2_with fail
      go_ret
      exact ⟨by rw [hx.out]; rfl, rfl⟩

/-- the post of a function that makes a list of which it hands on a part -/
def RetIntsL (out : List Int) (w : World) (e : Ending) (w' : World) : Prop :=
  ∃ A c, e = .returned (.slice A out.length c) ∧ Lies w' A (ics out) ∧ out.length ≤ c ∧ (A = none → c = 0) ∧ Below w.heap.size w w'
/-- the block is one of integers -/
def TyI (w : World) (A : Option Addr) : Prop := ∀ b off, A = some ⟨b, off, none⟩ → ∃ cur fr, w.heap[b]? = some (.cells cur 3 fr)
theorem TyI.of_own {w : World} {base size n c : Nat} {A : Option Addr} {xs : List Value} (h : w.ownsRow base 3 size (.slice A n c) n xs) : TyI w A := fun b off e => by
  rcases h.2 with ⟨e1, _⟩ | ⟨g, cap, cur, e1, _, hg, _⟩
  · injection e1 with e2; rw [e2] at e; cases e
  · injection e1 with e2
    rw [e2] at e
    injection e with e3
    injection e3 with e4
    subst e4
    exact ⟨cur, _, hg⟩
def RetIntsT (out : List Int) (w : World) (e : Ending) (w' : World) : Prop :=
  ∃ A c, e = .returned (.slice A out.length c) ∧ Lies w' A (ics out) ∧ out.length ≤ c ∧ (A = none → c = 0) ∧ TyI w' A ∧ Below w.heap.size w w'
theorem RetIntsT.l {out : List Int} {w w' : World} {e : Ending} (h : RetIntsT out w e w') : RetIntsL out w e w' := by
  obtain ⟨A, c, h1, h2, h3, h4, _, h5⟩ := h
  exact ⟨A, c, h1, h2, h3, h4, h5⟩
def IntsErrL (err : Int) (out : List Int) (w : World) (e : Ending) (w' : World) : Prop :=
  ∃ A c, e = .returned (.tuple #[.slice A out.length c, .int .i64 err]) ∧ Lies w' A (ics out) ∧ Below w.heap.size w w'
/-- the cepstrum -/
def cep (l : List Int) (n : Nat) : List Int := (spc (ext l (fit l.length))).take n
theorem cep_length {l : List Int} {n : Nat} (hl : l.length ≤ 64) (hn : n ≤ fit l.length) : (cep l n).length = n := by
  rw [cep, List.length_take, spc_length, ext_length (fit_ge hl)]; omega
theorem ext_all {l : List Int} {n : Nat} (h : allR (-65536) 65536 l = true) : allR (-65536) 65536 (ext l n) = true := by
  apply allR_of
  intro x hx
  rcases List.mem_append.1 hx with hx | hx
  · exact allR_mem h hx
  · have := List.eq_of_mem_replicate hx; omega
set_option maxRecDepth 100000 in
set_option maxHeartbeats 400000 in
theorem cepstrum_t (A : Option Addr) (c : Nat) (l : List Int) (n : Nat) (w : World) (h : Lies w A (ics l)) (hC : CosOk w) (hl : l.length ≤ 64) (hn : n ≤ fit l.length) (hv : Hid (allR (-65536) 65536 l = true)) :
    Calls Tryd.prog 36 #[.slice A l.length c, .int .i64 n] w (RetIntsT (cep l n) w) := by
  have hf := lenOk_bd (fit_ok l.length)
  have hge := fit_ge hl
  have HE := Lib.hid (ext_length hge)
  have HO := Lib.hid (fit_ok l.length)
  have hlc := Lib.hid (cep_length hl hn)
  have hm : fit l.length ≤ maxLen := by unfold maxLen; omega
  go_enter Tryd.func36, Tryd.ntmps36
  go_wp2_with fail
  refine (fitting_any l.length w hl).mono ?_
  rintro e w' ⟨rfl, rfl⟩
  obtain ⟨w1, hmk, ho1, hb1⟩ := make_ints w (fit l.length) (by omega) w.heap.size (Nat.le_refl _)
  have hcd : cep l n = (spc (ext l (fit l.length))).take n := rfl
  have HCD := Lib.hid hcd
  clear hcd
  generalize fit l.length = m at *
  have L1 := Lib.hid (h.below hb1)
  have C1 := Lib.hid (hC.below hb1)
  obtain ⟨g, hg⟩ : ∃ g, g = w.heap.size := ⟨_, rfl⟩
  rw [← hg] at ho1 hmk
  have HG : Hid (w.heap.size ≤ g) := by show _ ≤ _; omega
  clear hg
  go_wp2_with (with_reducible refine wpList_copy_ints rfl _ _ rfl g m c A l (List.replicate m 0) rfl rfl hge g ho1 hm L1.out w.heap.size w hb1 HG.out ?_; intro w2 ho2 hb2)
  have e : l ++ (List.replicate m 0).drop l.length = ext l m := by simp [ext]
  rw [e] at ho2
  have L2 := Lib.hid (Lies.of_own ho2)
  have C2 := Lib.hid (hC.below hb2)
  have hcall := spectrum_any (some ⟨g, 0, none⟩) m (ext l m) w2 L2.out C2.out (by rw [HE.out]; exact HO.out) (Lib.hid (ext_all hv.out))
  rw [HE.out] at hcall
  clear e L1 C1 ho1
  go_wp2_with fail
  refine hcall.mono ?_
  rintro e w3 ⟨A3, c3, rfl, ho3, hb3⟩
  rw [spc_length, HE.out] at ho3 ⊢
  have L3 := Lib.hid (Lies.of_own ho3)
  have HTY := Lib.hid (TyI.of_own ho3)
  have hc3 := own_cap ho3
  obtain ⟨g3, cap3, hform, _, _⟩ := ho3.form (by omega)
  obtain ⟨rfl, rfl⟩ : A3 = some ⟨g3, 0, none⟩ ∧ c3 = cap3 := by injection hform with e1 _ e3; exact ⟨e1, e3⟩
  clear hform
  go_wp2_with fail
  go_ret
  exact ⟨_, n, by rw [hlc.out]; rfl, by rw [HCD.out, ics, List.map_take]; exact L3.out.take n, by rw [hlc.out]; exact Nat.le_refl _, (fun e => by cases e), HTY.out, hb2.trans (hb3.mono hb2.size)⟩
theorem cepstrum_any (A : Option Addr) (c : Nat) (l : List Int) (n : Nat) (w : World) (h : Lies w A (ics l)) (hC : CosOk w) (hl : l.length ≤ 64) (hn : n ≤ fit l.length) (hv : Hid (allR (-65536) 65536 l = true)) :
    Calls Tryd.prog 36 #[.slice A l.length c, .int .i64 n] w (RetIntsL (cep l n) w) :=
  (cepstrum_t A c l n w h hC hl hn hv).mono fun _ _ h => h.l
end Go.Proofs.YtnflpnbpigcfhabDoor
/- Cepstrum and the reference's Cepstrum -/
namespace Go.Proofs.YtnflpnbpigcfhabDoor
open Go.RowKit Ear

/-- what Cepstrum takes -/
def cepOk (l : List Int) (n : Int) : Prop := 1 ≤ l.length ∧ l.length ≤ 64 ∧ allR (-65536) 65536 l = true ∧ 1 ≤ n ∧ n ≤ (fit l.length : Nat)

set_option maxHeartbeats 400000 in
theorem Cepstrum_no (A : Option Addr) (c : Nat) (l : List Int) (n : Int) (w : World) (h : Lies w A (ics l)) (hn : l.length ≤ 9223372036854775807) (ho : ¬ cepOk l n) :
    Calls Tryd.prog 17 #[.slice A l.length c, .int .i64 n] w (IntsErrL 2 [] w) := by
  by_cases h1 : 1 ≤ l.length
  · by_cases h2 : l.length ≤ 64
    · cases h3 : allR (-65536) 65536 l with
      | false =>
        have H3 := Lib.hid h3
        clear h3 ho
        go_enter Tryd.func17, Tryd.ntmps17
        go_wp2_with fail
        refine (within_any A c l 65536 _ h hn (by omega) (by omega) false H3).mono ?_
        rintro e w1 ⟨rfl, hb1⟩
        go_wp2_with fail
        go_ret2
        exact ⟨none, 0, rfl, Lies.nil _ _, hb1⟩
      | true =>
        have H3 := Lib.hid h3
        have hf : ¬ (1 ≤ n ∧ n ≤ (fit l.length : Nat)) := fun hh => ho ⟨h1, h2, h3, hh⟩
        clear h3 ho
        by_cases h4 : 1 ≤ n
        · have h5 : (fit l.length : Int) < n := by omega
          have hb := lenOk_bd (fit_ok l.length)
          clear hf
          go_enter Tryd.func17, Tryd.ntmps17
          go_wp2_with fail
          refine (within_any A c l 65536 _ h hn (by omega) (by omega) true H3).mono ?_
          rintro e w1 ⟨rfl, hb1⟩
          go_wp2_with fail
          refine (fitting_any l.length _ h2).mono ?_
          rintro e w' ⟨rfl, rfl⟩
          go_wp2_with fail
          go_ret2
          exact ⟨none, 0, rfl, Lies.nil _ _, hb1⟩
        · clear hf
          go_enter Tryd.func17, Tryd.ntmps17
          go_wp2_with fail
          refine (within_any A c l 65536 _ h hn (by omega) (by omega) true H3).mono ?_
          rintro e w1 ⟨rfl, hb1⟩
          go_wp2_with fail
          go_ret2
          exact ⟨none, 0, rfl, Lies.nil _ _, hb1⟩
    · clear ho
      go_enter Tryd.func17, Tryd.ntmps17
      go_wp2_with fail
      go_ret2
      exact ⟨none, 0, rfl, Lies.nil _ _, Below.refl _ _⟩
  · clear ho
    go_enter Tryd.func17, Tryd.ntmps17
    go_wp2_with fail
    go_ret2
    exact ⟨none, 0, rfl, Lies.nil _ _, Below.refl _ _⟩

set_option maxHeartbeats 400000 in
theorem Cepstrum_ok (A : Option Addr) (c : Nat) (l : List Int) (n : Nat) (w : World) (h : Lies w A (ics l)) (hC : CosOk w) (ho : cepOk l n) :
    Calls Tryd.prog 17 #[.slice A l.length c, .int .i64 n] w (IntsErrL 0 (cep l n) w) := by
  obtain ⟨h1, h2, h3, h4, h5⟩ := ho
  have H3 := Lib.hid h3
  have hlc := Lib.hid (cep_length h2 (n := n) (by omega))
  have hb := lenOk_bd (fit_ok l.length)
  clear h3
  go_enter Tryd.func17, Tryd.ntmps17
  go_wp2_with fail
  refine (within_any A c l 65536 _ h (by omega) (by omega) (by omega) true H3).mono ?_
  rintro e w1 ⟨rfl, hb1⟩
  have L1 := Lib.hid (h.below hb1)
  have C1 := Lib.hid (hC.below hb1)
  go_wp2_with fail
  refine (fitting_any l.length _ h2).mono ?_
  rintro e w' ⟨rfl, rfl⟩
  go_wp2_with fail
  refine (cepstrum_any A c l n _ L1.out C1.out h2 (by omega) H3).mono ?_
  rintro e w2 ⟨A2, c2, rfl, L2, hc2, _, hb2⟩
  rw [hlc.out]
  go_wp2_with fail
  go_ret2
  exact ⟨A2, c2, by rw [hlc.out]; rfl, L2, hb1.trans (hb2.mono hb1.size)⟩

end Go.Proofs.YtnflpnbpigcfhabDoor
/- Plain facts: the inverse transform -/
namespace Ear

/-- the first terms of the i-th number of the inverse transform -/
def invS (t : List Int) (n i : Nat) : Nat → Int
  | 0 => 16384 * t[0]?.getD 0
  | k + 1 => invS t n i k + 2 * t[k + 1]?.getD 0 * cosC ((2 * i + 1) * (k + 1) * 64 / n)
def invAt (t : List Int) (i : Nat) : Int := rnd (invS t t.length i (t.length - 1)) (t.length * 268435456 : Nat)
def inv (t : List Int) : List Int := (List.range t.length).map (invAt t)
theorem inv_length (t : List Int) : (inv t).length = t.length := by simp [inv]
theorem invS_bd {t : List Int} (h : allR (-1099511627776) 1099511627776 t = true) (n i : Nat) : ∀ k : Nat, -(18014398509481984 + (k : Int) * 36028797018963968) ≤ invS t n i k ∧ invS t n i k ≤ 18014398509481984 + (k : Int) * 36028797018963968 := by
  intro k
  induction k with
  | zero =>
    have := all_at (d := 1099511627776) (by omega) h 0
    simp only [invS]
    omega
  | succ k ih =>
    have hx := all_at (d := 1099511627776) (by omega) h (k + 1)
    have hc := cosC_bd ((2 * i + 1) * (k + 1) * 64 / n)
    have hm := mul_abs (A := 2199023255552) (x := 2 * t[k + 1]?.getD 0) (by omega) (by omega) hc.1 hc.2
    have e : ((k + 1 : Nat) : Int) * 36028797018963968 = (k : Int) * 36028797018963968 + 36028797018963968 := by
      rw [Int.natCast_add, Int.add_mul]; simp
    rw [e]
    simp only [invS]
    omega
theorem invS_bd64 {t : List Int} (h : allR (-1099511627776) 1099511627776 t = true) (n i k : Nat) (hk : k ≤ 63) : -2287828610704211968 ≤ invS t n i k ∧ invS t n i k ≤ 2287828610704211968 := by
  have := invS_bd h n i k
  omega
end Ear
namespace Ear
theorem invS_succ (t : List Int) (n i m : Nat) (hm : 1 ≤ m) : invS t n i m = invS t n i (m - 1) + 2 * t[m]?.getD 0 * cosC ((2 * i + 1) * m * 64 / n) := by
  obtain ⟨k, rfl⟩ : ∃ k, m = k + 1 := ⟨m - 1, by omega⟩
  rfl
end Ear
/- Inverse and the reference's Inverse -/
namespace Go.Proofs.YtnflpnbpigcfhabDoor
open Go.RowKit Ear

set_option maxHeartbeats 400000 in
theorem Inverse_no (A : Option Addr) (c : Nat) (l : List Int) (w : World) (h : Lies w A (ics l)) (hn : l.length ≤ 9223372036854775807) (ho : ¬ (lenOk l.length = true ∧ allR (-1099511627776) 1099511627776 l = true)) :
    Calls Tryd.prog 16 #[.slice A l.length c] w (IntsErr 2 [] w) := by
  cases h1 : lenOk l.length with
  | false =>
    have H1 := Lib.hid h1
    clear h1 ho
    go_enter Tryd.func16, Tryd.ntmps16
    go_wp2_with fail
    refine (possible_any l.length _ hn false H1).mono ?_
    rintro e w' ⟨rfl, rfl⟩
    go_wp2_with fail
    go_ret2
    exact ⟨none, 0, rfl, World.ownsRow_nil _ _ _ _, Below.refl _ _⟩
  | true =>
    cases h2 : allR (-1099511627776) 1099511627776 l with
    | false =>
      have H1 := Lib.hid h1
      have H2 := Lib.hid h2
      clear h1 h2 ho
      go_enter Tryd.func16, Tryd.ntmps16
      go_wp2_with fail
      refine (possible_any l.length _ hn true H1).mono ?_
      rintro e w' ⟨rfl, rfl⟩
      go_wp2_with fail
      refine (within_any A c l 1099511627776 _ h hn (by omega) (by omega) false H2).mono ?_
      rintro e w1 ⟨rfl, hb1⟩
      go_wp2_with fail
      go_ret2
      exact ⟨none, 0, rfl, World.ownsRow_nil _ _ _ _, hb1⟩
    | true => exact absurd ⟨h1, h2⟩ ho

theorem below_drewN' {B : Nat} (w : World) (n : Nat) : Below B w (w.drewN n) := ⟨rfl, rfl, rfl, Nat.le_refl _, fun _ _ => rfl⟩

set_option maxRecDepth 100000 in
set_option maxHeartbeats 1000000 in
theorem Inverse_ok (A : Option Addr) (c : Nat) (l : List Int) (w : World) (h : Lies w A (ics l)) (hC : CosOk w) (hn : lenOk l.length = true) (hv : Hid (allR (-1099511627776) 1099511627776 l = true)) :
    Calls Tryd.prog 16 #[.slice A l.length c] w (IntsErr 0 (inv l) w) := by
  have hlen := lenOk_bd hn
  have H1 := Lib.hid hn
  clear hn
  go_enter Tryd.func16, Tryd.ntmps16
  go_wp2_with fail
  refine (possible_any l.length _ (by omega) true H1).mono ?_
  rintro e w' ⟨rfl, rfl⟩
  go_wp2_with fail
  refine (within_any A c l 1099511627776 _ h (by omega) (by omega) (by omega) true hv).mono ?_
  rintro e w1 ⟨rfl, hb1⟩
  obtain ⟨w2, hmk, ho2, hb2⟩ := make_ints w1 l.length (by omega) w1.heap.size (Nat.le_refl _)
  have B2 := Lib.hid (hb1.trans (hb2.mono hb1.size))
  obtain ⟨g, hg⟩ : ∃ g, g = w1.heap.size := ⟨_, rfl⟩
  rw [← hg] at ho2 hmk
  have HG : Hid (w.heap.size ≤ g) := by show _ ≤ _; have := hb1.size; omega
  clear hg hb1 hb2
  go_wp2_with fail
  clear hmk
  go_loopw [6, 7, 8, 23] (fun _ _ _ i wr => ∃ k : Nat, k ≤ l.length ∧ i = .int .i64 k ∧ wr.ownsRow g 3 1 (.slice (some ⟨g, 0, none⟩) l.length l.length) l.length (ics (fillTo (invAt l) l.length k)) ∧ Below w.heap.size w wr) (fun _ _ _ i _ => l.length - (intOf i).toNat)
  case atStart => exact ⟨0, by omega, rfl, by rw [fillTo_zero]; exact ho2, B2.out⟩
  case round =>
    obtain ⟨k, hk, rfl, r1, r2⟩ := hrel
    by_cases hlt : k < l.length
    · obtain ⟨b0, o0, rfl, hb0, hc0⟩ := (h.below r2).at_ (k := 0) (by omega)
      have t0 := all_at (l := l) (d := 1099511627776) (by omega) hv.out 0
      have hz : Hid (invS l l.length k 0 = 16384 * l[0]?.getD 0) := rfl
      generalize hx0 : l[0]?.getD 0 = x0 at *
      clear hx0
      rw [Nat.add_zero] at hc0
      go_wp2_with fail
      go_loopw [7, 8] (fun s i wr' => ∃ m : Nat, 1 ≤ m ∧ m ≤ l.length ∧ i = .int .i64 m ∧ s = .int .i64 (invS l l.length k (m - 1)) ∧ ∃ d, wr' = wr.drewN d) (fun _ i _ => l.length - (intOf i).toNat)
      case atStart => exact ⟨1, by omega, by omega, rfl, by rw [show 1 - 1 = 0 from rfl, hz.out], 0, rfl⟩
      case round =>
        obtain ⟨m, hm1, hm, rfl, rfl, d, rfl⟩ := hrel
        by_cases hlm : m < l.length
        · obtain ⟨bk, off, eA, hb, hc⟩ := (h.below r2).at_ hlm
          cases eA
          have hc' : (wr.drewN d).cell? ⟨b0, o0 + m, none⟩ = some (.int .i64 (l[m]?.getD 0)) := hc
          have C' : CosOk (wr.drewN d).drew := Lies.drew (Lies.drewN (hC.below r2) d)
          generalize hwd : wr.drewN d = wd at *
          have WD := Lib.hid hwd
          clear hwd hc
          have b1 := all_at (l := l) (d := 1099511627776) (by omega) hv.out m
          have b2 := invS_bd64 hv.out l.length k (m - 1) (by omega)
          have b3 := invS_bd64 hv.out l.length k m (by omega)
          have e3 := invS_succ l l.length k m hm1
          obtain ⟨J, hJ⟩ : ∃ J : Nat, J = (2 * k + 1) * m := ⟨_, rfl⟩
          rw [← hJ] at e3
          have eJ : (2 * (k : Int) + 1) * (m : Int) = (J : Int) := by rw [hJ]; simp
          have bJ : J ≤ 129 * 64 := by rw [hJ]; exact Nat.mul_le_mul (by omega) (by omega)
          have eQ : Int.tdiv ((J : Int) * 64) (l.length : Int) = ((J * 64 / l.length : Nat) : Int) := rfl
          have bc := cosC_bd (J * 64 / l.length)
          have bQ : J * 64 / l.length ≤ J * 64 := Nat.div_le_self _ _
          have n0 : ¬ l = [] := fun e => by rw [e] at hlm; simp at hlm
          generalize hx1 : l[m]?.getD 0 = x1 at *
          generalize hx2 : invS l l.length k (m - 1) = x2 at *
          generalize hx3 : invS l l.length k m = x3 at *
          generalize J * 64 / l.length = Q at *
          generalize hx4 : cosC Q = x4 at *
          have p1 : IntKind.i64.wrap (2 * (k : Int)) = 2 * (k : Int) := IntWalk.i64_in _ (by omega)
          have p2 : IntKind.i64.wrap (2 * (k : Int) + 1) = 2 * (k : Int) + 1 := IntWalk.i64_in _ (by omega)
          have p3 : IntKind.i64.wrap (J : Int) = (J : Int) := IntWalk.i64_in _ (by omega)
          have p4 : IntKind.i64.wrap ((J : Int) * 64) = (J : Int) * 64 := IntWalk.i64_in _ (by omega)
          have p5 : IntKind.i64.wrap (Q : Int) = (Q : Int) := IntWalk.i64_in _ (by omega)
          have m0 := mul_abs (A := 2199023255552) (B := 16384) (x := 2 * x1) (by omega) (by omega) bc.1 bc.2
          have p8 : IntKind.i64.wrap (2 * x1) = 2 * x1 := IntWalk.i64_in _ (by omega)
          have p6 : IntKind.i64.wrap (2 * x1 * x4) = 2 * x1 * x4 := IntWalk.i64_in _ (by omega)
          have p7 : IntKind.i64.wrap (x2 + 2 * x1 * x4) = x2 + 2 * x1 * x4 := IntWalk.i64_in _ (by omega)
          have H1 := Lib.hid hx1
          have H2 := Lib.hid hx2
          have H3 := Lib.hid hx3
          have H4 := Lib.hid hx4
          have E3 := Lib.hid e3
          clear hx1 hx2 hx3 hx4 e3 hJ b2 b3 bc m0 b1
          go_wp2_with fail
          refine wp_region_still_lit (by kernel_rfl) (by kernel_rfl) ?_
          repeat still_step
          still_call (still_of (cosine_any _ Q rfl _ C'))
          rw [H4.out]
          repeat still_step
          refine wpStill_nil ?_
          go_wp2_with fail
          exact ⟨⟨m + 1, by omega, by omega, by go_num, by rw [Nat.add_sub_cancel, H3.out, E3.out], d + 1, by rw [← WD.out]; rfl⟩, by simp [intOf]; omega⟩
        · obtain rfl : m = l.length := by omega
          have s1 : (wr.drewN d).ownsRow g 3 1 (.slice (some ⟨g, 0, none⟩) l.length l.length) l.length (ics (fillTo (invAt l) l.length k)) := r1
          have s2 : Below w.heap.size w (wr.drewN d) := r2.trans (below_drewN' _ _)
          have b3 := invS_bd64 hv.out l.length k (l.length - 1) (by omega)
          have HX : Hid (rnd (invS l l.length k (l.length - 1)) (l.length * 268435456 : Nat) = invAt l k) := rfl
          generalize wr.drewN d = wd at *
          generalize invS l l.length k (l.length - 1) = x at *
          go_wp2_with fail
          refine (far_any x ((l.length : Int) * 268435456) _ (by omega) (by omega) (by omega) (by omega)).mono ?_
          rintro e w' ⟨rfl, d2, rfl⟩
          have z1 : (wd.drewN d2).ownsRow g 3 1 (.slice (some ⟨g, 0, none⟩) l.length l.length) l.length (ics (fillTo (invAt l) l.length k)) := s1
          have z2 : Below w.heap.size w (wd.drewN d2) := s2.trans (below_drewN' _ _)
          have q1 : (wd.drewN d2).cell? ⟨g, k, none⟩ = some (.int .i64 0) := by
            rw [z1.cellAt k (by omega)]; simp only [List.getElem?_map, fillTo_get _ l.length k hlt]; rfl
          have q2 : (wd.drewN d2).frozen? ⟨g, k, none⟩ = false := z1.frozenAt k
          have e0 : ((l.length * 268435456 : Nat) : Int) = (l.length : Int) * 268435456 := by simp
          rw [e0] at HX
          clear e0 s1 s2 r1 r2
          generalize wd.drewN d2 = wz at *
          generalize rnd x ((l.length : Int) * 268435456) = y at *
          go_wp2_with fail
          have hst := z1.stored k (.int .i64 y)
          have hset : (ics (fillTo (invAt l) l.length k)).set k (.int .i64 y) = ics (fillTo (invAt l) l.length (k + 1)) := by
            rw [← List.map_set, fillTo_set _ _ _ _ HX.out]
          rw [hset] at hst
          exact ⟨⟨k + 1, by omega, by go_num, hst.1, z2.setCell (by exact HG.out) _⟩, by simp [intOf]; omega⟩
    · obtain rfl : k = l.length := by omega
      rw [fillTo_all] at r1
      go_wp2_with fail
      go_ret2
      exact ⟨_, _, by rw [inv_length]; rfl, by rw [inv_length]; exact ownsRow_le r1 HG.out, r2⟩

end Go.Proofs.YtnflpnbpigcfhabDoor
/- Plain facts: numbers in digits of 32 bits; the logarithm -/
namespace Ear

abbrev BB : Int := 4294967296
/-- the value of digits -/
def vl : List Int → Int
  | [] => 0
  | d :: l => d + BB * vl l
/-- all are digits -/
def dgs (l : List Int) : Prop := ∀ x ∈ l, 0 ≤ x ∧ x ≤ 4294967295
theorem BB_pos (k : Nat) : 0 < BB ^ k := Int.pow_pos (by decide)
theorem BB_succ (k : Nat) : BB ^ (k + 1) = BB * BB ^ k := by rw [Int.pow_succ, Int.mul_comm]
theorem vl_append (a b : List Int) : vl (a ++ b) = vl a + BB ^ a.length * vl b := by
  induction a with
  | nil => simp [vl]
  | cons d a ih => rw [List.cons_append, vl, vl, ih, List.length_cons, BB_succ, Int.mul_add, Int.mul_assoc, Int.add_assoc]
theorem vl_take_succ (l : List Int) (k : Nat) (hk : k < l.length) : vl (l.take (k + 1)) = vl (l.take k) + BB ^ k * l[k]?.getD 0 := by
  rw [List.take_succ_eq_append_getElem hk, vl_append, List.getElem?_eq_getElem hk, List.length_take, Nat.min_eq_left (by omega)]
  simp [vl]
theorem vl_replicate (n : Nat) : vl (List.replicate n 0) = 0 := by
  induction n with
  | zero => rfl
  | succ n ih => rw [List.replicate_succ, vl, ih]; rfl
theorem vl_set (l : List Int) (k : Nat) (v : Int) (hk : k < l.length) : vl (l.set k v) = vl l + BB ^ k * (v - l[k]?.getD 0) := by
  induction l generalizing k with
  | nil => simp at hk
  | cons d l ih =>
    cases k with
    | zero => simp [vl]; omega
    | succ k =>
      rw [List.set_cons_succ, vl, vl, ih k (by simpa using hk), BB_succ, List.getElem?_cons_succ, Int.mul_add, Int.mul_assoc, Int.add_assoc]
theorem vl_bd {l : List Int} (h : dgs l) : 0 ≤ vl l ∧ vl l < BB ^ l.length := by
  induction l with
  | nil => simp [vl]
  | cons d l ih =>
    have h1 := h d (List.mem_cons_self ..)
    have h2 := ih fun x hx => h x (List.mem_cons_of_mem _ hx)
    rw [vl, List.length_cons, BB_succ]
    have h3 : BB * (vl l + 1) ≤ BB * BB ^ l.length := Int.mul_le_mul_of_nonneg_left (by omega) (by decide)
    have h4 : 0 ≤ BB * vl l := Int.mul_nonneg (by decide) h2.1
    rw [Int.mul_add] at h3
    simp only [BB] at *
    omega
theorem dgs_at {l : List Int} (h : dgs l) (k : Nat) : 0 ≤ l[k]?.getD 0 ∧ l[k]?.getD 0 ≤ 4294967295 := by
  by_cases hk : k < l.length
  · rw [List.getElem?_eq_getElem hk]; exact h _ (List.getElem_mem hk)
  · rw [List.getElem?_eq_none (by omega)]; simp
theorem dgs_set {l : List Int} (h : dgs l) (k : Nat) {v : Int} (h0 : 0 ≤ v) (h1 : v ≤ 4294967295) : dgs (l.set k v) := by
  intro x hx
  rcases List.mem_or_eq_of_mem_set hx with h2 | h2
  · exact h x h2
  · omega
theorem dgs_replicate (n : Nat) : dgs (List.replicate n 0) := by
  intro x hx; have := List.eq_of_mem_replicate hx; omega
theorem dgs_take {l : List Int} (h : dgs l) (k : Nat) : dgs (l.take k) := fun x hx => h x (List.mem_of_mem_take hx)
/-- zeros from k on -/
def zer (l : List Int) (k : Nat) : Prop := ∀ q, k ≤ q → l[q]?.getD 0 = 0
theorem vl_zer {l : List Int} {k : Nat} (h : zer l k) : vl l = vl (l.take k) := by
  have e : l = l.take k ++ l.drop k := (List.take_append_drop k l).symm
  have hz : vl (l.drop k) = 0 := by
    have : l.drop k = List.replicate (l.drop k).length 0 := by
      apply List.ext_getElem (by simp)
      intro q h1 h2
      have := h (k + q) (by omega)
      rw [List.getElem?_eq_getElem (by simp at h1; omega)] at this
      simpa using this
    rw [this, vl_replicate]
  conv => lhs; rw [e]
  rw [vl_append, hz]; simp
/-- a row of the product: before a digit -/
structure SqIn (a out : List Int) (i j : Nat) (c : Int) : Prop where
  len : out.length = 2 * a.length
  dig : dgs out
  zer : zer out (i + a.length)
  c0 : 0 ≤ c
  c1 : c ≤ 4294967295
  val : vl out + BB ^ (i + j) * c = vl (a.take i) * vl a + BB ^ i * (a[i]?.getD 0 * vl (a.take j))
theorem sq_prod {x y : Int} (hx : 0 ≤ x ∧ x ≤ 4294967295) (hy : 0 ≤ y ∧ y ≤ 4294967295) : 0 ≤ x * y ∧ x * y ≤ 18446744065119617025 := by
  have h1 := Int.mul_nonneg hx.1 hy.1
  have h2 : x * y ≤ 4294967295 * 4294967295 := Int.mul_le_mul hx.2 hy.2 hy.1 (by decide)
  omega
theorem SqIn.next {a out : List Int} {i j : Nat} {c : Int} (h : SqIn a out i j c) (ha : dgs a) (hi : i < a.length) (hj : j < a.length) {t : Int} (ht : t = c + (out[i + j]?.getD 0 + a[i]?.getD 0 * a[j]?.getD 0)) :
    SqIn a (out.set (i + j) (t % 4294967296)) i (j + 1) (t / 4294967296) := by
  have hx := dgs_at ha i
  have hy := dgs_at ha j
  have hp := sq_prod hx hy
  have ho := dgs_at h.dig (i + j)
  have h0 := h.c0
  have h1 := h.c1
  refine ⟨by simp [h.len], dgs_set h.dig _ (by omega) (by omega), ?_, by omega, by omega, ?_⟩
  · intro q hq
    rw [List.getElem?_set_ne (by omega)]
    exact h.zer q hq
  · rw [vl_set _ _ _ (by rw [h.len]; omega), vl_take_succ a j hj]
    have hv := h.val
    have hd := Int.mul_ediv_add_emod t 4294967296
    have e1 : BB ^ (i + (j + 1)) * (t / 4294967296) = BB ^ (i + j) * (BB * (t / 4294967296)) := by
      rw [← Nat.add_assoc, Int.pow_succ, Int.mul_assoc]
    have e2 : BB * (t / 4294967296) = t - t % 4294967296 := by simp only [BB]; omega
    have e3 : BB ^ i * (a[i]?.getD 0 * (vl (a.take j) + BB ^ j * a[j]?.getD 0)) = BB ^ i * (a[i]?.getD 0 * vl (a.take j)) + BB ^ (i + j) * (a[i]?.getD 0 * a[j]?.getD 0) := by
      rw [Int.mul_add, Int.mul_add, Int.pow_add]
      congr 1
      rw [Int.mul_assoc, ← Int.mul_assoc (a[i]?.getD 0), Int.mul_comm (a[i]?.getD 0) (BB ^ j), Int.mul_assoc]
    rw [e1, e2, e3]
    have e4 : BB ^ (i + j) * (t % 4294967296 - out[i + j]?.getD 0) + BB ^ (i + j) * (t - t % 4294967296) = BB ^ (i + j) * c + BB ^ (i + j) * (a[i]?.getD 0 * a[j]?.getD 0) := by
      rw [← Int.mul_add, ← Int.mul_add]
      congr 1
      omega
    omega
/-- a row of the product: between rows -/
structure SqOut (a out : List Int) (i : Nat) : Prop where
  len : out.length = 2 * a.length
  dig : dgs out
  zer : zer out (i + a.length)
  val : vl out = vl (a.take i) * vl a
theorem SqOut.start (a : List Int) : SqOut a (List.replicate (2 * a.length) 0) 0 := by
  refine ⟨by simp, dgs_replicate _, fun q _ => ?_, by rw [vl_replicate]; simp [vl]⟩
  by_cases hq : q < 2 * a.length
  · rw [List.getElem?_eq_getElem (by simpa using hq)]; simp
  · rw [List.getElem?_eq_none (by simpa using Nat.le_of_not_lt hq)]; rfl
theorem SqOut.enter {a out : List Int} {i : Nat} (h : SqOut a out i) : SqIn a out i 0 0 :=
  ⟨h.len, h.dig, h.zer, by omega, by omega, by rw [h.val]; simp [vl]⟩
theorem SqIn.leave {a out : List Int} {i : Nat} {c : Int} (h : SqIn a out i a.length c) (hi : i < a.length) : SqOut a (out.set (i + a.length) c) (i + 1) := by
  refine ⟨by simp [h.len], dgs_set h.dig _ h.c0 h.c1, ?_, ?_⟩
  · intro q hq
    rw [List.getElem?_set_ne (by omega)]
    exact h.zer q (by omega)
  · have hv := h.val
    rw [List.take_length] at hv
    rw [vl_set _ _ _ (by rw [h.len]; omega), h.zer _ (Nat.le_refl _), vl_take_succ a i hi, Int.sub_zero, hv, Int.add_mul, Int.mul_assoc]
theorem SqOut.done {a out : List Int} (h : SqOut a out a.length) : vl out = vl a * vl a := by
  rw [h.val, List.take_length]
end Ear
/- square: a number in digits of 32 bits, times itself -/
namespace Go.Proofs.YtnflpnbpigcfhabDoor
open Go.RowKit Ear

/-- digits as cells -/
abbrev ucs (l : List Int) : List Value := l.map (Value.int .u32)
theorem u32_info : (Tryd.prog.info? 76).map (fun i => (i.zero, i.size, i.bytes)) = some (some (.int .u32 0), 1, 4) := by kernel_rfl
theorem made_u32 (n : Nat) : (madeCells (Value.int .u32 0).cells (n * 1)).toList = ucs (List.replicate n 0) := by
  apply List.ext_getElem (by simp [madeCells])
  intro k h1 h2
  simp [madeCells, Value.cells, Nat.mod_one]
/-- make([]uint32, n) -/
theorem make_u32 (w : World) (n : Nat) (hn : n ≤ 1000000000) (base : Nat) (hb : base ≤ w.heap.size) :
    ∃ w', (Instr.makeSlice 77 (.int .i64 (n : Int)) (.int .i64 (n : Int))).run Tryd.prog w = .ok (.slice (some ⟨w.heap.size, 0, none⟩) n n) w' ∧
      w'.ownsRow base 76 1 (.slice (some ⟨w.heap.size, 0, none⟩) n n) n (ucs (List.replicate n 0)) ∧ Below w.heap.size w w' := by
  obtain ⟨i0, hi0, hz0, hz1, hz2⟩ := info_parts u32_info
  obtain ⟨w', h1, h2, h3⟩ := run_make_full (P := Tryd.prog) w base 77 76 i0 _ 1 Tryd.underlying77 hi0 hz0 hz1 .i64 .i64 n (by rw [hz2]; omega) (by unfold maxLen; omega) hb
  rw [made_u32] at h2
  exact ⟨w', h1, h2, below_none h3⟩
theorem Lies.uat {w : World} {A : Option Addr} {l : List Int} (h : Lies w A (ucs l)) {k : Nat} (hk : k < l.length) :
    ∃ b off, A = some ⟨b, off, none⟩ ∧ b < w.heap.size ∧ w.cell? ⟨b, off + k, none⟩ = some (.int .u32 (l[k]?.getD 0)) := by
  obtain ⟨b, off, e, hb, hc⟩ := h (by simp; omega)
  refine ⟨b, off, e, hb, hc k _ ?_⟩
  simp [List.getElem?_eq_getElem hk]
/-- the post of square -/
def SqPost (a : List Int) (w : World) (e : Ending) (w' : World) : Prop :=
  ∃ out A c, e = .returned (.slice A out.length c) ∧ w'.ownsRow w.heap.size 76 1 (.slice A out.length c) out.length (ucs out) ∧ Below w.heap.size w w' ∧ out.length = 2 * a.length ∧ dgs out ∧ vl out = vl a * vl a

set_option maxRecDepth 100000 in
set_option maxHeartbeats 1000000 in
theorem square_any (A : Option Addr) (c : Nat) (a : List Int) (w : World) (h : Lies w A (ucs a)) (hd : Hid (dgs a)) (hn : a.length ≤ 1000) :
    Calls Tryd.prog 55 #[.slice A a.length c] w (SqPost a w) := by
  obtain ⟨w1, hmk, ho1, hb1⟩ := make_u32 w (2 * a.length) (by omega) w.heap.size (Nat.le_refl _)
  have e2 : ((2 * a.length : Nat) : Int) = 2 * (a.length : Int) := by simp
  rw [e2] at hmk
  obtain ⟨g, hg⟩ : ∃ g, g = w.heap.size := ⟨_, rfl⟩
  rw [← hg] at ho1 hmk
  have HG : Hid (w.heap.size ≤ g) := by show _ ≤ _; omega
  have HST := Lib.hid (SqOut.start a)
  clear hg e2
  go_enter Tryd.func55, Tryd.ntmps55
  go_wp2_with fail
  clear hmk
  go_loopw [4, 5, 6, 7, 8, 15] (fun _ _ _ _ _ i wr => ∃ k : Nat, k ≤ a.length ∧ i = .int .i64 k ∧ ∃ out, Hid (SqOut a out k) ∧ wr.ownsRow g 76 1 (.slice (some ⟨g, 0, none⟩) (2 * a.length) (2 * a.length)) (2 * a.length) (ucs out) ∧ Below w.heap.size w wr) (fun _ _ _ _ _ i _ => a.length - (intOf i).toNat)
  case atStart => exact ⟨0, by omega, rfl, _, HST, ho1, hb1⟩
  case round =>
    obtain ⟨k, hk, rfl, out, HO, r1, r2⟩ := hrel
    by_cases hlt : k < a.length
    · obtain ⟨bk, off, rfl, hb, hc⟩ := (h.below r2).uat hlt
      have HI := Lib.hid HO.out.enter
      have hx := dgs_at hd.out k
      generalize hx1 : a[k]?.getD 0 = x at *
      have HX := Lib.hid hx1
      clear hx1
      go_wp2_with fail
      go_loopw [6, 7, 8, 22] (fun cy _ _ i wr => ∃ m : Nat, m ≤ a.length ∧ i = .int .i64 m ∧ ∃ out c, Hid (SqIn a out k m c) ∧ cy = .int .u64 c ∧ wr.ownsRow g 76 1 (.slice (some ⟨g, 0, none⟩) (2 * a.length) (2 * a.length)) (2 * a.length) (ucs out) ∧ Below w.heap.size w wr) (fun _ _ _ i _ => a.length - (intOf i).toNat)
      case atStart => exact ⟨0, by omega, rfl, out, 0, HI, rfl, r1, r2⟩
      case round =>
        obtain ⟨m, hm, rfl, out', cy, HS, rfl, s1, s2⟩ := hrel
        by_cases hlm : m < a.length
        · obtain ⟨bk', off', eA, hb', hc'⟩ := (h.below s2).uat hlm
          cases eA
          have hy := dgs_at hd.out m
          have ho := dgs_at HS.out.dig (k + m)
          have h0 := HS.out.c0
          have h1 := HS.out.c1
          have hl := HS.out.len
          have q1 : wr.cell? ⟨g, k + m, none⟩ = some (.int .u32 (out'[k + m]?.getD 0)) := by
            rw [s1.cellAt (k + m) (by omega)]; simp only [List.getElem?_map, List.getElem?_eq_getElem (show k + m < out'.length by omega)]; rfl
          have q2 : wr.frozen? ⟨g, k + m, none⟩ = false := s1.frozenAt (k + m)
          have HN := Lib.hid (fun t ht => HS.out.next hd.out hlt hlm (t := t) ht)
          have hp := sq_prod hx hy
          generalize hy1 : a[m]?.getD 0 = y at *
          generalize ho1' : out'[k + m]?.getD 0 = z at *
          have HL := Lib.hid hl
          have HY := Lib.hid hy1
          have HZ := Lib.hid ho1'
          clear hl hy1 ho1'
          have i0 : ((k : Int) + (m : Int)).toNat = k + m := by omega
          go_wp2_with fail
          have hs := HN.out (cy + (z + x * y)) (by rw [HX.out])
          have hst := s1.stored (k + m) (.int .u32 ((cy + (z + x * y)) % 4294967296))
          rw [← List.map_set] at hst
          exact ⟨⟨m + 1, by omega, by go_num, _, _, Lib.hid hs, rfl, hst.1, s2.setCell (by exact HG.out) _⟩, by simp [intOf]; omega⟩
        · obtain rfl : m = a.length := by omega
          have h0 := HS.out.c0
          have h1 := HS.out.c1
          have hl := HS.out.len
          have q1 : wr.cell? ⟨g, k + a.length, none⟩ = some (.int .u32 (out'[k + a.length]?.getD 0)) := by
            rw [s1.cellAt (k + a.length) (by omega)]; simp only [List.getElem?_map, List.getElem?_eq_getElem (show k + a.length < out'.length by omega)]; rfl
          have q2 : wr.frozen? ⟨g, k + a.length, none⟩ = false := s1.frozenAt (k + a.length)
          have HL := Lib.hid (HS.out.leave hlt)
          have i0 : ((k : Int) + (a.length : Int)).toNat = k + a.length := by omega
          clear hl
          go_wp2_with fail
          have hst := s1.stored (k + a.length) (.int .u32 cy)
          rw [← List.map_set] at hst
          exact ⟨⟨k + 1, by omega, by go_num, _, HL, hst.1, s2.setCell (by exact HG.out) _⟩, by simp [intOf]; omega⟩
    · obtain rfl : k = a.length := by omega
      have hl := Lib.hid HO.out.len
      go_wp2_with fail
      go_ret
      exact ⟨out, _, _, by rw [hl.out]; rfl, by rw [hl.out]; exact ownsRow_le r1 HG.out, r2, HO.out.len, HO.out.dig, HO.out.done⟩
end Go.Proofs.YtnflpnbpigcfhabDoor
/- Plain facts: the logarithm, by the highest digit -/
namespace Ear

theorem bitAux_spec : ∀ (f x : Nat), x < 2 ^ f → x ≠ 0 → 1 ≤ Go.Lib.bitLenAux f x ∧ 2 ^ (Go.Lib.bitLenAux f x - 1) ≤ x ∧ x < 2 ^ Go.Lib.bitLenAux f x := by
  intro f
  induction f with
  | zero => intro x h h0; simp at h; omega
  | succ f ih =>
    intro x h h0
    have hz : Go.Lib.bitLenAux f 0 = 0 := by cases f <;> simp [Go.Lib.bitLenAux]
    rw [Go.Lib.bitLenAux, if_neg h0]
    by_cases hy : x / 2 = 0
    · rw [hy, hz]
      have : x = 1 := by omega
      subst this
      decide
    · have h2 : x / 2 < 2 ^ f := by rw [Nat.pow_succ] at h; omega
      obtain ⟨h3, h4, h5⟩ := ih (x / 2) h2 hy
      generalize Go.Lib.bitLenAux f (x / 2) = L at *
      have e1 : 2 ^ L = 2 ^ (L - 1) * 2 := by rw [← Nat.pow_succ]; congr 1; omega
      have e2 : 2 ^ (1 + L) = 2 ^ L * 2 := by rw [Nat.add_comm, Nat.pow_succ]
      have e3 : 1 + L - 1 = L := by omega
      rw [e3, e2]
      omega
theorem bitLen_spec {x : Nat} (h : x < 18446744073709551616) (h0 : x ≠ 0) : 1 ≤ Go.Lib.bitLen x ∧ 2 ^ (Go.Lib.bitLen x - 1) ≤ x ∧ x < 2 ^ Go.Lib.bitLen x := bitAux_spec 64 x (by omega) h0
theorem BB_two (i : Nat) : BB ^ i = ((2 ^ (32 * i) : Nat) : Int) := by
  induction i with
  | zero => rfl
  | succ i ih =>
    rw [Int.pow_succ, ih, Nat.mul_add, Nat.pow_add]
    simp [BB]
theorem log2_at {l : List Int} {i : Nat} (hd : dgs l) (hz : zer l (i + 1)) (hi : i < l.length) (h0 : l[i]?.getD 0 ≠ 0) :
    (vl l).toNat.log2 = 32 * i + Go.Lib.bitLen (l[i]?.getD 0).toNat - 1 := by
  have hv : vl l = vl (l.take i) + BB ^ i * l[i]?.getD 0 := by rw [vl_zer hz, vl_take_succ l i hi]
  have hb := vl_bd (dgs_take hd i)
  rw [List.length_take, Nat.min_eq_left (by omega)] at hb
  have hx := dgs_at hd i
  generalize l[i]?.getD 0 = x at *
  obtain ⟨d, rfl⟩ := Int.eq_ofNat_of_zero_le hx.1
  obtain ⟨h1, h2, h3⟩ := bitLen_spec (x := d) (by omega) (by omega)
  rw [Int.toNat_natCast]
  generalize Go.Lib.bitLen d = L at *
  rw [BB_two] at hv hb
  generalize vl (l.take i) = r at *
  obtain ⟨r, rfl⟩ := Int.eq_ofNat_of_zero_le hb.1
  have hr : r < 2 ^ (32 * i) := by have := hb.2; omega
  have hV : (vl l).toNat = r + 2 ^ (32 * i) * d := by
    rw [hv, ← Int.natCast_mul, ← Int.natCast_add, Int.toNat_natCast]
  rw [hV]
  have a1 : 2 ^ (32 * i) * 2 ^ (L - 1) ≤ 2 ^ (32 * i) * d := Nat.mul_le_mul_left _ h2
  have a2 : 2 ^ (32 * i) * (d + 1) ≤ 2 ^ (32 * i) * 2 ^ L := Nat.mul_le_mul_left _ h3
  rw [← Nat.pow_add] at a1 a2
  rw [Nat.mul_add] at a2
  have hne : r + 2 ^ (32 * i) * d ≠ 0 := by
    have : 0 < 2 ^ (32 * i + (L - 1)) := Nat.pow_pos (by decide)
    omega
  rw [Nat.log2_eq_iff hne]
  have e1 : 32 * i + L - 1 = 32 * i + (L - 1) := by omega
  have e2 : 32 * i + L - 1 + 1 = 32 * i + L := by omega
  rw [e2, e1]
  omega
/-- the logarithm -/
def lg (e : Nat) : Int := if e = 0 then -16 else ((e ^ 16).log2 : Nat)
end Ear
/- logarithm, Log -/
namespace Go.Proofs.YtnflpnbpigcfhabDoor
open Go.RowKit Ear

/-- a number comes back; memory may have been made -/
def RetIB (v : Int) (w : World) (e : Ending) (w' : World) : Prop := e = .returned (.int .i64 v) ∧ Below w.heap.size w w'

set_option maxHeartbeats 400000 in
theorem logarithm_zero (w : World) : Calls Tryd.prog 37 #[.int .i64 0] w (RetIB (-16) w) := by
  go_enter Tryd.func37, Tryd.ntmps37
  go_wp2_with fail
  go_ret
  exact ⟨rfl, Below.refl _ _⟩

/-- the power: its digits -/
structure Pw (e k : Nat) (p : List Int) : Prop where
  len : p.length = 2 ^ (k + 1)
  dig : dgs p
  val : vl p = ((e ^ 2 ^ k : Nat) : Int)

set_option maxRecDepth 100000 in
set_option maxHeartbeats 1000000 in
theorem logarithm_pos (n : Nat) (w : World) (h0 : 0 < n) (h1 : n ≤ 9223372036854775807) : Calls Tryd.prog 37 #[.int .i64 n] w (RetIB (lg n) w) := by
  have b1 : (n : Int) / 4294967296 ≤ 2147483647 := by omega
  have b0 : 0 ≤ (n : Int) / 4294967296 := by omega
  have hP0 : Hid (Pw n 0 [(n : Int) % 4294967296, (n : Int) / 4294967296]) := by
    refine ⟨rfl, ?_, ?_⟩
    · intro x hx
      simp at hx
      rcases hx with rfl | rfl <;> omega
    · simp [vl, BB]; omega
  have hn0 : ((n : Int) == 0) = false := by simp; omega
  go_enter Tryd.func37, Tryd.ntmps37
  go_wp2_with fail
  obtain ⟨W, hW⟩ : ∃ W, W = w.alloc (Obj.cells #[.int .u32 ((n : Int) % 4294967296), .int .u32 ((n : Int) / 4294967296)] 76) := ⟨_, rfl⟩
  have hL0 : Lies W (some ⟨w.heap.size, 0, none⟩) (ucs [(n : Int) % 4294967296, (n : Int) / 4294967296]) := by
    rw [hW]
    exact fun _ => ⟨w.heap.size, 0, rfl, by simp, fun k u hu => by
      rw [Nat.zero_add, cell_of_row _ _ k _ _ _ (heap_alloc_new w _)]
      simpa using hu⟩
  have hB0 : Below w.heap.size w W := by rw [hW]; exact (Below.refl _ _).alloc (Nat.le_refl _) _
  rw [← hW]
  clear hW
  go_loopw [3, 13] (fun v i wr => ∃ k : Nat, k ≤ 4 ∧ i = .int .i64 k ∧ ∃ p A c, Hid (Pw n k p) ∧ v = .slice A p.length c ∧ Lies wr A (ucs p) ∧ Below w.heap.size w wr) (fun _ i _ => 4 - (intOf i).toNat)
  case atStart => exact ⟨0, by omega, rfl, _, _, _, hP0, rfl, hL0, hB0⟩
  case round =>
    obtain ⟨k, hk, rfl, p, A, c, HP, rfl, hl, hb⟩ := hrel
    have hlen := HP.out.len
    by_cases hlt : k < 4
    · have hp32 : p.length ≤ 32 := by
        rw [hlen]
        rcases (show k = 0 ∨ k = 1 ∨ k = 2 ∨ k = 3 by omega) with rfl | rfl | rfl | rfl <;> decide
      have HL := Lib.hid hlen
      clear hlen
      go_wp2_with fail
      refine (square_any A c p _ hl (Lib.hid HP.out.dig) (by omega)).mono ?_
      rintro e w1 ⟨out, A1, c1, rfl, ho, hb1, hol, hod, hov⟩
      have L1 := Lib.hid (Lies.of_own ho)
      have HP1 : Hid (Pw n (k + 1) out) := ⟨by rw [hol, HL.out, Nat.pow_succ 2 (k + 1), Nat.mul_comm], hod, by
        rw [hov, HP.out.val, ← Int.natCast_mul, ← Nat.pow_add, Nat.pow_succ 2 k, Nat.mul_two]⟩
      clear ho hol hod hov
      go_wp2_with fail
      exact ⟨⟨k + 1, by omega, by go_num, out, A1, c1, HP1, rfl, L1.out, hb.trans (hb1.mono hb.size)⟩, by simp [intOf]; omega⟩
    · obtain rfl : k = 4 := by omega
      have hlen' : p.length = 32 := hlen
      have HL := Lib.hid hlen'
      have hne : vl p ≠ 0 := by
        rw [HP.out.val]
        have : 0 < n ^ 2 ^ 4 := Nat.pow_pos h0
        omega
      have HNE := Lib.hid hne
      have hlg : lg n = (((vl p).toNat.log2 : Nat) : Int) := by
        unfold lg
        rw [if_neg (by omega), HP.out.val, Int.toNat_natCast]
      have HLG := Lib.hid hlg
      clear hlen hne hlg
      rw [hlen']
      go_wp2_with fail
      go_loop [4] (fun i => ∃ m : Nat, m < 32 ∧ i = .int .i64 m ∧ Hid (zer p (m + 1))) (fun i => (intOf i).toNat)
      case atStart => exact ⟨31, by omega, rfl, Lib.hid (fun q hq => by rw [List.getElem?_eq_none (by rw [HL.out]; omega)]; rfl)⟩
      case round =>
        obtain ⟨m, hm, rfl, hz⟩ := hrel
        obtain ⟨bk, off, rfl, hbk, hc⟩ := hl.uat (k := m) (by rw [HL.out]; exact hm)
        have hd := dgs_at HP.out.dig m
        by_cases h0' : p[m]?.getD 0 = 0
        · have hz' : Hid (zer p m) := fun q hq => by
            by_cases hqm : q = m
            · rw [hqm]; exact h0'
            · exact hz.out q (by omega)
          have hm1 : 1 ≤ m := by
            rcases Nat.eq_zero_or_pos m with h | h
            · subst h
              exact absurd (by rw [vl_zer hz'.out]; rfl) HNE.out
            · exact h
          rw [h0'] at hc
          clear h0' hd
          go_wp2_with fail
          exact ⟨⟨m - 1, by omega, by go_num, by rw [show m - 1 + 1 = m by omega]; exact hz'⟩, by simp [intOf]; omega⟩
        · have hlog := log2_at HP.out.dig hz.out (by rw [HL.out]; exact hm) h0'
          have hbs := Ear.bitLen_spec (x := (p[m]?.getD 0).toNat) (by omega) (by omega)
          have hbl : Lib.bitLen (p[m]?.getD 0).toNat ≤ 32 := by
            have := hbs.2.1
            rcases Nat.lt_or_ge 32 (Lib.bitLen (p[m]?.getD 0).toNat) with h | h
            · have h2 : 2 ^ 32 ≤ 2 ^ (Lib.bitLen (p[m]?.getD 0).toNat - 1) := Nat.pow_le_pow_right (by decide) (by omega)
              omega
            · exact h
          have hb1 := hbs.1
          have hcall := fun w => Len32_any (p[m]?.getD 0) w hd.1 hd.2
          generalize hx : p[m]?.getD 0 = x at *
          generalize Lib.bitLen x.toNat = L at *
          have HLOG := Lib.hid hlog
          have hne : (x != 0) = true := by simp [h0']
          clear hlog hbs hx h0'
          go_wp2_with fail
          refine (hcall _).mono ?_
          rintro e w' ⟨rfl, rfl⟩
          go_wp2_with fail
          go_ret
          exact ⟨ret_int (by rw [HLG.out, HLOG.out]; omega), hb⟩

/-- the post of a function that answers a number and an error -/
def RetIE (v err : Int) (w : World) (e : Ending) (w' : World) : Prop := e = .returned (.tuple #[.int .i64 v, .int .i64 err]) ∧ Below w.heap.size w w'
theorem logarithm_any (n : Nat) (w : World) (h1 : n ≤ 9223372036854775807) : Calls Tryd.prog 37 #[.int .i64 n] w (RetIB (lg n) w) := by
  rcases Nat.eq_zero_or_pos n with h | h
  · subst h; exact logarithm_zero w
  · exact logarithm_pos n w h h1
set_option maxHeartbeats 400000 in
theorem Log_neg (e : Int) (w : World) (h : e < 0) : Calls Tryd.prog 18 #[.int .i64 e] w (RetIE 0 2 w) := by
  go_enter Tryd.func18, Tryd.ntmps18
  go_wp2_with fail
  go_ret2
  exact ⟨rfl, Below.refl _ _⟩
set_option maxHeartbeats 400000 in
theorem Log_any (n : Nat) (w : World) (h1 : n ≤ 9223372036854775807) : Calls Tryd.prog 18 #[.int .i64 n] w (RetIE (lg n) 0 w) := by
  go_enter Tryd.func18, Tryd.ntmps18
  go_wp2_with fail
  refine (logarithm_any n _ h1).mono ?_
  rintro e w' ⟨rfl, hb⟩
  go_wp2_with fail
  go_ret2
  exact ⟨rfl, hb⟩
end Go.Proofs.YtnflpnbpigcfhabDoor
/- Plain law: the transform is linear, and that of the list in the opposite order -/
namespace Ear

theorem trS_add {x y s : List Int} (h : ∀ i : Nat, s[i]?.getD 0 = x[i]?.getD 0 + y[i]?.getD 0) (n k i : Nat) : trS s n k i = trS x n k i + trS y n k i := by
  induction i with
  | zero => rfl
  | succ i ih =>
    simp only [trS, ih, h i, Int.add_mul]
    omega
theorem trS_mul {x t : List Int} {by_ : Int} (h : ∀ i : Nat, t[i]?.getD 0 = by_ * x[i]?.getD 0) (n k i : Nat) : trS t n k i = by_ * trS x n k i := by
  induction i with
  | zero => simp [trS]
  | succ i ih => simp only [trS, ih, h i, Int.mul_add, Int.mul_assoc]
/-- a sum -/
def sumN (f : Nat → Int) : Nat → Int
  | 0 => 0
  | n + 1 => sumN f n + f n
theorem trS_sumN (l : List Int) (n k i : Nat) : trS l n k i = sumN (fun (i : Nat) => l[i]?.getD 0 * cosC ((2 * i + 1) * k * 64 / n)) i := by
  induction i with
  | zero => rfl
  | succ i ih => simp only [trS, sumN, ih]
theorem sumN_congr {f g : Nat → Int} {n : Nat} (h : ∀ i, i < n → f i = g i) : sumN f n = sumN g n := by
  induction n with
  | zero => rfl
  | succ n ih => simp only [sumN, ih (fun i hi => h i (by omega)), h n (by omega)]
theorem sumN_head (f : Nat → Int) (n : Nat) : sumN f (n + 1) = f 0 + sumN (fun i => f (i + 1)) n := by
  induction n with
  | zero => simp [sumN]
  | succ n ih =>
    have e : sumN f (n + 1 + 1) = sumN f (n + 1) + f (n + 1) := rfl
    rw [e, ih]
    simp only [sumN]
    omega
theorem sumN_rev (f : Nat → Int) (n : Nat) : sumN (fun i => f (n - 1 - i)) n = sumN f n := by
  induction n generalizing f with
  | zero => rfl
  | succ n ih =>
    rw [sumN_head]
    have e : sumN (fun i => f (n + 1 - 1 - (i + 1))) n = sumN (fun i => f (n - 1 - i)) n := sumN_congr fun i hi => by rw [show n + 1 - 1 - (i + 1) = n - 1 - i by omega]
    rw [e, ih]
    simp only [sumN, Nat.add_sub_cancel, Nat.sub_zero]
    omega
theorem sumN_neg (f : Nat → Int) (n : Nat) : sumN (fun i => -f i) n = -sumN f n := by
  induction n with
  | zero => rfl
  | succ n ih => simp only [sumN, ih]; omega
theorem cos_even_all : ∀ m, m < 256 → cosM ((256 - m) % 256) = cosM m := by decide +kernel
theorem cos_odd_all : ∀ m, m < 256 → cosM ((384 - m) % 256) = -cosM m := by decide +kernel
theorem cos_even {k J : Nat} (hk : k % 2 = 0) (hJ : J ≤ 128 * k) : cosC (128 * k - J) = cosC J := by
  unfold cosC
  have h := cos_even_all (J % 256) (by omega)
  have e : (128 * k - J) % 256 = (256 - J % 256) % 256 := by omega
  rw [e, h]
theorem cos_odd {k J : Nat} (hk : k % 2 = 1) (hJ : J ≤ 128 * k) : cosC (128 * k - J) = -cosC J := by
  unfold cosC
  have h := cos_odd_all (J % 256) (by omega)
  have e : (128 * k - J) % 256 = (384 - J % 256) % 256 := by omega
  rw [e, h]
theorem lenOk_dvd {n : Nat} (h : lenOk n = true) : n * (64 / n) = 64 := by
  simp only [lenOk, Bool.or_eq_true, beq_iff_eq] at h
  rcases h with (((((rfl | rfl) | rfl) | rfl) | rfl) | rfl) | rfl <;> decide
theorem idx_rev {n : Nat} (h : lenOk n = true) {i k : Nat} (hi : i < n) : (2 * (n - 1 - i) + 1) * k * 64 / n = 128 * k - (2 * i + 1) * k * 64 / n ∧ (2 * i + 1) * k * 64 / n ≤ 128 * k := by
  rw [← idx_eq h, ← idx_eq h]
  have hd := lenOk_dvd h
  generalize 64 / n = d at *
  have e : (2 * (n - 1 - i) + 1) * k * d + (2 * i + 1) * k * d = 128 * k := by
    rw [← Nat.add_mul, ← Nat.add_mul, show 2 * (n - 1 - i) + 1 + (2 * i + 1) = 2 * n by omega, Nat.mul_assoc, Nat.mul_comm k d, ← Nat.mul_assoc, Nat.mul_assoc 2 n d, hd]
  omega
theorem rev_getD {l : List Int} {i : Nat} (hi : i < l.length) : l.reverse[i]?.getD 0 = l[l.length - 1 - i]?.getD 0 := by
  rw [List.getElem?_reverse hi]
theorem trS_rev {l : List Int} (h : lenOk l.length = true) (k : Nat) : trS l.reverse l.length k l.length = if k % 2 = 0 then trS l l.length k l.length else -trS l l.length k l.length := by
  rw [trS_sumN, trS_sumN, ← sumN_rev (fun (i : Nat) => l[i]?.getD 0 * cosC ((2 * i + 1) * k * 64 / l.length))]
  split
  · rename_i hk
    apply sumN_congr
    intro i hi
    rw [rev_getD hi]
    have h1 := idx_rev h (k := k) hi
    rw [h1.1, cos_even hk h1.2]
  · rename_i hk
    rw [← sumN_neg]
    apply sumN_congr
    intro i hi
    rw [rev_getD hi]
    have h1 := idx_rev h (k := k) hi
    rw [h1.1, cos_odd (by omega) h1.2, Int.mul_neg, Int.neg_neg]
theorem trf_get {l : List Int} {k : Nat} (hk : k < l.length) : (trf l)[k]?.getD 0 = trS l l.length k l.length := by
  rw [List.getElem?_eq_getElem (by rw [trf_length]; exact hk)]; simp [trf]
end Ear
/- Plain law: logarithms grow -/
namespace Ear

theorem lg_pos {e : Nat} (h : e ≠ 0) : lg e = ((e ^ 16).log2 : Nat) := if_neg h
theorem pow16_ne {e : Nat} (h : e ≠ 0) : e ^ 16 ≠ 0 := fun h0 => h (by simpa using h0)
theorem lg_mono {a b : Nat} (h0 : a ≠ 0) (h : a ≤ b) : lg a ≤ lg b := by
  rw [lg_pos h0, lg_pos (by omega)]
  have h1 : 2 ^ (a ^ 16).log2 ≤ b ^ 16 := Nat.le_trans (Nat.log2_self_le (pow16_ne h0)) (Nat.pow_le_pow_left h 16)
  have := (Nat.le_log2 (pow16_ne (show b ≠ 0 by omega))).2 h1
  omega
theorem lg_two (p : Nat) : lg (2 ^ p) = 16 * (p : Int) := by
  rw [lg_pos (Nat.ne_of_gt (Nat.pow_pos (by decide))), ← Nat.pow_mul, Nat.log2_two_pow]
  omega
theorem log2_mul {x y : Nat} (hx : x ≠ 0) (hy : y ≠ 0) : (x * y).log2 = x.log2 + y.log2 ∨ (x * y).log2 = x.log2 + y.log2 + 1 := by
  have a1 := Nat.log2_self_le hx
  have a2 := Nat.log2_self_le hy
  have b1 := @Nat.lt_log2_self x
  have b2 := @Nat.lt_log2_self y
  have hxy : x * y ≠ 0 := Nat.mul_ne_zero hx hy
  have c1 : 2 ^ (x.log2 + y.log2) ≤ x * y := by rw [Nat.pow_add]; exact Nat.mul_le_mul a1 a2
  have c2 : x * y < 2 ^ (x.log2 + y.log2 + 2) := by
    have : 2 ^ (x.log2 + y.log2 + 2) = 2 ^ (x.log2 + 1) * 2 ^ (y.log2 + 1) := by rw [← Nat.pow_add]; congr 1; omega
    rw [this]
    exact Nat.mul_lt_mul'' b1 b2
  have d1 := (Nat.le_log2 hxy).2 c1
  have d2 := (Nat.log2_lt hxy).2 c2
  omega
theorem lg_mul {a b : Nat} (ha : a ≠ 0) (hb : b ≠ 0) : lg (a * b) = lg a + lg b ∨ lg (a * b) = lg a + lg b + 1 := by
  rw [lg_pos (Nat.mul_ne_zero ha hb), lg_pos ha, lg_pos hb, Nat.mul_pow]
  rcases log2_mul (pow16_ne ha) (pow16_ne hb) with h | h <;> rw [h] <;> omega
theorem lg_twice {a : Nat} (ha : a ≠ 0) : lg (2 * a) = lg a + 16 := by
  rw [lg_pos (by omega), lg_pos ha, Nat.mul_pow]
  have h0 := pow16_ne ha
  have e : (2 ^ 16 * a ^ 16).log2 = (a ^ 16).log2 + 16 := by
    rw [Nat.log2_eq_iff (Nat.mul_ne_zero (by decide) h0)]
    have a1 := Nat.log2_self_le h0
    have b1 := @Nat.lt_log2_self (a ^ 16)
    generalize (a ^ 16).log2 = L at *
    have e1 : 2 ^ (L + 16) = 2 ^ 16 * 2 ^ L := by rw [Nat.pow_add, Nat.mul_comm]
    have e2 : 2 ^ (L + 16 + 1) = 2 ^ 16 * 2 ^ (L + 1) := by rw [show L + 16 + 1 = L + 1 + 16 by omega, Nat.pow_add, Nat.mul_comm]
    rw [e1, e2]
    exact ⟨Nat.mul_le_mul_left _ a1, Nat.mul_lt_mul_of_pos_left b1 (by decide)⟩
  rw [e]
  omega
end Ear
/- Plain facts: roots by bisection, the law's enclosure of cosines (a table, printed by mk_ptab.py), and that the table of cosines is the best one -/
namespace Ear

/-- bisection: f rounds at most -/
def rtGo (n : Int) : Nat → Int → Int → Int
  | 0, low, _ => low
  | f + 1, low, high => if high - low > 1 then (if (low + high) / 2 * ((low + high) / 2) ≤ n then rtGo n f ((low + high) / 2) high else rtGo n f low ((low + high) / 2)) else low
def rt (n : Int) : Int := rtGo n 31 0 2147483648
theorem rtGo_stop {n : Int} {f : Nat} {low high : Int} (h : high - low ≤ 1) : rtGo n f low high = low := by
  cases f with
  | zero => rfl
  | succ f => unfold rtGo; rw [if_neg (by omega)]
theorem rtGo_up {n : Int} {f : Nat} {low high : Int} (h : high - low > 1) (h2 : (low + high) / 2 * ((low + high) / 2) ≤ n) : rtGo n (f + 1) low high = rtGo n f ((low + high) / 2) high := by
  rw [rtGo, if_pos h, if_pos h2]
theorem rtGo_down {n : Int} {f : Nat} {low high : Int} (h : high - low > 1) (h2 : ¬ (low + high) / 2 * ((low + high) / 2) ≤ n) : rtGo n (f + 1) low high = rtGo n f low ((low + high) / 2) := by
  rw [rtGo, if_pos h, if_neg h2]
/-- the enclosures, for m from 0 to 128 -/
def lcT : List (Int × Int) := [(1073741824, 1073741824), (1073418432, 1073418434), (1072448454, 1072448456), (1070832473, 1070832475), (1068571463, 1068571464), (1065666785, 1065666786), (1062120189, 1062120191), (1057933812, 1057933814), (1053110175, 1053110177), (1047652184, 1047652186), (1041563126, 1041563128), (1034846670, 1034846672), (1027506861, 1027506862), (1019548120, 1019548121), (1010975241, 1010975243), (1001793389, 1001793391), (992008094, 992008095), (981625249, 981625252), (970651111, 970651114), (959092289, 959092291), (946955746, 946955748), (934248792, 934248794), (920979081, 920979083), (907154607, 907154610), (892783697, 892783699), (877875007, 877875010), (862437519, 862437521), (846480530, 846480533), (830013652, 830013656), (813046805, 813046811), (795590211, 795590216), (777654376, 777654391), (759250124, 759250125), (740388514, 740388531), (721080933, 721080940), (701338996, 701339004), (681174599, 681174605), (660599887, 660599892), (639627256, 639627259), (618269335, 618269340), (596538994, 596538998), (574449317, 574449323), (552013616, 552013621), (529245401, 529245406), (506158390, 506158394), (482766488, 482766492), (459083782, 459083789), (435124544, 435124552), (410903205, 410903208), (386434349, 386434355), (361732722, 361732729), (336813202, 336813206), (311690797, 311690801), (286380638, 286380646), (260897978, 260897987), (235258159, 235258169), (209476632, 209476643), (183568923, 183568936), (157550640, 157550655), (131437459, 131437468), (105245099, 105245110), (78989335, 78989363), (52685992, 52686034), (26350904, 26350986), (0, 0), (-26350986, -26350904), (-52686034, -52685992), (-78989363, -78989335), (-105245110, -105245099), (-131437468, -131437459), (-157550655, -157550640), (-183568936, -183568923), (-209476643, -209476632), (-235258169, -235258159), (-260897987, -260897978), (-286380646, -286380638), (-311690801, -311690797), (-336813206, -336813202), (-361732729, -361732722), (-386434355, -386434349), (-410903208, -410903205), (-435124552, -435124544), (-459083789, -459083782), (-482766492, -482766488), (-506158394, -506158390), (-529245406, -529245401), (-552013621, -552013616), (-574449323, -574449317), (-596538998, -596538994), (-618269340, -618269335), (-639627259, -639627256), (-660599892, -660599887), (-681174605, -681174599), (-701339004, -701338996), (-721080940, -721080933), (-740388531, -740388514), (-759250125, -759250124), (-777654391, -777654376), (-795590216, -795590211), (-813046811, -813046805), (-830013656, -830013652), (-846480533, -846480530), (-862437521, -862437519), (-877875010, -877875007), (-892783699, -892783697), (-907154610, -907154607), (-920979083, -920979081), (-934248794, -934248792), (-946955748, -946955746), (-959092291, -959092289), (-970651114, -970651111), (-981625252, -981625249), (-992008095, -992008094), (-1001793391, -1001793389), (-1010975243, -1010975241), (-1019548121, -1019548120), (-1027506862, -1027506861), (-1034846672, -1034846670), (-1041563128, -1041563126), (-1047652186, -1047652184), (-1053110177, -1053110175), (-1057933814, -1057933812), (-1062120191, -1062120189), (-1065666786, -1065666785), (-1068571464, -1068571463), (-1070832475, -1070832473), (-1072448456, -1072448454), (-1073418434, -1073418432), (-1073741824, -1073741824)]
def lcAt (m : Nat) : Int × Int := lcT.getD m (0, 0)
theorem lcT_bd : ∀ m, m < 129 → -1073741825 ≤ (lcAt m).1 ∧ (lcAt m).1 ≤ 1073741825 ∧ -1073741825 ≤ (lcAt m).2 ∧ (lcAt m).2 ≤ 1073741825 := by decide +kernel
theorem lc_zero : lcAt 0 = (1073741824, 1073741824) := rfl
theorem lc_64 : lcAt 64 = (0, 0) := by decide +kernel
theorem lc_low : ∀ m, m < 33 → 1 ≤ m → lcAt m = (rt ((1073741824 + (lcAt (2 * m)).1) * 536870912), rt ((1073741824 + (lcAt (2 * m)).2) * 536870912) + 1) := by decide +kernel
theorem lc_mid : ∀ m, m < 64 → 33 ≤ m → lcAt m = (rt (1152921504606846976 - (lcAt (64 - m)).2 * (lcAt (64 - m)).2), rt (1152921504606846976 - (lcAt (64 - m)).1 * (lcAt (64 - m)).1) + 1) := by decide +kernel
theorem lc_high : ∀ m, m < 129 → 65 ≤ m → lcAt m = (-(lcAt (128 - m)).2, -(lcAt (128 - m)).1) := by decide +kernel
theorem lc_best : ∀ m, m < 129 → (2 * cosM m - 1) * 32768 ≤ (lcAt m).2 ∧ (lcAt m).1 ≤ (2 * cosM m + 1) * 32768 := by decide +kernel
theorem cosM_even : ∀ m, m < 257 → cosM (256 - m) = cosM m ∨ m = 0 ∨ m = 256 := by decide +kernel
end Ear
/- Cosine; the law's root and enclosure of cosines -/
namespace Go.Proofs.YtnflpnbpigcfhabDoor
open Go.RowKit Ear

/-- two integers -/
def Ret2 (a b : Int) (w : World) (e : Ending) (w' : World) : Prop := e = .returned (.tuple #[.int .i64 a, .int .i64 b]) ∧ w = w'
/-- how far the bisection is -/
def RtIn (n : Int) (f : Nat) (low high : Int) : Prop := rtGo n f low high = rt n ∧ high - low ≤ 2 ^ f
end Go.Proofs.YtnflpnbpigcfhabDoor
