/- Valid: of a recipe -/
import Derived.Test.YtnflpnbpigcfhabDoorQBnd
import Derived.Test.YtnflpnbpigcfhabDoorMb
namespace Go.Proofs.YtnflpnbpigcfhabDoor
open Go.RowKit Ear
set_option linter.unusedVariables false

/-- a recipe -/
structure Rcp where
  num : Int
  den : Int
  size : Int
  step : Int
  win : Int
  points : Int
  E : Option Addr
  ec : Nat
  edges : List Int
  cep : Int
  diff : Bool
  cen : Bool
abbrev Rcp.cells (r : Rcp) : Array Value := #[.int .i64 r.num, .int .i64 r.den, .int .i64 r.size, .int .i64 r.step, .int .i64 r.win, .int .i64 r.points, .slice r.E r.edges.length r.ec, .int .i64 r.cep, .bool r.diff, .bool r.cen]
abbrev Rcp.val (r : Rcp) : Value := .agg r.cells
/-- the numbers of a recipe are right -/
structure RcpOk (r : Rcp) : Prop where
  n0 : 0 ≤ r.num
  n1 : r.num ≤ r.den
  d0 : 1 ≤ r.den
  d1 : r.den ≤ 1024
  p0 : 0 ≤ r.points
  p1 : lenOk r.points.toNat = true
  s0 : 1 ≤ r.size
  s1 : r.size ≤ r.points
  t0 : 1 ≤ r.step
  t1 : r.step ≤ 4096
  k0 : 1 ≤ r.win
  k1 : r.win ≤ 3
  e0 : r.edges.length ≤ 33
  e1 : edgOk r.edges r.points.toNat = true
  c0 : 0 ≤ r.cep
  c1 : r.cep ≤ (fit (r.edges.length - 1) : Nat)
set_option maxHeartbeats 400000 in
theorem possible_neg (n : Int) (w : World) (h : n < 0) : Calls Tryd.prog 30 #[.int .i64 n] w fun e w' => e = .returned (.bool false) ∧ w = w' := by
  go_enter Tryd.func30, Tryd.ntmps30
  go_wp2_with fail
  go_ret
  exact ⟨rfl, rfl⟩
theorem possible_int (n : Int) (w : World) (h : n ≤ 9223372036854775807) (b : Bool) (hb : Hid ((decide (0 ≤ n) && lenOk n.toNat) = b)) : Calls Tryd.prog 30 #[.int .i64 n] w fun e w' => e = .returned (.bool b) ∧ w = w' := by
  by_cases h0 : n < 0
  · have : b = false := by rw [← hb.out, decide_eq_false (by omega)]; rfl
    subst this
    exact possible_neg n w h0
  · have e : n = (n.toNat : Int) := by omega
    have := possible_any n.toNat w (by omega) b (Lib.hid (by rw [← hb.out, decide_eq_true (by omega)]; rfl))
    rwa [← e] at this
set_option maxRecDepth 100000 in
set_option maxHeartbeats 2000000 in
theorem fValid_a (num den size step win : Int) (points : Int) (E : Option Addr) (ec : Nat) (edges : List Int) (cep : Int) (diff cen : Bool) (w : World) (hE : Lies w E (ics edges)) (hel : edges.length ≤ 9223372036854775807) (hp : points ≤ 9223372036854775807) (h : num < 0 ∨ (0 ≤ num ∧ den < num) ∨ (0 ≤ num ∧ num ≤ den ∧ den < 1) ∨ (0 ≤ num ∧ num ≤ den ∧ 1 ≤ den ∧ 1024 < den)) :
    Calls Tryd.prog 23 #[.agg #[.int .i64 num, .int .i64 den, .int .i64 size, .int .i64 step, .int .i64 win, .int .i64 points, .slice E edges.length ec, .int .i64 cep, .bool diff, .bool cen]] w (RetB false w) := by
  rcases h with h1 | ⟨h1, h2⟩ | ⟨h1, h2, h3⟩ | ⟨h1, h2, h3, h4⟩
  all_goals
    go_enter Tryd.func23, Tryd.ntmps23
    go_wp2_with fail
    go_ret
    exact ⟨rfl, (Below.refl _ _).alloc (Nat.le_refl _) _⟩
set_option maxRecDepth 100000 in
set_option maxHeartbeats 2000000 in
theorem fValid_b0 (num den size step win : Int) (points : Int) (E : Option Addr) (ec : Nat) (edges : List Int) (cep : Int) (diff cen : Bool) (w : World) (hE : Lies w E (ics edges)) (hel : edges.length ≤ 9223372036854775807) (hp : points ≤ 9223372036854775807) (h1 : 0 ≤ num) (h2 : num ≤ den) (h3 : 1 ≤ den) (h4 : den ≤ 1024) (h5 : points < 0) :
    Calls Tryd.prog 23 #[.agg #[.int .i64 num, .int .i64 den, .int .i64 size, .int .i64 step, .int .i64 win, .int .i64 points, .slice E edges.length ec, .int .i64 cep, .bool diff, .bool cen]] w (RetB false w) := by
  go_enter Tryd.func23, Tryd.ntmps23
  go_wp2_with fail
  refine (possible_neg points _ h5).mono ?_
  rintro e w' ⟨rfl, rfl⟩
  go_wp2_with fail
  go_ret
  exact ⟨rfl, (Below.refl _ _).alloc (Nat.le_refl _) _⟩
set_option maxRecDepth 100000 in
set_option maxHeartbeats 2000000 in
theorem fValid_b (num den size step win : Int) (points : Nat) (E : Option Addr) (ec : Nat) (edges : List Int) (cep : Int) (diff cen : Bool) (w : World) (hE : Lies w E (ics edges)) (hel : edges.length ≤ 9223372036854775807) (hp : points ≤ 9223372036854775807) (h1 : 0 ≤ num) (h2 : num ≤ den) (h3 : 1 ≤ den) (h4 : den ≤ 1024) (hq : Hid (lenOk points = false)) :
    Calls Tryd.prog 23 #[.agg #[.int .i64 num, .int .i64 den, .int .i64 size, .int .i64 step, .int .i64 win, .int .i64 points, .slice E edges.length ec, .int .i64 cep, .bool diff, .bool cen]] w (RetB false w) := by
  go_enter Tryd.func23, Tryd.ntmps23
  go_wp2_with fail
  refine (possible_any points _ hp false hq).mono ?_
  rintro e w' ⟨rfl, rfl⟩
  go_wp2_with fail
  go_ret
  exact ⟨rfl, (Below.refl _ _).alloc (Nat.le_refl _) _⟩
set_option maxRecDepth 100000 in
set_option maxHeartbeats 2000000 in
theorem fValid_c (num den size step win : Int) (points : Nat) (E : Option Addr) (ec : Nat) (edges : List Int) (cep : Int) (diff cen : Bool) (w : World) (hE : Lies w E (ics edges)) (hel : edges.length ≤ 9223372036854775807) (hp : points ≤ 9223372036854775807) (h1 : 0 ≤ num) (h2 : num ≤ den) (h3 : 1 ≤ den) (h4 : den ≤ 1024) (hq : Hid (lenOk points = true)) (h : size < 1 ∨ (1 ≤ size ∧ points < size) ∨ (1 ≤ size ∧ size ≤ points ∧ step < 1) ∨ (1 ≤ size ∧ size ≤ points ∧ 1 ≤ step ∧ 4096 < step)) :
    Calls Tryd.prog 23 #[.agg #[.int .i64 num, .int .i64 den, .int .i64 size, .int .i64 step, .int .i64 win, .int .i64 points, .slice E edges.length ec, .int .i64 cep, .bool diff, .bool cen]] w (RetB false w) := by
  rcases h with h5 | ⟨h5, h6⟩ | ⟨h5, h6, h7⟩ | ⟨h5, h6, h7, h8⟩
  all_goals
    go_enter Tryd.func23, Tryd.ntmps23
    go_wp2_with fail
    refine (possible_any points _ hp true hq).mono ?_
    rintro e w' ⟨rfl, rfl⟩
    go_wp2_with fail
    go_ret
    exact ⟨rfl, (Below.refl _ _).alloc (Nat.le_refl _) _⟩
set_option maxRecDepth 100000 in
set_option maxHeartbeats 2000000 in
theorem fValid_d (num den size step win : Int) (points : Nat) (E : Option Addr) (ec : Nat) (edges : List Int) (cep : Int) (diff cen : Bool) (w : World) (hE : Lies w E (ics edges)) (hel : edges.length ≤ 9223372036854775807) (hp : points ≤ 9223372036854775807) (h1 : 0 ≤ num) (h2 : num ≤ den) (h3 : 1 ≤ den) (h4 : den ≤ 1024) (hq : Hid (lenOk points = true)) (h5 : 1 ≤ size) (h6 : size ≤ points) (h7 : 1 ≤ step) (h8 : step ≤ 4096) (h : win < 1 ∨ (1 ≤ win ∧ 3 < win) ∨ (1 ≤ win ∧ win ≤ 3 ∧ 33 < edges.length)) :
    Calls Tryd.prog 23 #[.agg #[.int .i64 num, .int .i64 den, .int .i64 size, .int .i64 step, .int .i64 win, .int .i64 points, .slice E edges.length ec, .int .i64 cep, .bool diff, .bool cen]] w (RetB false w) := by
  rcases h with h9 | ⟨h9, h10⟩ | ⟨h9, h10, h11⟩
  all_goals
    go_enter Tryd.func23, Tryd.ntmps23
    go_wp2_with fail
    refine (possible_any points _ hp true hq).mono ?_
    rintro e w' ⟨rfl, rfl⟩
    go_wp2_with fail
    go_ret
    exact ⟨rfl, (Below.refl _ _).alloc (Nat.le_refl _) _⟩
set_option maxRecDepth 100000 in
set_option maxHeartbeats 2000000 in
theorem fValid_e (num den size step win : Int) (points : Nat) (E : Option Addr) (ec : Nat) (edges : List Int) (cep : Int) (diff cen : Bool) (w : World) (hE : Lies w E (ics edges)) (hel : edges.length ≤ 9223372036854775807) (hp : points ≤ 9223372036854775807) (h1 : 0 ≤ num) (h2 : num ≤ den) (h3 : 1 ≤ den) (h4 : den ≤ 1024) (hq : Hid (lenOk points = true)) (h5 : 1 ≤ size) (h6 : size ≤ points) (h7 : 1 ≤ step) (h8 : step ≤ 4096) (h9 : 1 ≤ win) (h10 : win ≤ 3) (h11 : edges.length ≤ 33) (hg : Hid (edgOk edges points = false)) :
    Calls Tryd.prog 23 #[.agg #[.int .i64 num, .int .i64 den, .int .i64 size, .int .i64 step, .int .i64 win, .int .i64 points, .slice E edges.length ec, .int .i64 cep, .bool diff, .bool cen]] w (RetB false w) := by
  have HL := Lib.hid (fun o => hE.alloc (w := w) o)
  go_enter Tryd.func23, Tryd.ntmps23
  go_wp2_with fail
  refine (possible_any points _ hp true hq).mono ?_
  rintro e w' ⟨rfl, rfl⟩
  go_wp2_with fail
  refine (edged_any E ec points edges _ (HL.out _) hel false hg).mono ?_
  rintro e w' ⟨rfl, rfl⟩
  go_wp2_with fail
  go_ret
  exact ⟨rfl, (Below.refl _ _).alloc (Nat.le_refl _) _⟩
set_option maxRecDepth 100000 in
set_option maxHeartbeats 2000000 in
theorem fValid_f (num den size step win : Int) (points : Nat) (E : Option Addr) (ec : Nat) (edges : List Int) (cep : Int) (diff cen : Bool) (w : World) (hE : Lies w E (ics edges)) (hel : edges.length ≤ 9223372036854775807) (hp : points ≤ 9223372036854775807) (h1 : 0 ≤ num) (h2 : num ≤ den) (h3 : 1 ≤ den) (h4 : den ≤ 1024) (hq : Hid (lenOk points = true)) (h5 : 1 ≤ size) (h6 : size ≤ points) (h7 : 1 ≤ step) (h8 : step ≤ 4096) (h9 : 1 ≤ win) (h10 : win ≤ 3) (h11 : edges.length ≤ 33) (hg : Hid (edgOk edges points = true)) (h12 : 2 ≤ edges.length) (h13 : cep < 0) :
    Calls Tryd.prog 23 #[.agg #[.int .i64 num, .int .i64 den, .int .i64 size, .int .i64 step, .int .i64 win, .int .i64 points, .slice E edges.length ec, .int .i64 cep, .bool diff, .bool cen]] w (RetB false w) := by
  have hd : decide (0 ≤ cep) = false := decide_eq_false (by omega)
  have HL := Lib.hid (fun o => hE.alloc (w := w) o)
  go_enter Tryd.func23, Tryd.ntmps23
  go_wp2_with fail
  refine (possible_any points _ hp true hq).mono ?_
  rintro e w' ⟨rfl, rfl⟩
  go_wp2_with fail
  refine (edged_any E ec points edges _ (HL.out _) hel true hg).mono ?_
  rintro e w' ⟨rfl, rfl⟩
  go_wp2_with fail
  go_quiet (fail)
  go_wp2_with fail
  go_ret
  exact ⟨rfl, ((Below.refl _ _).alloc (Nat.le_refl _) _).trans (below_drewN' _ _)⟩
set_option maxRecDepth 100000 in
set_option maxHeartbeats 2000000 in
theorem fValid_g (num den size step win : Int) (points : Nat) (E : Option Addr) (ec : Nat) (edges : List Int) (cep : Int) (diff cen : Bool) (w : World) (hE : Lies w E (ics edges)) (hel : edges.length ≤ 9223372036854775807) (hp : points ≤ 9223372036854775807) (h1 : 0 ≤ num) (h2 : num ≤ den) (h3 : 1 ≤ den) (h4 : den ≤ 1024) (hq : Hid (lenOk points = true)) (h5 : 1 ≤ size) (h6 : size ≤ points) (h7 : 1 ≤ step) (h8 : step ≤ 4096) (h9 : 1 ≤ win) (h10 : win ≤ 3) (h11 : edges.length ≤ 33) (hg : Hid (edgOk edges points = true)) (h12 : 2 ≤ edges.length) (h13 : 0 ≤ cep) (b : Bool) (hb : Hid (decide (cep ≤ (fit (edges.length - 1) : Nat)) = b)) :
    Calls Tryd.prog 23 #[.agg #[.int .i64 num, .int .i64 den, .int .i64 size, .int .i64 step, .int .i64 win, .int .i64 points, .slice E edges.length ec, .int .i64 cep, .bool diff, .bool cen]] w (RetB b w) := by
  have hd : decide (0 ≤ cep) = true := decide_eq_true h13
  have p1 : IntKind.i64.wrap ((edges.length : Int) - 1) = ((edges.length - 1 : Nat) : Int) := by rw [IntWalk.i64_in _ (by omega)]; omega
  have HQ := Lib.hid (fun W => fitting_any (edges.length - 1) W (by omega))
  generalize fit (edges.length - 1) = ft at *
  have HL := Lib.hid (fun o => hE.alloc (w := w) o)
  go_enter Tryd.func23, Tryd.ntmps23
  go_wp2_with fail
  refine (possible_any points _ hp true hq).mono ?_
  rintro e w' ⟨rfl, rfl⟩
  go_wp2_with fail
  refine (edged_any E ec points edges _ (HL.out _) hel true hg).mono ?_
  rintro e w' ⟨rfl, rfl⟩
  go_wp2_with fail
  go_quiet ((go_at_call 35; exact Calls.quiet_of ((HQ.out _).mono fun _ _ ⟨he, hw⟩ => ⟨he, 0, by rw [← hw]; rfl⟩)))
  go_wp2_with fail
  go_ret
  exact ⟨ret_bool (by rw [← hb.out]), ((Below.refl _ _).alloc (Nat.le_refl _) _).trans (below_drewN' _ _)⟩
theorem no_b {b : Bool} {p : Prop} (hb : Hid (b = true ↔ p)) (h : ¬ p) : b = false := by
  cases b with
  | false => rfl
  | true => exact absurd (hb.out.1 rfl) h
theorem fValid_any (r : Rcp) (w : World) (hE : Lies w r.E (ics r.edges)) (hel : r.edges.length ≤ 9223372036854775807) (hp : r.points ≤ 9223372036854775807) (b : Bool) (hb : Hid (b = true ↔ RcpOk r)) : Calls Tryd.prog 23 #[r.val] w (RetB b w) := by
  obtain ⟨num, den, size, step, win, points, E, ec, edges, cep, diff, cen⟩ := r
  simp only at hE hel hp
  show Calls Tryd.prog 23 #[.agg #[.int .i64 num, .int .i64 den, .int .i64 size, .int .i64 step, .int .i64 win, .int .i64 points, .slice E edges.length ec, .int .i64 cep, .bool diff, .bool cen]] w (RetB b w)
  by_cases a1 : num < 0 ∨ (0 ≤ num ∧ den < num) ∨ (0 ≤ num ∧ num ≤ den ∧ den < 1) ∨ (0 ≤ num ∧ num ≤ den ∧ 1 ≤ den ∧ 1024 < den)
  · obtain rfl := no_b hb (fun h => by have h1 := h.n0; have h2 := h.n1; have h3 := h.d0; have h4 := h.d1; simp only at h1 h2 h3 h4; omega)
    exact fValid_a num den size step win points E ec edges cep diff cen w hE hel hp a1
  · have c1 : 0 ≤ num := by omega
    have c2 : num ≤ den := by omega
    have c3 : 1 ≤ den := by omega
    have c4 : den ≤ 1024 := by omega
    by_cases a2 : points < 0
    · obtain rfl := no_b hb (fun h => by have h1 := h.p0; simp only at h1; omega)
      exact fValid_b0 num den size step win points E ec edges cep diff cen w hE hel hp c1 c2 c3 c4 a2
    · obtain ⟨pn, rfl⟩ : ∃ pn : Nat, points = (pn : Int) := ⟨points.toNat, by omega⟩
      cases a3 : lenOk pn with
      | false =>
        obtain rfl := no_b hb (fun h => by have h1 := h.p1; simp only [Int.toNat_natCast] at h1; rw [a3] at h1; cases h1)
        exact fValid_b num den size step win pn E ec edges cep diff cen w hE hel (by omega) c1 c2 c3 c4 (Lib.hid a3)
      | true =>
        by_cases a4 : size < 1 ∨ (1 ≤ size ∧ (pn : Int) < size) ∨ (1 ≤ size ∧ size ≤ pn ∧ step < 1) ∨ (1 ≤ size ∧ size ≤ pn ∧ 1 ≤ step ∧ 4096 < step)
        · obtain rfl := no_b hb (fun h => by have h1 := h.s0; have h2 := h.s1; have h3 := h.t0; have h4 := h.t1; simp only at h1 h2 h3 h4; omega)
          exact fValid_c num den size step win pn E ec edges cep diff cen w hE hel (by omega) c1 c2 c3 c4 (Lib.hid a3) a4
        · have c5 : 1 ≤ size := by omega
          have c6 : size ≤ pn := by omega
          have c7 : 1 ≤ step := by omega
          have c8 : step ≤ 4096 := by omega
          by_cases a5 : win < 1 ∨ (1 ≤ win ∧ 3 < win) ∨ (1 ≤ win ∧ win ≤ 3 ∧ 33 < edges.length)
          · obtain rfl := no_b hb (fun h => by have h1 := h.k0; have h2 := h.k1; have h3 := h.e0; simp only at h1 h2 h3; omega)
            exact fValid_d num den size step win pn E ec edges cep diff cen w hE hel (by omega) c1 c2 c3 c4 (Lib.hid a3) c5 c6 c7 c8 a5
          · have c9 : 1 ≤ win := by omega
            have c10 : win ≤ 3 := by omega
            have c11 : edges.length ≤ 33 := by omega
            cases a6 : edgOk edges pn with
            | false =>
              obtain rfl := no_b hb (fun h => by have h1 := h.e1; simp only [Int.toNat_natCast] at h1; rw [a6] at h1; cases h1)
              exact fValid_e num den size step win pn E ec edges cep diff cen w hE hel (by omega) c1 c2 c3 c4 (Lib.hid a3) c5 c6 c7 c8 c9 c10 c11 (Lib.hid a6)
            | true =>
              have c12 : 2 ≤ edges.length := by
                unfold edgOk at a6
                simp only [Bool.and_eq_true, decide_eq_true_eq] at a6
                exact a6.2
              by_cases a7 : cep < 0
              · obtain rfl := no_b hb (fun h => by have h1 := h.c0; simp only at h1; omega)
                exact fValid_f num den size step win pn E ec edges cep diff cen w hE hel (by omega) c1 c2 c3 c4 (Lib.hid a3) c5 c6 c7 c8 c9 c10 c11 (Lib.hid a6) c12 a7
              · refine fValid_g num den size step win pn E ec edges cep diff cen w hE hel (by omega) c1 c2 c3 c4 (Lib.hid a3) c5 c6 c7 c8 c9 c10 c11 (Lib.hid a6) c12 (by omega) b (Lib.hid ?_)
                rw [Bool.eq_iff_iff, decide_eq_true_eq]
                refine ⟨fun h => hb.out.2 ⟨c1, c2, c3, c4, by simp only; omega, by simpa using a3, c5, c6, c7, c8, c9, c10, c11, by simpa using a6, by simp only; omega, h⟩, fun h => (hb.out.1 h).c1⟩
end Go.Proofs.YtnflpnbpigcfhabDoor
