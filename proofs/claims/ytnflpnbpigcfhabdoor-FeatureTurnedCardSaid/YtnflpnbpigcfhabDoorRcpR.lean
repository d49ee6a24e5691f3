/- Valid of a recipe: the reference's -/
import Derived.Test.YtnflpnbpigcfhabDoorRcpV
import Derived.Test.YtnflpnbpigcfhabDoorRBnd
import Derived.Test.YtnflpnbpigcfhabDoorREmp
import Derived.Test.YtnflpnbpigcfhabDoorRWin
namespace Go.Proofs.YtnflpnbpigcfhabDoor
open Go.RowKit Ear
set_option linter.unusedVariables false

set_option maxHeartbeats 400000 in
theorem rLength_neg (n : Int) (w : World) (h : n < 0) : Calls Tryd.prog 11 #[.int .i64 n] w fun e w' => e = .returned (.bool false) ∧ w = w' := by
  have q1 : (n == 1) = false := beq_eq_false_iff_ne.2 (by omega)
  have q2 : (n == 2) = false := beq_eq_false_iff_ne.2 (by omega)
  have q4 : (n == 4) = false := beq_eq_false_iff_ne.2 (by omega)
  have q8 : (n == 8) = false := beq_eq_false_iff_ne.2 (by omega)
  have q16 : (n == 16) = false := beq_eq_false_iff_ne.2 (by omega)
  have q32 : (n == 32) = false := beq_eq_false_iff_ne.2 (by omega)
  have q64 : (n == 64) = false := beq_eq_false_iff_ne.2 (by omega)
  go_enter Tryd.func11, Tryd.ntmps11
  go_wp2_with fail
  go_ret
  exact ⟨rfl, rfl⟩
set_option maxRecDepth 100000 in
set_option maxHeartbeats 2000000 in
theorem rfValid_a (num den size step win : Int) (points : Int) (E : Option Addr) (ec : Nat) (edges : List Int) (cep : Int) (diff cen : Bool) (w : World) (hE : Lies w E (ics edges)) (hel : edges.length ≤ 9223372036854775807) (hp : points ≤ 9223372036854775807) (hs : Hid (decide (0 ≤ num ∧ num ≤ den ∧ 1 ≤ den ∧ den ≤ 1024) = false)) :
    Calls Tryd.prog 5 #[.agg #[.int .i64 num, .int .i64 den, .int .i64 size, .int .i64 step, .int .i64 win, .int .i64 points, .slice E edges.length ec, .int .i64 cep, .bool diff, .bool cen]] w (RetB false w) := by
  go_enter Tryd.func5, Tryd.ntmps5
  go_wp2_with fail
  refine (Shape_any num den _ false hs).mono ?_
  rintro e w' ⟨rfl, rfl⟩
  go_wp2_with fail
  go_ret
  exact ⟨rfl, (Below.refl _ _).alloc (Nat.le_refl _) _⟩
set_option maxRecDepth 100000 in
set_option maxHeartbeats 2000000 in
theorem rfValid_b0 (num den size step win : Int) (points : Int) (E : Option Addr) (ec : Nat) (edges : List Int) (cep : Int) (diff cen : Bool) (w : World) (hE : Lies w E (ics edges)) (hel : edges.length ≤ 9223372036854775807) (hp : points ≤ 9223372036854775807) (hs : Hid (decide (0 ≤ num ∧ num ≤ den ∧ 1 ≤ den ∧ den ≤ 1024) = true)) (h5 : points < 0) :
    Calls Tryd.prog 5 #[.agg #[.int .i64 num, .int .i64 den, .int .i64 size, .int .i64 step, .int .i64 win, .int .i64 points, .slice E edges.length ec, .int .i64 cep, .bool diff, .bool cen]] w (RetB false w) := by
  go_enter Tryd.func5, Tryd.ntmps5
  go_wp2_with fail
  refine (Shape_any num den _ true hs).mono ?_
  rintro e w' ⟨rfl, rfl⟩
  go_wp2_with fail
  refine (rLength_neg points _ h5).mono ?_
  rintro e w' ⟨rfl, rfl⟩
  go_wp2_with fail
  go_ret
  exact ⟨rfl, (Below.refl _ _).alloc (Nat.le_refl _) _⟩
set_option maxRecDepth 100000 in
set_option maxHeartbeats 2000000 in
theorem rfValid_b (num den size step win : Int) (points : Nat) (E : Option Addr) (ec : Nat) (edges : List Int) (cep : Int) (diff cen : Bool) (w : World) (hE : Lies w E (ics edges)) (hel : edges.length ≤ 9223372036854775807) (hp : points ≤ 9223372036854775807) (hs : Hid (decide (0 ≤ num ∧ num ≤ den ∧ 1 ≤ den ∧ den ≤ 1024) = true)) (hq : Hid (lenOk points = false)) :
    Calls Tryd.prog 5 #[.agg #[.int .i64 num, .int .i64 den, .int .i64 size, .int .i64 step, .int .i64 win, .int .i64 points, .slice E edges.length ec, .int .i64 cep, .bool diff, .bool cen]] w (RetB false w) := by
  go_enter Tryd.func5, Tryd.ntmps5
  go_wp2_with fail
  refine (Shape_any num den _ true hs).mono ?_
  rintro e w' ⟨rfl, rfl⟩
  go_wp2_with fail
  refine (rLength_any points _ hp false hq).mono ?_
  rintro e w' ⟨rfl, rfl⟩
  go_wp2_with fail
  go_ret
  exact ⟨rfl, (Below.refl _ _).alloc (Nat.le_refl _) _⟩
set_option maxRecDepth 100000 in
set_option maxHeartbeats 2000000 in
theorem rfValid_c (num den size step win : Int) (points : Nat) (E : Option Addr) (ec : Nat) (edges : List Int) (cep : Int) (diff cen : Bool) (w : World) (hE : Lies w E (ics edges)) (hel : edges.length ≤ 9223372036854775807) (hp : points ≤ 9223372036854775807) (hs : Hid (decide (0 ≤ num ∧ num ≤ den ∧ 1 ≤ den ∧ den ≤ 1024) = true)) (hq : Hid (lenOk points = true)) (h : size < 1 ∨ (1 ≤ size ∧ points < size) ∨ (1 ≤ size ∧ size ≤ points ∧ step < 1) ∨ (1 ≤ size ∧ size ≤ points ∧ 1 ≤ step ∧ 4096 < step)) :
    Calls Tryd.prog 5 #[.agg #[.int .i64 num, .int .i64 den, .int .i64 size, .int .i64 step, .int .i64 win, .int .i64 points, .slice E edges.length ec, .int .i64 cep, .bool diff, .bool cen]] w (RetB false w) := by
  rcases h with h5 | ⟨h5, h6⟩ | ⟨h5, h6, h7⟩ | ⟨h5, h6, h7, h8⟩
  all_goals
    go_enter Tryd.func5, Tryd.ntmps5
    go_wp2_with fail
    refine (Shape_any num den _ true hs).mono ?_
    rintro e w' ⟨rfl, rfl⟩
    go_wp2_with fail
    refine (rLength_any points _ hp true hq).mono ?_
    rintro e w' ⟨rfl, rfl⟩
    go_wp2_with fail
    go_ret
    exact ⟨rfl, (Below.refl _ _).alloc (Nat.le_refl _) _⟩
set_option maxRecDepth 100000 in
set_option maxHeartbeats 2000000 in
theorem rfValid_e (num den size step win : Int) (points : Nat) (E : Option Addr) (ec : Nat) (edges : List Int) (cep : Int) (diff cen : Bool) (w : World) (hE : Lies w E (ics edges)) (hel : edges.length ≤ 9223372036854775807) (hp : points ≤ 9223372036854775807) (hs : Hid (decide (0 ≤ num ∧ num ≤ den ∧ 1 ≤ den ∧ den ≤ 1024) = true)) (hq : Hid (lenOk points = true)) (h5 : 1 ≤ size) (h6 : size ≤ points) (h7 : 1 ≤ step) (h8 : step ≤ 4096) (hg : Hid (edgOk edges points = false)) :
    Calls Tryd.prog 5 #[.agg #[.int .i64 num, .int .i64 den, .int .i64 size, .int .i64 step, .int .i64 win, .int .i64 points, .slice E edges.length ec, .int .i64 cep, .bool diff, .bool cen]] w (RetB false w) := by
  have HL := Lib.hid (fun o => hE.alloc (w := w) o)
  go_enter Tryd.func5, Tryd.ntmps5
  go_wp2_with fail
  refine (Shape_any num den _ true hs).mono ?_
  rintro e w' ⟨rfl, rfl⟩
  go_wp2_with fail
  refine (rLength_any points _ hp true hq).mono ?_
  rintro e w' ⟨rfl, rfl⟩
  go_wp2_with fail
  refine (rEdges_all E ec points edges _ (HL.out _) hel false hg).mono ?_
  rintro e w' ⟨rfl, n1, hw1⟩
  have HB1 : Hid (Below w.heap.size w w') := Lib.hid (by rw [hw1]; exact ((Below.refl _ _).alloc (Nat.le_refl _) _).trans (below_drewN' _ _))
  have HR1 := Lib.hid hw1
  clear hw1
  go_wp2_with fail
  go_ret
  exact ⟨rfl, HB1.out⟩
set_option maxRecDepth 100000 in
set_option maxHeartbeats 2000000 in
theorem rfValid_e33 (num den size step win : Int) (points : Nat) (E : Option Addr) (ec : Nat) (edges : List Int) (cep : Int) (diff cen : Bool) (w : World) (hE : Lies w E (ics edges)) (hel : edges.length ≤ 9223372036854775807) (hp : points ≤ 9223372036854775807) (hs : Hid (decide (0 ≤ num ∧ num ≤ den ∧ 1 ≤ den ∧ den ≤ 1024) = true)) (hq : Hid (lenOk points = true)) (h5 : 1 ≤ size) (h6 : size ≤ points) (h7 : 1 ≤ step) (h8 : step ≤ 4096) (hg : Hid (edgOk edges points = true)) (h9 : 33 < edges.length) :
    Calls Tryd.prog 5 #[.agg #[.int .i64 num, .int .i64 den, .int .i64 size, .int .i64 step, .int .i64 win, .int .i64 points, .slice E edges.length ec, .int .i64 cep, .bool diff, .bool cen]] w (RetB false w) := by
  have HL := Lib.hid (fun o => hE.alloc (w := w) o)
  go_enter Tryd.func5, Tryd.ntmps5
  go_wp2_with fail
  refine (Shape_any num den _ true hs).mono ?_
  rintro e w' ⟨rfl, rfl⟩
  go_wp2_with fail
  refine (rLength_any points _ hp true hq).mono ?_
  rintro e w' ⟨rfl, rfl⟩
  go_wp2_with fail
  refine (rEdges_all E ec points edges _ (HL.out _) hel true hg).mono ?_
  rintro e w' ⟨rfl, n1, hw1⟩
  have HB1 : Hid (Below w.heap.size w w') := Lib.hid (by rw [hw1]; exact ((Below.refl _ _).alloc (Nat.le_refl _) _).trans (below_drewN' _ _))
  have HR1 := Lib.hid hw1
  subst hw1
  clear HR1
  go_wp2_with fail
  go_ret
  exact ⟨rfl, HB1.out⟩
set_option maxRecDepth 100000 in
set_option maxHeartbeats 2000000 in
theorem rfValid_d (num den size step win : Int) (points : Nat) (E : Option Addr) (ec : Nat) (edges : List Int) (cep : Int) (diff cen : Bool) (w : World) (hE : Lies w E (ics edges)) (hel : edges.length ≤ 9223372036854775807) (hp : points ≤ 9223372036854775807) (hs : Hid (decide (0 ≤ num ∧ num ≤ den ∧ 1 ≤ den ∧ den ≤ 1024) = true)) (hq : Hid (lenOk points = true)) (h5 : 1 ≤ size) (h6 : size ≤ points) (h7 : 1 ≤ step) (h8 : step ≤ 4096) (hg : Hid (edgOk edges points = true)) (h9 : edges.length ≤ 33) (h : win < 1 ∨ 3 < win ∨ size < 1 ∨ 4096 < size) :
    Calls Tryd.prog 5 #[.agg #[.int .i64 num, .int .i64 den, .int .i64 size, .int .i64 step, .int .i64 win, .int .i64 points, .slice E edges.length ec, .int .i64 cep, .bool diff, .bool cen]] w (RetB false w) := by
  have HL := Lib.hid (fun o => hE.alloc (w := w) o)
  go_enter Tryd.func5, Tryd.ntmps5
  go_wp2_with fail
  refine (Shape_any num den _ true hs).mono ?_
  rintro e w' ⟨rfl, rfl⟩
  go_wp2_with fail
  refine (rLength_any points _ hp true hq).mono ?_
  rintro e w' ⟨rfl, rfl⟩
  go_wp2_with fail
  refine (rEdges_all E ec points edges _ (HL.out _) hel true hg).mono ?_
  rintro e w' ⟨rfl, n1, hw1⟩
  have HB1 : Hid (Below w.heap.size w w') := Lib.hid (by rw [hw1]; exact ((Below.refl _ _).alloc (Nat.le_refl _) _).trans (below_drewN' _ _))
  have HR1 := Lib.hid hw1
  subst hw1
  clear HR1
  go_wp2_with fail
  refine (rWindow_bad win size _ h).mono ?_
  rintro e w2 ⟨A2, c2, rfl, ho2, hb2⟩
  have HB2 := Lib.hid (HB1.out.trans (hb2.mono HB1.out.size))
  simp only [List.length_nil]
  clear ho2 hb2
  go_wp2_with fail
  go_quiet (fail)
  go_wp2_with fail
  go_ret
  exact ⟨rfl, HB2.out.trans (below_drewN' _ _)⟩
set_option maxRecDepth 100000 in
set_option maxHeartbeats 2000000 in
theorem rfValid_f (num den size step win : Int) (points : Nat) (E : Option Addr) (ec : Nat) (edges : List Int) (cep : Int) (diff cen : Bool) (w : World) (hE : Lies w E (ics edges)) (hel : edges.length ≤ 9223372036854775807) (hp : points ≤ 9223372036854775807) (hs : Hid (decide (0 ≤ num ∧ num ≤ den ∧ 1 ≤ den ∧ den ≤ 1024) = true)) (hq : Hid (lenOk points = true)) (h5 : 1 ≤ size) (h6 : size ≤ points) (h7 : 1 ≤ step) (h8 : step ≤ 4096) (hg : Hid (edgOk edges points = true)) (h9 : edges.length ≤ 33) (h10 : 1 ≤ win) (h11 : win ≤ 3) (sz : Nat) (hsz : Hid (size = (sz : Int))) (hz1 : 1 ≤ sz) (hz2 : sz ≤ 4096) (h13 : cep < 0) :
    Calls Tryd.prog 5 #[.agg #[.int .i64 num, .int .i64 den, .int .i64 size, .int .i64 step, .int .i64 win, .int .i64 points, .slice E edges.length ec, .int .i64 cep, .bool diff, .bool cen]] w (RetB false w) := by
  have HZ := hsz.out
  clear hsz
  subst HZ
  have hd : decide (0 ≤ cep) = false := decide_eq_false (by omega)
  have HL := Lib.hid (fun o => hE.alloc (w := w) o)
  go_enter Tryd.func5, Tryd.ntmps5
  go_wp2_with fail
  refine (Shape_any num den _ true hs).mono ?_
  rintro e w' ⟨rfl, rfl⟩
  go_wp2_with fail
  refine (rLength_any points _ hp true hq).mono ?_
  rintro e w' ⟨rfl, rfl⟩
  go_wp2_with fail
  refine (rEdges_all E ec points edges _ (HL.out _) hel true hg).mono ?_
  rintro e w' ⟨rfl, n1, hw1⟩
  have HB1 : Hid (Below w.heap.size w w') := Lib.hid (by rw [hw1]; exact ((Below.refl _ _).alloc (Nat.le_refl _) _).trans (below_drewN' _ _))
  have HR1 := Lib.hid hw1
  subst hw1
  clear HR1
  go_wp2_with fail
  refine (rWindow_ok win sz _ h10 h11 hz1 hz2).mono ?_
  rintro e w2 ⟨A2, c2, rfl, ho2, hb2⟩
  have HB2 := Lib.hid (HB1.out.trans (hb2.mono HB1.out.size))
  obtain ⟨hcell, -⟩ := bcell hb2
  have hs2 := hb2.size
  simp at hs2
  have k7 : w2.cell? ⟨w.heap.size, 7, none⟩ = some (.int .i64 cep) := by rw [hcell _ _ (by simp)]; simp [go_sem]
  have k6 : w2.cell? ⟨w.heap.size, 6, none⟩ = some (.slice E edges.length ec) := by rw [hcell _ _ (by simp)]; simp [go_sem]
  clear ho2 hb2 hcell hs2
  go_wp2_with fail
  go_quiet (fail)
  go_wp2_with fail
  go_ret
  exact ⟨rfl, HB2.out.trans (below_drewN' _ _)⟩
set_option maxRecDepth 100000 in
set_option maxHeartbeats 2000000 in
theorem rfValid_g (num den size step win : Int) (points : Nat) (E : Option Addr) (ec : Nat) (edges : List Int) (cep : Int) (diff cen : Bool) (w : World) (hE : Lies w E (ics edges)) (hel : edges.length ≤ 9223372036854775807) (hp : points ≤ 9223372036854775807) (hs : Hid (decide (0 ≤ num ∧ num ≤ den ∧ 1 ≤ den ∧ den ≤ 1024) = true)) (hq : Hid (lenOk points = true)) (h5 : 1 ≤ size) (h6 : size ≤ points) (h7 : 1 ≤ step) (h8 : step ≤ 4096) (hg : Hid (edgOk edges points = true)) (h9 : edges.length ≤ 33) (h10 : 1 ≤ win) (h11 : win ≤ 3) (sz : Nat) (hsz : Hid (size = (sz : Int))) (hz1 : 1 ≤ sz) (hz2 : sz ≤ 4096) (h12 : 2 ≤ edges.length) (h13 : 0 ≤ cep) (b : Bool) (hb : Hid (decide (cep ≤ (pad (edges.length - 1) : Nat)) = b)) :
    Calls Tryd.prog 5 #[.agg #[.int .i64 num, .int .i64 den, .int .i64 size, .int .i64 step, .int .i64 win, .int .i64 points, .slice E edges.length ec, .int .i64 cep, .bool diff, .bool cen]] w (RetB b w) := by
  have HZ := hsz.out
  clear hsz
  subst HZ
  have hd : decide (0 ≤ cep) = true := decide_eq_true h13
  have p1 : IntKind.i64.wrap ((edges.length : Int) - 1) = ((edges.length - 1 : Nat) : Int) := by rw [IntWalk.i64_in _ (by omega)]; omega
  have HQ := Lib.hid (fun W => rPadded_any (edges.length - 1) W (by omega))
  generalize pad (edges.length - 1) = ft at *
  have HL := Lib.hid (fun o => hE.alloc (w := w) o)
  go_enter Tryd.func5, Tryd.ntmps5
  go_wp2_with fail
  refine (Shape_any num den _ true hs).mono ?_
  rintro e w' ⟨rfl, rfl⟩
  go_wp2_with fail
  refine (rLength_any points _ hp true hq).mono ?_
  rintro e w' ⟨rfl, rfl⟩
  go_wp2_with fail
  refine (rEdges_all E ec points edges _ (HL.out _) hel true hg).mono ?_
  rintro e w' ⟨rfl, n1, hw1⟩
  have HB1 : Hid (Below w.heap.size w w') := Lib.hid (by rw [hw1]; exact ((Below.refl _ _).alloc (Nat.le_refl _) _).trans (below_drewN' _ _))
  have HR1 := Lib.hid hw1
  subst hw1
  clear HR1
  go_wp2_with fail
  refine (rWindow_ok win sz _ h10 h11 hz1 hz2).mono ?_
  rintro e w2 ⟨A2, c2, rfl, ho2, hb2⟩
  have HB2 := Lib.hid (HB1.out.trans (hb2.mono HB1.out.size))
  obtain ⟨hcell, -⟩ := bcell hb2
  have hs2 := hb2.size
  simp at hs2
  have k7 : w2.cell? ⟨w.heap.size, 7, none⟩ = some (.int .i64 cep) := by rw [hcell _ _ (by simp)]; simp [go_sem]
  have k6 : w2.cell? ⟨w.heap.size, 6, none⟩ = some (.slice E edges.length ec) := by rw [hcell _ _ (by simp)]; simp [go_sem]
  clear ho2 hb2 hcell hs2
  go_wp2_with fail
  go_quiet ((go_at_call 14; exact Calls.quiet_of ((HQ.out _).mono fun _ _ ⟨he, hw⟩ => ⟨he, 0, by rw [← hw]; rfl⟩)))
  go_wp2_with fail
  go_ret
  exact ⟨ret_bool (by rw [← hb.out]), HB2.out.trans (below_drewN' _ _)⟩
theorem rfValid_any (r : Rcp) (w : World) (hE : Lies w r.E (ics r.edges)) (hel : r.edges.length ≤ 9223372036854775807) (hp : r.points ≤ 9223372036854775807) (b : Bool) (hb : Hid (b = true ↔ RcpOk r)) : Calls Tryd.prog 5 #[r.val] w (RetB b w) := by
  obtain ⟨num, den, size, step, win, points, E, ec, edges, cep, diff, cen⟩ := r
  simp only at hE hel hp
  show Calls Tryd.prog 5 #[.agg #[.int .i64 num, .int .i64 den, .int .i64 size, .int .i64 step, .int .i64 win, .int .i64 points, .slice E edges.length ec, .int .i64 cep, .bool diff, .bool cen]] w (RetB b w)
  cases a1 : decide (0 ≤ num ∧ num ≤ den ∧ 1 ≤ den ∧ den ≤ 1024) with
  | false =>
    obtain rfl := no_b hb (fun h => by have h1 := h.n0; have h2 := h.n1; have h3 := h.d0; have h4 := h.d1; simp only at h1 h2 h3 h4; exact absurd ⟨h1, h2, h3, h4⟩ (of_decide_eq_false a1))
    exact rfValid_a num den size step win points E ec edges cep diff cen w hE hel hp (Lib.hid a1)
  | true =>
    obtain ⟨c1, c2, c3, c4⟩ := of_decide_eq_true a1
    by_cases a2 : points < 0
    · obtain rfl := no_b hb (fun h => by have h1 := h.p0; simp only at h1; omega)
      exact rfValid_b0 num den size step win points E ec edges cep diff cen w hE hel hp (Lib.hid a1) a2
    · obtain ⟨pn, rfl⟩ : ∃ pn : Nat, points = (pn : Int) := ⟨points.toNat, by omega⟩
      cases a3 : lenOk pn with
      | false =>
        obtain rfl := no_b hb (fun h => by have h1 := h.p1; simp only [Int.toNat_natCast] at h1; rw [a3] at h1; cases h1)
        exact rfValid_b num den size step win pn E ec edges cep diff cen w hE hel (by omega) (Lib.hid a1) (Lib.hid a3)
      | true =>
        have p64 := lenOk_bd a3
        by_cases a4 : size < 1 ∨ (1 ≤ size ∧ (pn : Int) < size) ∨ (1 ≤ size ∧ size ≤ pn ∧ step < 1) ∨ (1 ≤ size ∧ size ≤ pn ∧ 1 ≤ step ∧ 4096 < step)
        · obtain rfl := no_b hb (fun h => by have h1 := h.s0; have h2 := h.s1; have h3 := h.t0; have h4 := h.t1; simp only at h1 h2 h3 h4; omega)
          exact rfValid_c num den size step win pn E ec edges cep diff cen w hE hel (by omega) (Lib.hid a1) (Lib.hid a3) a4
        · have c5 : 1 ≤ size := by omega
          have c6 : size ≤ pn := by omega
          have c7 : 1 ≤ step := by omega
          have c8 : step ≤ 4096 := by omega
          cases a6 : edgOk edges pn with
          | false =>
            obtain rfl := no_b hb (fun h => by have h1 := h.e1; simp only [Int.toNat_natCast] at h1; rw [a6] at h1; cases h1)
            exact rfValid_e num den size step win pn E ec edges cep diff cen w hE hel (by omega) (Lib.hid a1) (Lib.hid a3) c5 c6 c7 c8 (Lib.hid a6)
          | true =>
            have c12 : 2 ≤ edges.length := by
              unfold edgOk at a6
              simp only [Bool.and_eq_true, decide_eq_true_eq] at a6
              exact a6.2
            by_cases a5 : 33 < edges.length
            · obtain rfl := no_b hb (fun h => by have h1 := h.e0; simp only at h1; omega)
              exact rfValid_e33 num den size step win pn E ec edges cep diff cen w hE hel (by omega) (Lib.hid a1) (Lib.hid a3) c5 c6 c7 c8 (Lib.hid a6) a5
            · have c11 : edges.length ≤ 33 := by omega
              by_cases a8 : win < 1 ∨ 3 < win
              · obtain rfl := no_b hb (fun h => by have h1 := h.k0; have h2 := h.k1; simp only at h1 h2; omega)
                exact rfValid_d num den size step win pn E ec edges cep diff cen w hE hel (by omega) (Lib.hid a1) (Lib.hid a3) c5 c6 c7 c8 (Lib.hid a6) c11 (by omega)
              · by_cases a7 : cep < 0
                · obtain rfl := no_b hb (fun h => by have h1 := h.c0; simp only at h1; omega)
                  exact rfValid_f num den size step win pn E ec edges cep diff cen w hE hel (by omega) (Lib.hid a1) (Lib.hid a3) c5 c6 c7 c8 (Lib.hid a6) c11 (by omega) (by omega) size.toNat (Lib.hid (by omega)) (by omega) (by omega) a7
                · refine rfValid_g num den size step win pn E ec edges cep diff cen w hE hel (by omega) (Lib.hid a1) (Lib.hid a3) c5 c6 c7 c8 (Lib.hid a6) c11 (by omega) (by omega) size.toNat (Lib.hid (by omega)) (by omega) (by omega) c12 (by omega) b (Lib.hid ?_)
                  have epd : pad (edges.length - 1) = fit (edges.length - 1) := by unfold pad; rw [if_pos (by omega)]
                  rw [epd, Bool.eq_iff_iff, decide_eq_true_eq]
                  refine ⟨fun h => hb.out.2 ⟨c1, c2, c3, c4, by simp only; omega, by simpa using a3, c5, c6, c7, c8, by simp only; omega, by simp only; omega, c11, by simpa using a6, by simp only; omega, h⟩, fun h => (hb.out.1 h).c1⟩
end Go.Proofs.YtnflpnbpigcfhabDoor
