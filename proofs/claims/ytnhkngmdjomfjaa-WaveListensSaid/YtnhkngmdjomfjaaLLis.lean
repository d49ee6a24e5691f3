/- WaveListens: the walk where nothing is heard -/
import Derived.Test.YtnhkngmdjomfjaaLRef2
import Derived.Test.YtnhkngmdjomfjaaLls
namespace Go.Proofs.Ytnhkngmdjomfjaa
open Go.RowKit Ear

/-- the first loop: the first k pieces have been looked at -/
def LisRel1 (l : List Inn) (n i : Value) : Prop :=
  ∃ k : Nat, k ≤ l.length ∧ i = .int .i64 k ∧ (∃ m : Int, n = .int .i64 m ∧ (l.length ≤ 30 → m = (flt l k).length)) ∧ ∀ x ∈ l.take k, smp x.2.2 = true
theorem smp_take_succ {l : List Inn} {k : Nat} (hk : k < l.length) (h : ∀ x ∈ l.take k, smp x.2.2 = true) (h1 : smp l[k].2.2 = true) : ∀ x ∈ l.take (k + 1), smp x.2.2 = true := by
  rw [List.take_succ_eq_append_getElem hk]
  intro x hx
  rcases List.mem_append.1 hx with h2 | h2
  · exact h x h2
  · simp at h2; subst h2; exact h1
theorem flt_smp {l : List Inn} (h : ∀ x ∈ l, smp x.2.2 = true) (k : Nat) : smp (flt l k) = true := by
  refine allR_of fun v hv => ?_
  unfold flt at hv
  obtain ⟨x, hx, hv⟩ := List.mem_flatMap.1 hv
  exact allR_mem (h x (List.mem_of_mem_take hx)) hv
/-- why nothing is heard -/
def LisNo (g : Gt) (l : List Inn) (ag : List Int) : Prop :=
  Hid (¬ ∀ x ∈ l, smp x.2.2 = true) ∨ (30 < l.length) ∨ (l.length ≤ 30 ∧ 2000 < (flt l l.length).length) ∨ (l.length ≤ 30 ∧ (flt l l.length).length ≤ 2000 ∧ 100 < ag.length) ∨
    (l.length ≤ 30 ∧ (flt l l.length).length ≤ 2000 ∧ ag.length ≤ 100 ∧ Hid (decide g.ok = false))

set_option maxRecDepth 100000 in
set_option maxHeartbeats 4000000 in
theorem WaveListens_no (g : Gt) (A A2 : Option Addr) (c c2 : Nat) (l : List Inn) (ag : List Int) (w : World) (h : Lies w A (lcs l)) (hi : ∀ x ∈ l, InOkS w x) (h2 : Lies w A2 (ics ag)) (hln : l.length ≤ 5864062014805) (hh : LisNo g l ag) :
    Calls Try.prog 9 #[.slice A l.length c, gateV g, .slice A2 ag.length c2] w fun e w' => e = .returned (.bool true) ∧ Below w.heap.size w w' := by
  have D0 := Lib.hid ((((Led.nil w).add h).add h2).alloc (.cells #[.int .i64 g.block, .int .i64 g.high, .int .i64 g.low, .int .i64 g.rise, .int .i64 g.fall, .int .i64 g.lead, .int .i64 g.longest] 41) |>.row (heap_alloc_new w _))
  have HI := Lib.hid (fun x hx => InOk.alloc (hi x hx).1 (.cells #[.int .i64 g.block, .int .i64 g.high, .int .i64 g.low, .int .i64 g.rise, .int .i64 g.fall, .int .i64 g.lead, .int .i64 g.longest] 41))
  have HB := Lib.hid (flt_bd hi)
  have HNO := Lib.hid hh
  clear h h2 hi hh
  obtain ⟨g1, g2, g3, g4, g5, g6, g7⟩ := g
  go_enter Try.func9, Try.ntmps9
  go_wp2_with fail
  go_loop [7, 8] (fun n i => LisRel1 l n i) (fun _ i => l.length - (intOf i).toNat)
  case atStart => exact ⟨0, Nat.zero_le _, rfl, ⟨0, rfl, fun _ => rfl⟩, fun x hx => by simp at hx⟩
  case round =>
    obtain ⟨k, hk, rfl, ⟨m, rfl, hm⟩, hp⟩ := hrel
    have HM := Lib.hid hm
    have HP := Lib.hid hp
    clear hm hp
    by_cases hlt : k < l.length
    · obtain ⟨b, off, rfl, hb, hc⟩ := (D0.out.lies 0 _ _ rfl).lat hlt
      have hx := HI.out l[k] (List.getElem_mem hlt)
      have HF := Lib.hid (flt_succ hlt)
      have HS := Lib.hid (smp_take_succ hlt HP.out)
      have hbk := HB.out (k + 1) (by omega)
      rw [HF.out, List.length_append] at hbk
      have hgk : HF.out = HF.out := rfl
      clear hgk
      generalize hxe : l[k] = x at *
      obtain ⟨xa, xc, xl⟩ := x
      simp only at hx hc hbk
      have HX := Lib.hid hx
      have hxl := hx.2.2.1
      clear hx
      cases hv : smp xl with
      | false =>
        have HV := Lib.hid hv
        clear hv
        go_wp2_with fail
        refine (All_any xa xc xl _ _ _ HX.out.1 (by omega) false HV).mono ?_
        rintro e w0 ⟨rfl, rfl⟩
        go_wp2_with fail
        refine (known2_any _).mono ?_
        rintro e w7 ⟨rfl, hb7⟩
        go_wp2_with fail
        go_ret
        exact ⟨rfl, bel_trans D0.out.bel hb7⟩
      | true =>
        have HV := Lib.hid hv
        clear hv
        by_cases h30 : l.length ≤ 30
        · have hm : m = (flt l k).length := HM.out h30
          have hm0 : 0 ≤ m := by omega
          have hm1 : m + xl.length ≤ 1000000000000000000 := by omega
          have HME := Lib.hid hm
          clear hm
          go_wp2_with fail
          refine (All_any xa xc xl _ _ _ HX.out.1 (by omega) true HV).mono ?_
          rintro e w0 ⟨rfl, rfl⟩
          go_wp2_with fail
          go_round
          case rel => exact ⟨k + 1, by omega, by go_num, ⟨_, rfl, fun _ => by rw [HF.out, List.length_append, HME.out]; simp⟩, HS.out HV.out⟩
          case measure => simp [intOf]; omega
        · go_wp2_with fail
          refine (All_any xa xc xl _ _ _ HX.out.1 (by omega) true HV).mono ?_
          rintro e w0 ⟨rfl, rfl⟩
          go_wp2_with fail
          go_round
          case rel => exact ⟨k + 1, by omega, by go_num, ⟨_, rfl, fun h => absurd h h30⟩, HS.out HV.out⟩
          case measure => simp [intOf]; omega
    · obtain rfl : k = l.length := by omega
      rw [List.take_length] at HP
      rcases HNO.out with h1 | h1 | ⟨h1, h2⟩ | ⟨h1, h2, h3⟩ | ⟨h1, h2, h3, h4⟩
      · exact absurd HP.out h1.out
      · by_cases hm : 2000 < m
        all_goals
          go_wp2_with fail
          refine (known2_any _).mono ?_
          rintro e w7 ⟨rfl, hb7⟩
          go_wp2_with fail
          go_ret
          exact ⟨rfl, bel_trans D0.out.bel hb7⟩
      · have hm := HM.out h1
        have hm2 : 2000 < m := by omega
        clear hm
        go_wp2_with fail
        refine (known2_any _).mono ?_
        rintro e w7 ⟨rfl, hb7⟩
        go_wp2_with fail
        go_ret
        exact ⟨rfl, bel_trans D0.out.bel hb7⟩
      · have hm := HM.out h1
        have hm2 : ¬ 2000 < m := by omega
        clear hm
        go_wp2_with fail
        refine (known2_any _).mono ?_
        rintro e w7 ⟨rfl, hb7⟩
        go_wp2_with fail
        go_ret
        exact ⟨rfl, bel_trans D0.out.bel hb7⟩
      · have hm := HM.out h1
        have hm2 : ¬ 2000 < m := by omega
        clear hm
        have q := row_of_led D0.out 2 w.heap.size ⟨g1, g2, g3, g4, g5, g6, g7⟩ rfl
        obtain ⟨q0, q1, q2, q3, q4, q5, q6⟩ := q
        simp only at q0 q1 q2 q3 q4 q5 q6
        go_wp2_with fail
        refine (Listen_bad ⟨g1, g2, g3, g4, g5, g6, g7⟩ _ h4).mono ?_
        rintro e w1 ⟨rfl, hb1⟩
        have D1 := Lib.hid (D0.out.below hb1)
        clear hb1 q0 q1 q2 q3 q4 q5 q6
        have q := row_of_led D1.out 2 w.heap.size ⟨g1, g2, g3, g4, g5, g6, g7⟩ rfl
        obtain ⟨q0, q1, q2, q3, q4, q5, q6⟩ := q
        simp only at q0 q1 q2 q3 q4 q5 q6
        go_wp2_with fail
        refine (rGate_any ⟨g1, g2, g3, g4, g5, g6, g7⟩ _ false h4).mono ?_
        rintro e w2 ⟨rfl, hb2⟩
        have D2 := Lib.hid (D1.out.below hb2)
        clear hb2 q0 q1 q2 q3 q4 q5 q6
        go_wp2_with fail
        refine (known2_any _).mono ?_
        rintro e w7 ⟨rfl, hb7⟩
        go_wp2_with fail
        go_ret
        exact ⟨rfl, bel_trans D2.out.bel hb7⟩
end Go.Proofs.Ytnhkngmdjomfjaa
