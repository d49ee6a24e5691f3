/- FeatureTurned: the walk (printed by mk_ltur.py) -/
import Derived.Test.YtnflpnbpigcfhabDoorMe
import Derived.Test.YtnflpnbpigcfhabDoorRcpR
import Derived.Test.YtnflpnbpigcfhabDoorPTur
import Derived.Test.YtnflpnbpigcfhabDoorCutH
import Derived.Test.YtnflpnbpigcfhabDoorMc
namespace Go.Proofs.YtnflpnbpigcfhabDoor
open Go.RowKit Ear

theorem rcp_dec' (r : Rcp) : ∃ b : Bool, b = true ↔ RcpOk r := by
  by_cases h : RcpOk r
  · exact ⟨true, Iff.intro (fun _ => h) (fun _ => rfl)⟩
  · exact ⟨false, Iff.intro (fun e => by cases e) (fun e => absurd e h)⟩
theorem RcBox.cells {w W : World} {rate : Int} {A : Option Addr} {n c : Nat} {num den size step win points : Int} {E : Option Addr} {ec : Nat} {edges : List Int} {ce : Int} {diff cen : Bool} (h : RcBox w W rate A n c ⟨num, den, size, step, win, points, E, ec, edges, ce, diff, cen⟩) :
    W.cell? ⟨w.heap.size, 0, none⟩ = some (.int .i64 rate) ∧ W.cell? ⟨w.heap.size, 1, none⟩ = some (.slice A n c) ∧ W.cell? ⟨w.heap.size + 1, 0, none⟩ = some (.int .i64 num) ∧ W.cell? ⟨w.heap.size + 1, 1, none⟩ = some (.int .i64 den) ∧ W.cell? ⟨w.heap.size + 1, 2, none⟩ = some (.int .i64 size) ∧ W.cell? ⟨w.heap.size + 1, 3, none⟩ = some (.int .i64 step) ∧ W.cell? ⟨w.heap.size + 1, 4, none⟩ = some (.int .i64 win) ∧ W.cell? ⟨w.heap.size + 1, 5, none⟩ = some (.int .i64 points) ∧ W.cell? ⟨w.heap.size + 1, 6, none⟩ = some (.slice E edges.length ec) ∧ W.cell? ⟨w.heap.size + 1, 7, none⟩ = some (.int .i64 ce) ∧ W.cell? ⟨w.heap.size + 1, 8, none⟩ = some (.bool diff) ∧ W.cell? ⟨w.heap.size + 1, 9, none⟩ = some (.bool cen) := ⟨(rec_cells h.rec_).1, (rec_cells h.rec_).2, rcp_cells h.rcp⟩
theorem extL_len (l : List Int) (num den : Int) (size step : Nat) (win : Int) (pts : Nat) (edges : List Int) (ce : Nat) (diff cen : Bool) : (extL l num den size step win pts edges ce diff cen).length = frN l.length size step false := by
  unfold extL
  cases diff <;> cases cen <;> simp [difL_length, cenL_length, rawV_length]
theorem own_nil2 {w : World} {base : Nat} {t : TypeId} {A : Option Addr} {n c : Nat} {xs : List Value} (h : w.ownsRow base t 1 (.slice A n c) n xs) (hA : A = none) : c = 0 ∧ n = 0 := by
  subst hA
  rcases h.2 with ⟨h1, h2⟩ | ⟨g, cap, cur, hv, _⟩
  · injection h1 with _ e2 e3
    exact ⟨e3, e2⟩
  · injection hv with e; exact absurd e (by simp)
set_option maxRecDepth 100000 in
set_option maxHeartbeats 2000000 in
theorem FeatureTurned_far (rate : Int) (A : Option Addr) (c : Nat) (l : List Int) (num den size step win points : Int) (E : Option Addr) (ec : Nat) (edges : List Int) (ce : Int) (diff cen : Bool) (M : Option Addr) (mc : Nat) (more : List Int) (w : World) (hC : CosOk w) (hk : Kn)
    (hb : 300 < l.length ∨ (l.length ≤ 300 ∧ 100 < more.length)) :
    Calls Tryd.prog 3 #[recV rate A l.length c, .agg #[.int .i64 num, .int .i64 den, .int .i64 size, .int .i64 step, .int .i64 win, .int .i64 points, .slice E edges.length ec, .int .i64 ce, .bool diff, .bool cen], .slice M more.length mc] w (RetB true w) := by
  have D0 := Lib.hid (RcBox.new w rate A l.length c ⟨num, den, size, step, win, points, E, ec, edges, ce, diff, cen⟩)
  rcases hb with h1 | ⟨h1, h2⟩
  all_goals
    go_enter Tryd.func3, Tryd.ntmps3
    go_wp2_with fail
    refine (hk _ (hC.below D0.out.bel)).mono ?_
    rintro e w9 ⟨rfl, hb9⟩
    have B9 := Lib.hid (D0.out.bel.trans (hb9.mono D0.out.bel.size))
    clear hb9
    go_wp2_with fail
    go_ret
    exact ⟨rfl, B9.out⟩
set_option maxRecDepth 100000 in
set_option maxHeartbeats 4000000 in
theorem FeatureTurned_out (rate : Int) (A : Option Addr) (c : Nat) (l : List Int) (num den size step win points : Int) (E : Option Addr) (ec : Nat) (edges : List Int) (ce : Int) (diff cen : Bool) (M : Option Addr) (mc : Nat) (more : List Int) (w : World) (hC : CosOk w) (hk : Kn) (h : Lies w A (ics l)) (hE : Lies w E (ics edges)) (hM : Lies w M (ics more)) (hp : points ≤ 9223372036854775807) (hel : edges.length ≤ 9223372036854775807) (hn : l.length ≤ 300) (hm : more.length ≤ 100)
    (bw br b3 b4 : Bool) (hbw : Hid (decide (chk rate l = 0) = bw)) (hbr : Hid (br = true ↔ RcpOk ⟨num, den, size, step, win, points, E, ec, edges, ce, diff, cen⟩)) (H3 : Hid (allR (-32767) 32767 l = b3)) (H4 : Hid (allR (-32768) 32767 more = b4)) (hno : (bw && br && b3 && b4) = false) :
    Calls Tryd.prog 3 #[recV rate A l.length c, .agg #[.int .i64 num, .int .i64 den, .int .i64 size, .int .i64 step, .int .i64 win, .int .i64 points, .slice E edges.length ec, .int .i64 ce, .bool diff, .bool cen], .slice M more.length mc] w (RetB true w) := by
  have D0 := Lib.hid (RcBox.new w rate A l.length c ⟨num, den, size, step, win, points, E, ec, edges, ce, diff, cen⟩)
  have HRF := Lib.hid (fun W (hW : Lies W E (ics edges)) => rfValid_any ⟨num, den, size, step, win, points, E, ec, edges, ce, diff, cen⟩ W hW hel hp br hbr)
  clear hbr
  cases bw with
  | false =>
    go_enter Tryd.func3, Tryd.ntmps3
    go_wp2_with fail
    refine (rValid_any rate A c l _ (h.below D0.out.bel) (by omega) false hbw).mono ?_
    rintro e w3 ⟨rfl, hb3⟩
    have D1 := Lib.hid (D0.out.below hb3)
    clear hb3 D0
    go_wp2_with fail
    refine (hk _ (hC.below D1.out.bel)).mono ?_
    rintro e w9 ⟨rfl, hb9⟩
    have B9 := Lib.hid (D1.out.bel.trans (hb9.mono D1.out.bel.size))
    clear hb9
    go_wp2_with fail
    go_ret
    exact ⟨rfl, B9.out⟩
  | true =>
    cases br with
    | false =>
      go_enter Tryd.func3, Tryd.ntmps3
      go_wp2_with fail
      refine (rValid_any rate A c l _ (h.below D0.out.bel) (by omega) true hbw).mono ?_
      rintro e w3 ⟨rfl, hb3⟩
      have D1 := Lib.hid (D0.out.below hb3)
      clear hb3 D0
      obtain ⟨r0, r1, q0, q1, q2, q3, q4, q5, q6, q7, q8, q9⟩ := RcBox.cells D1.out
      go_wp2_with fail
      refine (HRF.out _ (hE.below D1.out.bel)).mono ?_
      rintro e w4 ⟨rfl, hb4⟩
      have D2 := Lib.hid (D1.out.below hb4)
      clear hb4 D1
      clear r0 r1 q0 q1 q2 q3 q4 q5 q6 q7 q8 q9
      go_wp2_with fail
      refine (hk _ (hC.below D2.out.bel)).mono ?_
      rintro e w9 ⟨rfl, hb9⟩
      have B9 := Lib.hid (D2.out.bel.trans (hb9.mono D2.out.bel.size))
      clear hb9
      go_wp2_with fail
      go_ret
      exact ⟨rfl, B9.out⟩
    | true =>
      cases b3 with
      | false =>
        go_enter Tryd.func3, Tryd.ntmps3
        go_wp2_with fail
        refine (rValid_any rate A c l _ (h.below D0.out.bel) (by omega) true hbw).mono ?_
        rintro e w3 ⟨rfl, hb3⟩
        have D1 := Lib.hid (D0.out.below hb3)
        clear hb3 D0
        obtain ⟨r0, r1, q0, q1, q2, q3, q4, q5, q6, q7, q8, q9⟩ := RcBox.cells D1.out
        go_wp2_with fail
        refine (HRF.out _ (hE.below D1.out.bel)).mono ?_
        rintro e w4 ⟨rfl, hb4⟩
        have D2 := Lib.hid (D1.out.below hb4)
        clear hb4 D1
        clear r0 r1 q0 q1 q2 q3 q4 q5 q6 q7 q8 q9
        obtain ⟨r0, r1, q0, q1, q2, q3, q4, q5, q6, q7, q8, q9⟩ := RcBox.cells D2.out
        go_wp2_with fail
        refine (All_any A c l (-32767) 32767 _ (h.below D2.out.bel) (by omega) false H3).mono ?_
        rintro e w5 ⟨rfl, rfl⟩
        go_wp2_with fail
        refine (hk _ (hC.below D2.out.bel)).mono ?_
        rintro e w9 ⟨rfl, hb9⟩
        have B9 := Lib.hid (D2.out.bel.trans (hb9.mono D2.out.bel.size))
        clear hb9
        go_wp2_with fail
        go_ret
        exact ⟨rfl, B9.out⟩
      | true =>
        cases b4 with
        | false =>
          go_enter Tryd.func3, Tryd.ntmps3
          go_wp2_with fail
          refine (rValid_any rate A c l _ (h.below D0.out.bel) (by omega) true hbw).mono ?_
          rintro e w3 ⟨rfl, hb3⟩
          have D1 := Lib.hid (D0.out.below hb3)
          clear hb3 D0
          obtain ⟨r0, r1, q0, q1, q2, q3, q4, q5, q6, q7, q8, q9⟩ := RcBox.cells D1.out
          go_wp2_with fail
          refine (HRF.out _ (hE.below D1.out.bel)).mono ?_
          rintro e w4 ⟨rfl, hb4⟩
          have D2 := Lib.hid (D1.out.below hb4)
          clear hb4 D1
          clear r0 r1 q0 q1 q2 q3 q4 q5 q6 q7 q8 q9
          obtain ⟨r0, r1, q0, q1, q2, q3, q4, q5, q6, q7, q8, q9⟩ := RcBox.cells D2.out
          go_wp2_with fail
          refine (All_any A c l (-32767) 32767 _ (h.below D2.out.bel) (by omega) true H3).mono ?_
          rintro e w5 ⟨rfl, rfl⟩
          go_wp2_with fail
          refine (All_any M mc more (-32768) 32767 _ (hM.below D2.out.bel) (by omega) false H4).mono ?_
          rintro e w6 ⟨rfl, rfl⟩
          go_wp2_with fail
          refine (hk _ (hC.below D2.out.bel)).mono ?_
          rintro e w9 ⟨rfl, hb9⟩
          have B9 := Lib.hid (D2.out.bel.trans (hb9.mono D2.out.bel.size))
          clear hb9
          go_wp2_with fail
          go_ret
          exact ⟨rfl, B9.out⟩
        | true =>
          exact absurd hno (by simp)
set_option maxRecDepth 100000 in
set_option maxHeartbeats 16000000 in
theorem FeatureTurned_ok (rate : Int) (A : Option Addr) (c : Nat) (l : List Int) (num den : Int) (size step : Nat) (win : Int) (pts : Nat) (E : Option Addr) (ec : Nat) (edges : List Int) (ce : Nat) (diff cen : Bool) (M : Option Addr) (mc : Nat) (more : List Int) (w : World) (hC : CosOk w) (hk : Kn)
    (h : Lies w A (ics l)) (hA : A = none → c = 0 ∧ l = []) (hE : Lies w E (ics edges)) (hM : Lies w M (ics more)) (hMn : M = none → mc = 0) (hn : l.length ≤ 300) (hm : more.length ≤ 100)
    (hbw : Hid (decide (chk rate l = 0) = true)) (ok : Hid (RcpOk ⟨num, den, size, step, win, pts, E, ec, edges, ce, diff, cen⟩)) (H3 : Hid (allR (-32767) 32767 l = true)) (H4 : Hid (allR (-32768) 32767 more = true)) :
    Calls Tryd.prog 3 #[recV rate A l.length c, .agg #[.int .i64 num, .int .i64 den, .int .i64 size, .int .i64 step, .int .i64 win, .int .i64 pts, .slice E edges.length ec, .int .i64 ce, .bool diff, .bool cen], .slice M more.length mc] w (RetB true w) := by
  obtain ⟨j0, hj0, ky0, ky1, ky2⟩ := info_parts int_info
  have KI := Lib.hid hj0; have KZ0 := Lib.hid ky0; have KZ1 := Lib.hid ky1; have KZ2 := Lib.hid ky2
  clear hj0 ky0 ky1 ky2
  have D0 := Lib.hid (RcBox.new w rate A l.length c ⟨num, den, size, step, win, pts, E, ec, edges, ce, diff, cen⟩)
  have HRF := Lib.hid (fun W (hW : Lies W E (ics edges)) => rfValid_any ⟨num, den, size, step, win, pts, E, ec, edges, ce, diff, cen⟩ W hW (by have := ok.out.e0; simp only at this ⊢; omega) (by have := ok.out.s1; have := lenOk_bd ok.out.p1; simp only [Int.toNat_natCast] at *; omega) true (Lib.hid (Iff.intro (fun _ => ok.out) (fun _ => rfl))))
  have hch := chk_ok.1 (of_decide_eq_true hbw.out)
  have hd0 : 1 ≤ den := ok.out.d0
  have s0 : 1 ≤ size := by have := ok.out.s0; simp only at this; omega
  have t0 : 1 ≤ step := by have := ok.out.t0; simp only at this; omega
  obtain ⟨out, ho⟩ : ∃ out, extL l num den size step win pts edges ce diff cen = out := ⟨_, rfl⟩
  have HO := Lib.hid ho
  have HOL : Hid (out.length = frN l.length size step false) := Lib.hid (by rw [← ho]; exact extL_len ..)
  have HN : Hid (extL (ngl l) num den size step win pts edges ce diff cen = out) := Lib.hid (by rw [← ho]; unfold extL; rw [rawV_ngl l num hd0])
  have HX : Hid (∀ W, CosOk W → Lies W A (ics l) → Lies W E (ics edges) → Calls Tryd.prog 8 #[recV rate A l.length c, .agg #[.int .i64 num, .int .i64 den, .int .i64 size, .int .i64 step, .int .i64 win, .int .i64 pts, .slice E edges.length ec, .int .i64 ce, .bool diff, .bool cen]] W (LLErr 0 out W)) := Lib.hid (fun W hc hl he => Extract_ok rate A c l num den size step win pts E ec edges ce diff cen W hc hl hA (by omega) he hbw ok _ HO)
  have HY : Hid (∀ W B d, CosOk W → Lies W B (ics (ngl l)) → (B = none → d = 0 ∧ ngl l = []) → Lies W E (ics edges) → Calls Tryd.prog 8 #[recV rate B l.length d, .agg #[.int .i64 num, .int .i64 den, .int .i64 size, .int .i64 step, .int .i64 win, .int .i64 pts, .slice E edges.length ec, .int .i64 ce, .bool diff, .bool cen]] W (LLErr 0 out W)) := Lib.hid (fun W B d hc hl hB he => by
    have := Extract_ok rate B d (ngl l) num den size step win pts E ec edges ce diff cen W hc hl hB (by rw [ngl_length]; omega) he (Lib.hid (by
      rw [decide_eq_true_iff]
      refine chk_ok.2 ⟨by rw [ngl_length]; omega, hch.2.1, hch.2.2.1, ?_⟩
      apply allR_of
      intro x hx
      obtain ⟨y, hy, rfl⟩ := List.mem_map.1 hx
      have := allR_mem H3.out hy
      omega)) ok out HN
    rw [ngl_length] at this
    exact this)
  have HZ : Hid (diff = false → cen = false → ∃ o3, extL (l ++ more) num den size step win pts edges ce diff cen = o3 ∧ o3.take out.length = out ∧ out.length ≤ o3.length ∧ o3.length ≤ 400 ∧ ∀ W B d, CosOk W → Lies W B (ics (l ++ more)) → (B = none → d = 0 ∧ l ++ more = []) → Lies W E (ics edges) → Calls Tryd.prog 8 #[recV rate B (l.length + more.length) d, .agg #[.int .i64 num, .int .i64 den, .int .i64 size, .int .i64 step, .int .i64 win, .int .i64 pts, .slice E edges.length ec, .int .i64 ce, .bool diff, .bool cen]] W (LLErr 0 o3 W)) := Lib.hid (fun hd hc0 => by
    refine ⟨_, rfl, ?_, ?_, ?_, fun W B d hc hl hB he => ?_⟩
    · rw [HOL.out, ← ho]
      subst hd hc0
      exact rawV_app l more num den s0 t0 win pts edges ce
    · rw [HOL.out, extL_len]
      exact frN_grow (by rw [List.length_append]; omega)
    · rw [extL_len]
      exact Nat.le_trans (frN_le s0 t0) (by rw [List.length_append]; omega)
    · have := Extract_ok rate B d (l ++ more) num den size step win pts E ec edges ce diff cen W hc hl hB (by rw [List.length_append]; omega) he (Lib.hid (by
        rw [decide_eq_true_iff]
        refine chk_ok.2 ⟨by rw [List.length_append]; omega, hch.2.1, hch.2.2.1, ?_⟩
        apply allR_of
        intro x hx
        rcases List.mem_append.1 hx with hx | hx
        · exact allR_mem (show allR (-32768) 32767 l = true from hch.2.2.2) hx
        · exact allR_mem H4.out hx)) ok _ (Lib.hid rfl)
      rw [List.length_append] at this
      exact this)
  have hout : out.length ≤ 300 := by rw [HOL.out]; exact Nat.le_trans (frN_le s0 t0) hn
  obtain ⟨_, z2, z3⟩ := frN_eqs (n := l.length) (size := size) (pad := false) t0 rfl
  rw [← HOL.out] at z2 z3
  have key : (size ≤ l.length ∧ ((l.length : Int) - size) / step + 1 = (out.length : Int)) ∨ (¬ size ≤ l.length ∧ out.length = 0) := by
    by_cases hs : size ≤ l.length
    · exact .inl ⟨hs, z2 rfl hs⟩
    · exact .inr ⟨hs, z3 rfl hs⟩
  have HKEY := Lib.hid key
  clear z2 z3 key HN HOL ho HO ok hch hd0
  go_enter Tryd.func3, Tryd.ntmps3
  go_wp2_with fail
  refine (rValid_any rate A c l _ (h.below D0.out.bel) (by omega) true hbw).mono ?_
  rintro e w3 ⟨rfl, hb3⟩
  have D1 := Lib.hid (D0.out.below hb3)
  clear hb3 D0
  obtain ⟨r0, r1, q0, q1, q2, q3, q4, q5, q6, q7, q8, q9⟩ := RcBox.cells D1.out
  go_wp2_with fail
  refine (HRF.out _ (hE.below D1.out.bel)).mono ?_
  rintro e w4 ⟨rfl, hb4⟩
  have D2 := Lib.hid (D1.out.below hb4)
  clear hb4 D1
  clear r0 r1 q0 q1 q2 q3 q4 q5 q6 q7 q8 q9
  obtain ⟨r0, r1, q0, q1, q2, q3, q4, q5, q6, q7, q8, q9⟩ := RcBox.cells D2.out
  go_wp2_with fail
  refine (All_any A c l (-32767) 32767 _ (h.below D2.out.bel) (by omega) true H3).mono ?_
  rintro e w5 ⟨rfl, rfl⟩
  go_wp2_with fail
  refine (All_any M mc more (-32768) 32767 _ (hM.below D2.out.bel) (by omega) true H4).mono ?_
  rintro e w6 ⟨rfl, rfl⟩
  go_wp2_with fail
  go_loopw [7, 8] (fun t i wr => ∃ k : Nat, k ≤ l.length ∧ i = .int .i64 k ∧ ∃ A' c', t = .slice A' k c' ∧ wr.ownsRow w4.heap.size 3 1 (.slice A' k c') k (ics (ngl (l.take k))) ∧ Below w4.heap.size w4 wr) (fun _ i _ => l.length - (intOf i).toNat)
  case atStart => exact ⟨0, by omega, rfl, none, 0, rfl, World.ownsRow_nil _ _ _ _, Below.refl _ _⟩
  case round =>
    clear r0 r1 q0 q1 q2 q3 q4 q5 q6 q7 q8 q9
    obtain ⟨k, hk1, rfl, A', c', rfl, ho, hbel⟩ := hrel
    have DW := Lib.hid (D2.out.below hbel)
    have HOW := Lib.hid ho
    have HBE := Lib.hid hbel
    obtain ⟨r0, r1, q0, q1, q2, q3, q4, q5, q6, q7, q8, q9⟩ := RcBox.cells DW.out
    clear ho hbel
    by_cases hlt : k < l.length
    · have h' := h.below DW.out.bel
      obtain ⟨b, off, eA, hbl, hcl⟩ := h'.at_ hlt
      subst eA
      rw [List.getElem?_eq_getElem hlt, Option.getD_some] at hcl
      have hx := allR_get H3.out hlt
      have HTK : Hid (ics (ngl (l.take (k + 1))) = ics (ngl (l.take k)) ++ [.int .i64 (-l[k])]) := Lib.hid (by rw [List.take_succ_eq_append_getElem hlt]; unfold ngl ics; rw [List.map_append, List.map_append]; rfl)
      generalize l[k] = x at *
      have p1 : IntKind.i64.wrap (-x) = -x := IntWalk.i64_in _ (by omega)
      go_wp2_with (at_builtin; refine wpList_append_srcG _ rfl (.tmp 54) (.tmp 61) _ rfl w4.heap.size 3 j0 _ 1 8 Tryd.underlying22 KI.out KZ0.out KZ1.out KZ2.out rfl (by omega) (.slice A' k c') k (ics (ngl (l.take k))) rfl (HOW.out.alloc _) (some ⟨wr.heap.size, 0, none⟩) 1 1 [Value.int .i64 (-x)] rfl (fun e => by cases e) (lies_new _ _ _) (by simp) (by simp [Value.oneCell']) (by unfold maxLen; omega) (by omega) (by have := HBE.out.size; simp; omega) (k + 1) rfl ?_; intro A9 c9 w9 ho9 hg9 _)
      exact ⟨⟨k + 1, by omega, by go_num, A9, c9, rfl, by rw [HTK.out]; exact ho9, (HBE.out.alloc HBE.out.size _).grown hg9 (by have := HBE.out.size; simp; omega) (fun q hq => (HOW.out.lt q hq).1)⟩, by simp [intOf]; omega⟩
    · obtain rfl : k = l.length := by omega
      have ho' := HOW.out
      rw [List.take_length] at ho'
      have HNL := Lib.hid (Lies.of_own ho')
      have HNN : Hid (A' = none → c' = 0 ∧ ngl l = []) := Lib.hid (fun e => by
        obtain ⟨e1, e2⟩ := own_nil2 ho' e
        exact ⟨e1, by rw [List.length_eq_zero_iff.1 e2]; rfl⟩)
      clear ho' HOW HBE D2 hlt hk1
      go_wp2_with fail
      refine (HX.out _ (hC.below DW.out.bel) (h.below DW.out.bel) (hE.below DW.out.bel)).mono ?_
      rintro e w5 ⟨A1, c1, L1, rfl, v1, o1, b1⟩
      have V1 := Lib.hid v1.out
      have M1 := Lib.hid o1.ll
      have D3 := Lib.hid (DW.out.below b1)
      have HNL3 := Lib.hid (HNL.out.below b1)
      clear v1 o1 b1 DW HNL r0 r1 q0 q1 q2 q3 q4 q5 q6 q7 q8 q9
      obtain ⟨r0, r1, q0, q1, q2, q3, q4, q5, q6, q7, q8, q9⟩ := RcBox.cells D3.out
      go_wp2_with fail
      refine (HY.out _ A' c' (hC.below D3.out.bel) HNL3.out HNN.out (hE.below D3.out.bel)).mono ?_
      rintro e w6 ⟨A2, c2, L2, rfl, v2, o2, b2⟩
      have V2 := Lib.hid v2.out
      have M2 := Lib.hid o2.ll
      have M1' := Lib.hid (M1.out.below b2)
      have D4 := Lib.hid (D3.out.below b2)
      have HL1 : Hid (L1.length = out.length) := Lib.hid (by have := congrArg List.length V1.out; simpa using this)
      have HL2 : Hid (L2.length = out.length) := Lib.hid (by have := congrArg List.length V2.out; simpa using this)
      have hl1 : L1.length ≤ 300 := by rw [HL1.out]; exact hout
      clear v2 o2 b2 D3 M1 HNL3 HNN r0 r1 q0 q1 q2 q3 q4 q5 q6 q7 q8 q9
      go_wp2_with fail
      refine (SameLists_any A1 A2 c1 c2 L1 L2 w6 M1'.out M2.out (by omega) true (Lib.hid (by rw [V1.out, V2.out]; simp))).mono ?_
      rintro e w7 ⟨rfl, n7, rfl⟩
      have D5 : Hid (RcBox w (w6.drewN n7) rate A l.length c ⟨num, den, size, step, win, pts, E, ec, edges, ce, diff, cen⟩) := Lib.hid (D4.out.below (below_drewN' _ _))
      have M5 : Hid (LL (w6.drewN n7) A1 L1) := Lib.hid (M1'.out.below (below_drewN' _ _))
      clear D4 M1' M2 V2 HL2
      generalize w6.drewN n7 = W5 at *
      obtain ⟨r0, r1, q0, q1, q2, q3, q4, q5, q6, q7, q8, q9⟩ := RcBox.cells D5.out
      have key := HKEY.out
      rw [← HL1.out] at key
      rcases key with ⟨hsz, hqq⟩ | ⟨hsz, hqq⟩
      · by_cases hdc : diff = true ∨ cen = true
        · rcases hdc with rfl | rfl
          · go_wp2_with fail
            refine (hk _ (hC.below D5.out.bel)).mono ?_
            rintro e w9 ⟨rfl, hb9⟩
            have B9 := Lib.hid (D5.out.bel.trans (hb9.mono D5.out.bel.size))
            clear hb9
            go_wp2_with fail
            go_ret
            exact ⟨rfl, B9.out⟩
          · cases diff
            · go_wp2_with fail
              refine (hk _ (hC.below D5.out.bel)).mono ?_
              rintro e w9 ⟨rfl, hb9⟩
              have B9 := Lib.hid (D5.out.bel.trans (hb9.mono D5.out.bel.size))
              clear hb9
              go_wp2_with fail
              go_ret
              exact ⟨rfl, B9.out⟩
            · go_wp2_with fail
              refine (hk _ (hC.below D5.out.bel)).mono ?_
              rintro e w9 ⟨rfl, hb9⟩
              have B9 := Lib.hid (D5.out.bel.trans (hb9.mono D5.out.bel.size))
              clear hb9
              go_wp2_with fail
              go_ret
              exact ⟨rfl, B9.out⟩
        · obtain rfl : diff = false := by cases diff with | false => rfl | true => exact absurd (.inl rfl) hdc
          obtain rfl : cen = false := by cases cen with | false => rfl | true => exact absurd (.inr rfl) hdc
          obtain ⟨o3, _, ht3, hl3, h403, hX3⟩ := HZ.out rfl rfl
          have HT3 := Lib.hid ht3
          have HX3 := Lib.hid hX3
          clear HZ hX3 hdc ht3
          go_wp2_with fail
          have HG0 : Hid (W5.cell? ⟨w.heap.size, 0, none⟩ = some (.int .i64 rate) ∧ W5.cell? ⟨w.heap.size, 1, none⟩ = some (.slice A l.length c) ∧ W5.cell? ⟨w.heap.size + 1, 0, none⟩ = some (.int .i64 num) ∧ W5.cell? ⟨w.heap.size + 1, 1, none⟩ = some (.int .i64 den) ∧ W5.cell? ⟨w.heap.size + 1, 2, none⟩ = some (.int .i64 size) ∧ W5.cell? ⟨w.heap.size + 1, 3, none⟩ = some (.int .i64 step) ∧ W5.cell? ⟨w.heap.size + 1, 4, none⟩ = some (.int .i64 win) ∧ W5.cell? ⟨w.heap.size + 1, 5, none⟩ = some (.int .i64 pts) ∧ W5.cell? ⟨w.heap.size + 1, 6, none⟩ = some (.slice E edges.length ec) ∧ W5.cell? ⟨w.heap.size + 1, 7, none⟩ = some (.int .i64 ce) ∧ W5.cell? ⟨w.heap.size + 1, 8, none⟩ = some (.bool false) ∧ W5.cell? ⟨w.heap.size + 1, 9, none⟩ = some (.bool false)) := Lib.hid (RcBox.cells D5.out)
          have D5d : Hid (RcBox w W5.drew rate A l.length c ⟨num, den, size, step, win, pts, E, ec, edges, ce, false, false⟩) := Lib.hid ⟨D5.out.bel.drew, D5.out.rec_, D5.out.rcp⟩
          have HC5 : Hid (CosOk W5.drew) := Lib.hid (hC.below D5d.out.bel)
          clear r0 r1 q0 q1 q2 q3 q4 q5 q6 q7 q8 q9
          go_cut [9, 13, 14, 15] (fun t9 t13 t14 t15 wx => t9 = .slice A1 L1.length c1 ∧ t13 = .int .i64 (L1.length : Nat) ∧ ∃ A3 c3 L3, t14 = .slice A3 (L3 : List Inn).length c3 ∧ t15 = .int .i64 0 ∧ Hid (vsOf L3 = o3) ∧ LL wx A3 L3 ∧ L3.length ≤ c3 ∧ Below W5.heap.size W5 wx)
          case first =>
            go_region_held3 (fun w' => w'.cell? ⟨w.heap.size, 0, none⟩ = some (.int .i64 rate) ∧ w'.cell? ⟨w.heap.size, 1, none⟩ = some (.slice A l.length c) ∧ w'.cell? ⟨w.heap.size + 1, 0, none⟩ = some (.int .i64 num) ∧ w'.cell? ⟨w.heap.size + 1, 1, none⟩ = some (.int .i64 den) ∧ w'.cell? ⟨w.heap.size + 1, 2, none⟩ = some (.int .i64 size) ∧ w'.cell? ⟨w.heap.size + 1, 3, none⟩ = some (.int .i64 step) ∧ w'.cell? ⟨w.heap.size + 1, 4, none⟩ = some (.int .i64 win) ∧ w'.cell? ⟨w.heap.size + 1, 5, none⟩ = some (.int .i64 pts) ∧ w'.cell? ⟨w.heap.size + 1, 6, none⟩ = some (.slice E edges.length ec) ∧ w'.cell? ⟨w.heap.size + 1, 7, none⟩ = some (.int .i64 ce) ∧ w'.cell? ⟨w.heap.size + 1, 8, none⟩ = some (.bool false) ∧ w'.cell? ⟨w.heap.size + 1, 9, none⟩ = some (.bool false))
              (first | exact HG0.out | exact HG1.out | exact HG2.out | exact HG3.out)
              (first
                | (refine step_append_src _ (by rfl) (.const (.slice none 0 0)) (.tmp 121) _ (by rfl) W5.heap.size 3 j0 _ 1 8 Tryd.underlying22 KI.out KZ0.out KZ1.out KZ2.out rfl (by omega) (.slice none 0 0) 0 [] (by rfl) (World.ownsRow_nil _ _ _ _) A l.length c (ics l) (by rfl) (fun e => (hA e).1) (Lies.drew (h.below D5.out.bel)) (by simp) (ics_one _) (by unfold maxLen; omega) (by omega) (Nat.le_refl _) l.length (Nat.zero_add _) ?_; intro Aa ca wa howna hgra hata; simp only [List.nil_append] at howna; have Da := Lib.hid (D5d.out.below (below_none hgra)); have HG1 : Hid (wa.cell? ⟨w.heap.size, 0, none⟩ = some (.int .i64 rate) ∧ wa.cell? ⟨w.heap.size, 1, none⟩ = some (.slice A l.length c) ∧ wa.cell? ⟨w.heap.size + 1, 0, none⟩ = some (.int .i64 num) ∧ wa.cell? ⟨w.heap.size + 1, 1, none⟩ = some (.int .i64 den) ∧ wa.cell? ⟨w.heap.size + 1, 2, none⟩ = some (.int .i64 size) ∧ wa.cell? ⟨w.heap.size + 1, 3, none⟩ = some (.int .i64 step) ∧ wa.cell? ⟨w.heap.size + 1, 4, none⟩ = some (.int .i64 win) ∧ wa.cell? ⟨w.heap.size + 1, 5, none⟩ = some (.int .i64 pts) ∧ wa.cell? ⟨w.heap.size + 1, 6, none⟩ = some (.slice E edges.length ec) ∧ wa.cell? ⟨w.heap.size + 1, 7, none⟩ = some (.int .i64 ce) ∧ wa.cell? ⟨w.heap.size + 1, 8, none⟩ = some (.bool false) ∧ wa.cell? ⟨w.heap.size + 1, 9, none⟩ = some (.bool false)) := Lib.hid (RcBox.cells Da.out))
                | (refine step_append_src _ (by rfl) (.tmp 122) (.tmp 123) _ (by rfl) W5.heap.size 3 j0 _ 1 8 Tryd.underlying22 KI.out KZ0.out KZ1.out KZ2.out rfl (by omega) (.slice Aa l.length ca) l.length (ics l) (by rfl) howna M more.length mc (ics more) (by rfl) hMn (hM.below Da.out.bel) (by simp) (ics_one _) (by unfold maxLen; omega) (by omega) hgra.size (l.length + more.length) rfl ?_; intro Ab cb wb hownb hgrb hatb; have hbb : Below W5.drew.heap.size W5.drew wb := (below_none hgra).grown hgrb hgra.size (fun k hk => (howna.lt k hk).1); have Db := Lib.hid (D5d.out.below hbb); have HG2 : Hid (wb.cell? ⟨w.heap.size, 0, none⟩ = some (.int .i64 rate) ∧ wb.cell? ⟨w.heap.size, 1, none⟩ = some (.slice A l.length c) ∧ wb.cell? ⟨w.heap.size + 1, 0, none⟩ = some (.int .i64 num) ∧ wb.cell? ⟨w.heap.size + 1, 1, none⟩ = some (.int .i64 den) ∧ wb.cell? ⟨w.heap.size + 1, 2, none⟩ = some (.int .i64 size) ∧ wb.cell? ⟨w.heap.size + 1, 3, none⟩ = some (.int .i64 step) ∧ wb.cell? ⟨w.heap.size + 1, 4, none⟩ = some (.int .i64 win) ∧ wb.cell? ⟨w.heap.size + 1, 5, none⟩ = some (.int .i64 pts) ∧ wb.cell? ⟨w.heap.size + 1, 6, none⟩ = some (.slice E edges.length ec) ∧ wb.cell? ⟨w.heap.size + 1, 7, none⟩ = some (.int .i64 ce) ∧ wb.cell? ⟨w.heap.size + 1, 8, none⟩ = some (.bool false) ∧ wb.cell? ⟨w.heap.size + 1, 9, none⟩ = some (.bool false)) := Lib.hid (RcBox.cells Db.out); have LB : Hid (Lies wb Ab (ics (l ++ more))) := Lib.hid (by have := Lies.of_own hownb; simpa [ics] using this); have NB : Hid (Ab = none → cb = 0 ∧ l ++ more = []) := Lib.hid (fun e => by obtain ⟨e1, e2⟩ := own_nil2 hownb e; exact ⟨e1, List.length_eq_zero_iff.1 (by rw [List.length_append]; exact e2)⟩))
                | (go_at_call 8; refine (HX3.out _ Ab cb (hC.below Db.out.bel) LB.out NB.out (hE.below Db.out.bel)).mono ?_; rintro e wc ⟨A3, c3, L3, rfl, v3, oc, hbc⟩; have Dc := Lib.hid (Db.out.below hbc); have HG3 : Hid (wc.cell? ⟨w.heap.size, 0, none⟩ = some (.int .i64 rate) ∧ wc.cell? ⟨w.heap.size, 1, none⟩ = some (.slice A l.length c) ∧ wc.cell? ⟨w.heap.size + 1, 0, none⟩ = some (.int .i64 num) ∧ wc.cell? ⟨w.heap.size + 1, 1, none⟩ = some (.int .i64 den) ∧ wc.cell? ⟨w.heap.size + 1, 2, none⟩ = some (.int .i64 size) ∧ wc.cell? ⟨w.heap.size + 1, 3, none⟩ = some (.int .i64 step) ∧ wc.cell? ⟨w.heap.size + 1, 4, none⟩ = some (.int .i64 win) ∧ wc.cell? ⟨w.heap.size + 1, 5, none⟩ = some (.int .i64 pts) ∧ wc.cell? ⟨w.heap.size + 1, 6, none⟩ = some (.slice E edges.length ec) ∧ wc.cell? ⟨w.heap.size + 1, 7, none⟩ = some (.int .i64 ce) ∧ wc.cell? ⟨w.heap.size + 1, 8, none⟩ = some (.bool false) ∧ wc.cell? ⟨w.heap.size + 1, 9, none⟩ = some (.bool false)) := Lib.hid (RcBox.cells Dc.out)))
            go_wp2_with fail
            go_meet
            exact ⟨(by first | rfl | (rw [hqq])), (by first | rfl | (rw [hqq]; rfl)), A3, c3, L3, rfl, rfl, Lib.hid v3.out, oc.ll, own_cap oc.row, below_undrew (hbb.trans (hbc.mono hbb.size))⟩
          case rest =>
            obtain ⟨rfl, rfl, A3, c3, L3, rfl, rfl, v3, m3, hc3, BX⟩ := hcut
            obtain ⟨wx, hwx⟩ : ∃ x, x = wc := ⟨_, rfl⟩
            subst hwx
            have V3 := Lib.hid v3.out
            have M3 := Lib.hid m3
            have M1x := Lib.hid (M5.out.below BX)
            have BB := Lib.hid (D5.out.bel.trans (BX.mono D5.out.bel.size))
            have hge : L1.length ≤ L3.length := by rw [HL1.out]; have := congrArg List.length V3.out; simp at this; omega
            have hl3' : L3.length ≤ 400 := by have := congrArg List.length V3.out; simp at this; omega
            clear hqq v3 m3 BX M5 D5 D5d HC5 HG0
            have hcut := fun W => run_cutHs A3 L3.length c3 L1.length (by omega) W
            have hge2 : (L1.length : Int) ≤ (L3.length : Int) := by omega
            go_wp2_with fail
            have hsame := SameLists_any A3 A1 c3 c1 (L3.take L1.length) L1 wx ⟨(M3.out.take _).lies, (M3.out.take _).inn⟩ M1x.out (by rw [List.length_take]; omega) true (Lib.hid (by
              rw [decide_eq_true_iff]
              have e1 : vsOf (L3.take L1.length) = (vsOf L3).take L1.length := by simp [vsOf, List.map_take]
              rw [e1, V3.out, V1.out, HL1.out, HT3.out]))
            rw [List.length_take, Nat.min_eq_left hge] at hsame
            refine hsame.mono ?_
            rintro e w8 ⟨rfl, n8, rfl⟩
            have B8 : Hid (Below w.heap.size w (wx.drewN n8)) := Lib.hid (BB.out.trans (below_drewN' _ _))
            have C8 : Hid (CosOk (wx.drewN n8)) := Lib.hid (hC.below B8.out)
            go_wp2_with fail
            refine (hk _ C8.out).mono ?_
            rintro e w9 ⟨rfl, hb9⟩
            have B9 := Lib.hid (B8.out.trans (hb9.mono B8.out.size))
            clear hb9
            go_wp2_with fail
            go_ret
            exact ⟨rfl, B9.out⟩
      · by_cases hdc : diff = true ∨ cen = true
        · rcases hdc with rfl | rfl
          · go_wp2_with fail
            refine (hk _ (hC.below D5.out.bel)).mono ?_
            rintro e w9 ⟨rfl, hb9⟩
            have B9 := Lib.hid (D5.out.bel.trans (hb9.mono D5.out.bel.size))
            clear hb9
            go_wp2_with fail
            go_ret
            exact ⟨rfl, B9.out⟩
          · cases diff
            · go_wp2_with fail
              refine (hk _ (hC.below D5.out.bel)).mono ?_
              rintro e w9 ⟨rfl, hb9⟩
              have B9 := Lib.hid (D5.out.bel.trans (hb9.mono D5.out.bel.size))
              clear hb9
              go_wp2_with fail
              go_ret
              exact ⟨rfl, B9.out⟩
            · go_wp2_with fail
              refine (hk _ (hC.below D5.out.bel)).mono ?_
              rintro e w9 ⟨rfl, hb9⟩
              have B9 := Lib.hid (D5.out.bel.trans (hb9.mono D5.out.bel.size))
              clear hb9
              go_wp2_with fail
              go_ret
              exact ⟨rfl, B9.out⟩
        · obtain rfl : diff = false := by cases diff with | false => rfl | true => exact absurd (.inl rfl) hdc
          obtain rfl : cen = false := by cases cen with | false => rfl | true => exact absurd (.inr rfl) hdc
          obtain ⟨o3, _, ht3, hl3, h403, hX3⟩ := HZ.out rfl rfl
          have HT3 := Lib.hid ht3
          have HX3 := Lib.hid hX3
          clear HZ hX3 hdc ht3
          go_wp2_with fail
          have HG0 : Hid (W5.cell? ⟨w.heap.size, 0, none⟩ = some (.int .i64 rate) ∧ W5.cell? ⟨w.heap.size, 1, none⟩ = some (.slice A l.length c) ∧ W5.cell? ⟨w.heap.size + 1, 0, none⟩ = some (.int .i64 num) ∧ W5.cell? ⟨w.heap.size + 1, 1, none⟩ = some (.int .i64 den) ∧ W5.cell? ⟨w.heap.size + 1, 2, none⟩ = some (.int .i64 size) ∧ W5.cell? ⟨w.heap.size + 1, 3, none⟩ = some (.int .i64 step) ∧ W5.cell? ⟨w.heap.size + 1, 4, none⟩ = some (.int .i64 win) ∧ W5.cell? ⟨w.heap.size + 1, 5, none⟩ = some (.int .i64 pts) ∧ W5.cell? ⟨w.heap.size + 1, 6, none⟩ = some (.slice E edges.length ec) ∧ W5.cell? ⟨w.heap.size + 1, 7, none⟩ = some (.int .i64 ce) ∧ W5.cell? ⟨w.heap.size + 1, 8, none⟩ = some (.bool false) ∧ W5.cell? ⟨w.heap.size + 1, 9, none⟩ = some (.bool false)) := Lib.hid (RcBox.cells D5.out)
          have D5d : Hid (RcBox w W5.drew rate A l.length c ⟨num, den, size, step, win, pts, E, ec, edges, ce, false, false⟩) := Lib.hid ⟨D5.out.bel.drew, D5.out.rec_, D5.out.rcp⟩
          have HC5 : Hid (CosOk W5.drew) := Lib.hid (hC.below D5d.out.bel)
          clear r0 r1 q0 q1 q2 q3 q4 q5 q6 q7 q8 q9
          go_cut [9, 13, 14, 15] (fun t9 t13 t14 t15 wx => t9 = .slice A1 L1.length c1 ∧ t13 = .int .i64 (L1.length : Nat) ∧ ∃ A3 c3 L3, t14 = .slice A3 (L3 : List Inn).length c3 ∧ t15 = .int .i64 0 ∧ Hid (vsOf L3 = o3) ∧ LL wx A3 L3 ∧ L3.length ≤ c3 ∧ Below W5.heap.size W5 wx)
          case first =>
            go_region_held3 (fun w' => w'.cell? ⟨w.heap.size, 0, none⟩ = some (.int .i64 rate) ∧ w'.cell? ⟨w.heap.size, 1, none⟩ = some (.slice A l.length c) ∧ w'.cell? ⟨w.heap.size + 1, 0, none⟩ = some (.int .i64 num) ∧ w'.cell? ⟨w.heap.size + 1, 1, none⟩ = some (.int .i64 den) ∧ w'.cell? ⟨w.heap.size + 1, 2, none⟩ = some (.int .i64 size) ∧ w'.cell? ⟨w.heap.size + 1, 3, none⟩ = some (.int .i64 step) ∧ w'.cell? ⟨w.heap.size + 1, 4, none⟩ = some (.int .i64 win) ∧ w'.cell? ⟨w.heap.size + 1, 5, none⟩ = some (.int .i64 pts) ∧ w'.cell? ⟨w.heap.size + 1, 6, none⟩ = some (.slice E edges.length ec) ∧ w'.cell? ⟨w.heap.size + 1, 7, none⟩ = some (.int .i64 ce) ∧ w'.cell? ⟨w.heap.size + 1, 8, none⟩ = some (.bool false) ∧ w'.cell? ⟨w.heap.size + 1, 9, none⟩ = some (.bool false))
              (first | exact HG0.out | exact HG1.out | exact HG2.out | exact HG3.out)
              (first
                | (refine step_append_src _ (by rfl) (.const (.slice none 0 0)) (.tmp 121) _ (by rfl) W5.heap.size 3 j0 _ 1 8 Tryd.underlying22 KI.out KZ0.out KZ1.out KZ2.out rfl (by omega) (.slice none 0 0) 0 [] (by rfl) (World.ownsRow_nil _ _ _ _) A l.length c (ics l) (by rfl) (fun e => (hA e).1) (Lies.drew (h.below D5.out.bel)) (by simp) (ics_one _) (by unfold maxLen; omega) (by omega) (Nat.le_refl _) l.length (Nat.zero_add _) ?_; intro Aa ca wa howna hgra hata; simp only [List.nil_append] at howna; have Da := Lib.hid (D5d.out.below (below_none hgra)); have HG1 : Hid (wa.cell? ⟨w.heap.size, 0, none⟩ = some (.int .i64 rate) ∧ wa.cell? ⟨w.heap.size, 1, none⟩ = some (.slice A l.length c) ∧ wa.cell? ⟨w.heap.size + 1, 0, none⟩ = some (.int .i64 num) ∧ wa.cell? ⟨w.heap.size + 1, 1, none⟩ = some (.int .i64 den) ∧ wa.cell? ⟨w.heap.size + 1, 2, none⟩ = some (.int .i64 size) ∧ wa.cell? ⟨w.heap.size + 1, 3, none⟩ = some (.int .i64 step) ∧ wa.cell? ⟨w.heap.size + 1, 4, none⟩ = some (.int .i64 win) ∧ wa.cell? ⟨w.heap.size + 1, 5, none⟩ = some (.int .i64 pts) ∧ wa.cell? ⟨w.heap.size + 1, 6, none⟩ = some (.slice E edges.length ec) ∧ wa.cell? ⟨w.heap.size + 1, 7, none⟩ = some (.int .i64 ce) ∧ wa.cell? ⟨w.heap.size + 1, 8, none⟩ = some (.bool false) ∧ wa.cell? ⟨w.heap.size + 1, 9, none⟩ = some (.bool false)) := Lib.hid (RcBox.cells Da.out))
                | (refine step_append_src _ (by rfl) (.tmp 122) (.tmp 123) _ (by rfl) W5.heap.size 3 j0 _ 1 8 Tryd.underlying22 KI.out KZ0.out KZ1.out KZ2.out rfl (by omega) (.slice Aa l.length ca) l.length (ics l) (by rfl) howna M more.length mc (ics more) (by rfl) hMn (hM.below Da.out.bel) (by simp) (ics_one _) (by unfold maxLen; omega) (by omega) hgra.size (l.length + more.length) rfl ?_; intro Ab cb wb hownb hgrb hatb; have hbb : Below W5.drew.heap.size W5.drew wb := (below_none hgra).grown hgrb hgra.size (fun k hk => (howna.lt k hk).1); have Db := Lib.hid (D5d.out.below hbb); have HG2 : Hid (wb.cell? ⟨w.heap.size, 0, none⟩ = some (.int .i64 rate) ∧ wb.cell? ⟨w.heap.size, 1, none⟩ = some (.slice A l.length c) ∧ wb.cell? ⟨w.heap.size + 1, 0, none⟩ = some (.int .i64 num) ∧ wb.cell? ⟨w.heap.size + 1, 1, none⟩ = some (.int .i64 den) ∧ wb.cell? ⟨w.heap.size + 1, 2, none⟩ = some (.int .i64 size) ∧ wb.cell? ⟨w.heap.size + 1, 3, none⟩ = some (.int .i64 step) ∧ wb.cell? ⟨w.heap.size + 1, 4, none⟩ = some (.int .i64 win) ∧ wb.cell? ⟨w.heap.size + 1, 5, none⟩ = some (.int .i64 pts) ∧ wb.cell? ⟨w.heap.size + 1, 6, none⟩ = some (.slice E edges.length ec) ∧ wb.cell? ⟨w.heap.size + 1, 7, none⟩ = some (.int .i64 ce) ∧ wb.cell? ⟨w.heap.size + 1, 8, none⟩ = some (.bool false) ∧ wb.cell? ⟨w.heap.size + 1, 9, none⟩ = some (.bool false)) := Lib.hid (RcBox.cells Db.out); have LB : Hid (Lies wb Ab (ics (l ++ more))) := Lib.hid (by have := Lies.of_own hownb; simpa [ics] using this); have NB : Hid (Ab = none → cb = 0 ∧ l ++ more = []) := Lib.hid (fun e => by obtain ⟨e1, e2⟩ := own_nil2 hownb e; exact ⟨e1, List.length_eq_zero_iff.1 (by rw [List.length_append]; exact e2)⟩))
                | (go_at_call 8; refine (HX3.out _ Ab cb (hC.below Db.out.bel) LB.out NB.out (hE.below Db.out.bel)).mono ?_; rintro e wc ⟨A3, c3, L3, rfl, v3, oc, hbc⟩; have Dc := Lib.hid (Db.out.below hbc); have HG3 : Hid (wc.cell? ⟨w.heap.size, 0, none⟩ = some (.int .i64 rate) ∧ wc.cell? ⟨w.heap.size, 1, none⟩ = some (.slice A l.length c) ∧ wc.cell? ⟨w.heap.size + 1, 0, none⟩ = some (.int .i64 num) ∧ wc.cell? ⟨w.heap.size + 1, 1, none⟩ = some (.int .i64 den) ∧ wc.cell? ⟨w.heap.size + 1, 2, none⟩ = some (.int .i64 size) ∧ wc.cell? ⟨w.heap.size + 1, 3, none⟩ = some (.int .i64 step) ∧ wc.cell? ⟨w.heap.size + 1, 4, none⟩ = some (.int .i64 win) ∧ wc.cell? ⟨w.heap.size + 1, 5, none⟩ = some (.int .i64 pts) ∧ wc.cell? ⟨w.heap.size + 1, 6, none⟩ = some (.slice E edges.length ec) ∧ wc.cell? ⟨w.heap.size + 1, 7, none⟩ = some (.int .i64 ce) ∧ wc.cell? ⟨w.heap.size + 1, 8, none⟩ = some (.bool false) ∧ wc.cell? ⟨w.heap.size + 1, 9, none⟩ = some (.bool false)) := Lib.hid (RcBox.cells Dc.out)))
            go_wp2_with fail
            go_meet
            exact ⟨(by first | rfl | (rw [hqq])), (by first | rfl | (rw [hqq]; rfl)), A3, c3, L3, rfl, rfl, Lib.hid v3.out, oc.ll, own_cap oc.row, below_undrew (hbb.trans (hbc.mono hbb.size))⟩
          case rest =>
            obtain ⟨rfl, rfl, A3, c3, L3, rfl, rfl, v3, m3, hc3, BX⟩ := hcut
            obtain ⟨wx, hwx⟩ : ∃ x, x = wc := ⟨_, rfl⟩
            subst hwx
            have V3 := Lib.hid v3.out
            have M3 := Lib.hid m3
            have M1x := Lib.hid (M5.out.below BX)
            have BB := Lib.hid (D5.out.bel.trans (BX.mono D5.out.bel.size))
            have hge : L1.length ≤ L3.length := by rw [HL1.out]; have := congrArg List.length V3.out; simp at this; omega
            have hl3' : L3.length ≤ 400 := by have := congrArg List.length V3.out; simp at this; omega
            clear hqq v3 m3 BX M5 D5 D5d HC5 HG0
            have hcut := fun W => run_cutHs A3 L3.length c3 L1.length (by omega) W
            have hge2 : (L1.length : Int) ≤ (L3.length : Int) := by omega
            go_wp2_with fail
            have hsame := SameLists_any A3 A1 c3 c1 (L3.take L1.length) L1 wx ⟨(M3.out.take _).lies, (M3.out.take _).inn⟩ M1x.out (by rw [List.length_take]; omega) true (Lib.hid (by
              rw [decide_eq_true_iff]
              have e1 : vsOf (L3.take L1.length) = (vsOf L3).take L1.length := by simp [vsOf, List.map_take]
              rw [e1, V3.out, V1.out, HL1.out, HT3.out]))
            rw [List.length_take, Nat.min_eq_left hge] at hsame
            refine hsame.mono ?_
            rintro e w8 ⟨rfl, n8, rfl⟩
            have B8 : Hid (Below w.heap.size w (wx.drewN n8)) := Lib.hid (BB.out.trans (below_drewN' _ _))
            have C8 : Hid (CosOk (wx.drewN n8)) := Lib.hid (hC.below B8.out)
            go_wp2_with fail
            refine (hk _ C8.out).mono ?_
            rintro e w9 ⟨rfl, hb9⟩
            have B9 := Lib.hid (B8.out.trans (hb9.mono B8.out.size))
            clear hb9
            go_wp2_with fail
            go_ret
            exact ⟨rfl, B9.out⟩
theorem FeatureTurned_any (rate : Int) (A : Option Addr) (c : Nat) (l : List Int) (r : Rcp) (M : Option Addr) (mc : Nat) (more : List Int) (w : World) (hC : CosOk w) (hk : Kn) (h : Lies w A (ics l)) (hA : A = none → c = 0 ∧ l = []) (hE : Lies w r.E (ics r.edges)) (hp : r.points ≤ 9223372036854775807) (hel : r.edges.length ≤ 9223372036854775807) (hM : Lies w M (ics more)) (hMn : M = none → mc = 0 ∧ more = []) :
    Calls Tryd.prog 3 #[recV rate A l.length c, r.val, .slice M more.length mc] w (RetB true w) := by
  obtain ⟨br, hbr⟩ := rcp_dec' r
  obtain ⟨num, den, size, step, win, points, E, ec, edges, ce, diff, cen⟩ := r
  by_cases h1 : l.length ≤ 300
  · by_cases h2 : more.length ≤ 100
    · cases hx : (decide (chk rate l = 0) && br && allR (-32767) 32767 l && allR (-32768) 32767 more) with
      | false => exact FeatureTurned_out rate A c l num den size step win points E ec edges ce diff cen M mc more w hC hk h hE hM hp hel h1 h2 _ _ _ _ (Lib.hid rfl) (Lib.hid hbr) (Lib.hid rfl) (Lib.hid rfl) hx
      | true =>
        simp only [Bool.and_eq_true] at hx
        obtain ⟨⟨⟨x1, x2⟩, x3⟩, x4⟩ := hx
        have ok := hbr.1 x2
        have z1 := ok.p0
        have z2 := ok.s0
        have z3 := ok.t0
        have z4 := ok.c0
        simp only at z1 z2 z3 z4
        have e1 : points = (points.toNat : Int) := by omega
        have e2 : size = (size.toNat : Int) := by omega
        have e3 : step = (step.toNat : Int) := by omega
        have e4 : ce = (ce.toNat : Int) := by omega
        generalize points.toNat = pts at e1
        generalize size.toNat = sz at e2
        generalize step.toNat = st at e3
        generalize ce.toNat = cp at e4
        subst e1 e2 e3 e4
        exact FeatureTurned_ok rate A c l num den sz st win pts E ec edges cp diff cen M mc more w hC hk h hA hE hM (fun e => (hMn e).1) h1 h2 (Lib.hid x1) (Lib.hid ok) (Lib.hid x3) (Lib.hid x4)
    · exact FeatureTurned_far rate A c l num den size step win points E ec edges ce diff cen M mc more w hC hk (.inr ⟨h1, by omega⟩)
  · exact FeatureTurned_far rate A c l num den size step win points E ec edges ce diff cen M mc more w hC hk (.inl (by omega))
end Go.Proofs.YtnflpnbpigcfhabDoor
