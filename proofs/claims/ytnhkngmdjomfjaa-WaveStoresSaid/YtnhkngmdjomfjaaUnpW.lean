/- wave.Unpack: what is refused at once -/
import Derived.Test.YtnhkngmdjomfjaaUnp
import Derived.Test.YtnhkngmdjomfjaaStrB
namespace Go.Proofs.Ytnhkngmdjomfjaa
open Go.RowKit Ear

set_option maxRecDepth 100000 in
set_option maxHeartbeats 1000000 in
theorem Unpack_long (A : Option Addr) (c : Nat) (l : List Int) (w : World) (hl : 500000 < l.length) :
    Calls Try.prog 59 #[.slice A l.length c] w (RecRet 0 5 [] w) := by
  go_enter Try.func59, Try.ntmps59
  go_wp2_with fail
  refine bodyPost_ret (v := .tuple #[.agg #[.int .i64 0, .slice none 0 0], .int .i64 5]) (by simp [results, Try.results59, go_sem]) rfl (RecRet.none_ rfl ?_)
  exact ((Below.refl _ _).alloc (Nat.le_refl _) _).alloc (by simp) _
set_option maxRecDepth 100000 in
set_option maxHeartbeats 1000000 in
theorem Unpack_mark (A : Option Addr) (c : Nat) (l : List Int) (w : World) (h : Lies w A (bcs l)) (hb : Hid (isB l)) (hlc : l.length ≤ c) (hl : l.length ≤ 500000) (hh : l.length < 16 ∨ (16 ≤ l.length ∧ l.take 4 ≠ [69, 65, 82, 49])) :
    Calls Try.prog 59 #[.slice A l.length c] w (RecRet 0 4 [] w) := by
  rcases hh with h1 | ⟨h1, h2⟩
  · go_enter Try.func59, Try.ntmps59
    go_wp2_with fail
    refine bodyPost_ret (v := .tuple #[.agg #[.int .i64 0, .slice none 0 0], .int .i64 4]) (by simp [results, Try.results59, go_sem]) rfl (RecRet.none_ rfl ?_)
    exact ((Below.refl _ _).alloc (Nat.le_refl _) _).alloc (by simp) _
  · obtain ⟨g, off, rfl, hg, _⟩ := h (by simp; omega)
    have hlen : (l.take 4).length = 4 := by simp; omega
    have HC := conv_bytes ((w.alloc (.cells #[.slice (some ⟨g, off, none⟩) l.length c] 76)).alloc (.cells #[.int .i64 0, .slice none 0 0] 24)) ⟨g, off, none⟩ (l.take 4) c (by
      have := ((h.alloc (.cells #[.slice (some ⟨g, off, none⟩) l.length c] 76)).alloc (.cells #[.int .i64 0, .slice none 0 0] 24)).take 4
      simpa [List.map_take] using this) (fun x hx => hb.out x (List.mem_of_mem_take hx))
    rw [hlen] at HC
    have hne := mark_no (fun x hx => hb.out x (List.mem_of_mem_take hx)) h2
    generalize strB (l.take 4) = s at *
    clear hlen
    go_enter Try.func59, Try.ntmps59
    go_wp2_with fail
    refine bodyPost_ret (v := .tuple #[.agg #[.int .i64 0, .slice none 0 0], .int .i64 4]) (by simp [results, Try.results59, go_sem]) rfl (RecRet.none_ rfl ?_)
    exact ((Below.refl _ _).alloc (Nat.le_refl _) _).alloc (by simp) _

/-- what is known of memory while bytes are unpacked -/
def UnpSt (V : World) (b1 b2 b4 b6 : Nat) (A : Option Addr) (c : Nat) (l : List Int) (at_ : Nat) (rate : Int) (A2 : Option Addr) (c2 : Nat) (out : List Int) (wr : World) : Prop :=
  wr.heap[b1]? = some (.cells #[.slice A l.length c] 76 (0, 0)) ∧ wr.heap[b2]? = some (.cells #[.int .i64 0, .slice none 0 0] 24 (0, 0)) ∧ wr.heap[b4]? = some (.cells #[.int .i64 at_] 3 (0, 0)) ∧
    wr.heap[b6]? = some (.cells #[.int .i64 rate, .slice A2 out.length c2] 24 (0, 0)) ∧ wr.ownsRow V.heap.size 3 1 (.slice A2 out.length c2) out.length (ics out)
def UnpRel (w V : World) (b1 b2 b4 b6 : Nat) (A : Option Addr) (c : Nat) (l : List Int) (rate : Int) (n : Nat) (t51 : Value) (wr : World) : Prop :=
  ∃ k : Nat, k ≤ n ∧ t51 = .int .i64 k ∧ ∃ A2 c2, UnpSt V b1 b2 b4 b6 A c l (12 + 2 * k) rate A2 c2 (unB k (l.drop 12)) wr ∧ Below w.heap.size w wr ∧ V.heap.size ≤ wr.heap.size

/-- what Unpack hands back where the mark is right -/
def UnpPost (l : List Int) (w : World) (e : Ending) (w' : World) : Prop := if okB l = true then RecRet (rateB l) 0 (unB (cntB l).toNat (l.drop 12)) w e w' else RecRet 0 4 [] w e w'
theorem UnpPost.no {l : List Int} {w w' : World} {e : Ending} (h : okB l = false) (hr : RecRet 0 4 [] w e w') : UnpPost l w e w' := by unfold UnpPost; rw [h]; simpa using hr
theorem UnpPost.yes {l : List Int} {w w' : World} {e : Ending} (h : okB l = true) (hr : RecRet (rateB l) 0 (unB (cntB l).toNat (l.drop 12)) w e w') : UnpPost l w e w' := by unfold UnpPost; rw [h]; simpa using hr
theorem okB_head {l : List Int} (h : okB l = true) : 1 ≤ rateB l ∧ rateB l ≤ 192000 ∧ cntB l ≤ 200000 ∧ (l.length : Int) = 16 + 2 * cntB l := by
  unfold okB at h
  obtain ⟨h1, h2, h3, h4, h5, h6, h7⟩ := of_decide_eq_true h
  exact ⟨h3, h4, h5, h6⟩
theorem okB_sum {l : List Int} (h16 : 16 ≤ l.length) (hm : l.take 4 = [69, 65, 82, 49]) (h : 1 ≤ rateB l ∧ rateB l ≤ 192000 ∧ cntB l ≤ 200000 ∧ (l.length : Int) = 16 + 2 * cntB l) : okB l = decide (ge (l.drop (l.length - 4)) = smB (l.take (l.length - 4))) := by
  unfold okB
  obtain ⟨h3, h4, h5, h6⟩ := h
  rw [decide_eq_decide]
  exact ⟨fun h => h.2.2.2.2.2.2, fun h => ⟨h16, hm, h3, h4, h5, h6, h⟩⟩
theorem row_grown {w w' : World} {g p : Nat} {t : TypeId} {cs : Array Value} (h : w.heap[g]? = some (.cells cs t (0, 0))) (hg : w.grownBy w' (some p)) (hne : g ≠ p) : w'.heap[g]? = some (.cells cs t (0, 0)) := (hg.block g (row_lt h) (fun e => hne (by injection e))).trans h

set_option maxRecDepth 100000 in
set_option maxHeartbeats 4000000 in
theorem Unpack_head (A : Option Addr) (c : Nat) (l : List Int) (w : World) (h : Lies w A (bcs l)) (hb : Hid (isB l)) (hlc : l.length ≤ c) (hl : l.length ≤ 500000) (h16 : 16 ≤ l.length) (hm : Hid (l.take 4 = [69, 65, 82, 49])) (rate n : Int) (hr : Hid (rateB l = rate)) (hn : Hid (cntB l = n))
    (hn0 : 0 ≤ n ∧ n ≤ 4294967295) (hh : rate < 1 ∨ (1 ≤ rate ∧ 192000 < rate) ∨ (1 ≤ rate ∧ rate ≤ 192000 ∧ 200000 < n) ∨ (1 ≤ rate ∧ rate ≤ 192000 ∧ n ≤ 200000 ∧ ((l.length : Int) != 16 + 2 * n) = true)) :
    Calls Try.prog 59 #[.slice A l.length c] w (RecRet 0 4 [] w) := by
  obtain ⟨g, off, rfl, hg, _⟩ := h (by simp; omega)
  have hlen : (l.take 4).length = 4 := by simp; omega
  have HC := conv_bytes ((w.alloc (.cells #[.slice (some ⟨g, off, none⟩) l.length c] 76)).alloc (.cells #[.int .i64 0, .slice none 0 0] 24)) ⟨g, off, none⟩ (l.take 4) c (by
    have := ((h.alloc (.cells #[.slice (some ⟨g, off, none⟩) l.length c] 76)).alloc (.cells #[.int .i64 0, .slice none 0 0] 24)).take 4
    simpa [List.map_take] using this) (fun x hx => hb.out x (List.mem_of_mem_take hx))
  rw [hlen, hm.out, strB_mark] at HC
  have D00 := Lib.hid ((Led.nil w).add h)
  have D0 := Lib.hid (((D00.out.alloc (.cells #[.slice (some ⟨g, off, none⟩) l.length c] 76)).alloc (.cells #[.int .i64 0, .slice none 0 0] 24)).alloc (.cells #[.int .i64 4] 3))
  have R1 := Lib.hid (row_alloc (row_alloc (heap_alloc_new w (.cells #[.slice (some ⟨g, off, none⟩) l.length c] 76)) (.cells #[.int .i64 0, .slice none 0 0] 24)) (.cells #[.int .i64 4] 3))
  have R2 := Lib.hid (row_alloc (heap_two w (.cells #[.slice (some ⟨g, off, none⟩) l.length c] 76) (.cells #[.int .i64 0, .slice none 0 0] 24)) (.cells #[.int .i64 4] 3))
  have R4 := Lib.hid (heap_alloc_new ((w.alloc (.cells #[.slice (some ⟨g, off, none⟩) l.length c] 76)).alloc (.cells #[.int .i64 0, .slice none 0 0] 24)) (.cells #[.int .i64 4] 3))
  clear hlen h
  go_enter Try.func59, Try.ntmps59
  go_wp2_with fail
  refine (Unpack1_any 4 4 w.heap.size (w.heap.size + 1 + 1) _ c l _ (D0.out.lies 0 _ _ rfl) hb (cell_of_row _ _ 0 _ _ _ R1.out) (by simpa using R4.out) (by omega) (by omega) (by omega) (by omega)).mono ?_
  rintro e w1 ⟨rfl, hr4, hg1⟩
  rw [show ge ((l.drop 4).take 4) = rate from hr.out]
  have D1 := Lib.hid (D00.out.past D0.out hg1 (by omega))
  have R1' := Lib.hid (row_grown R1.out hg1 (by omega))
  have R2' := Lib.hid (row_grown R2.out hg1 (by omega))
  have R4' := Lib.hid hr4
  have hs1 := hg1.size
  simp only [World.size_alloc] at hs1
  clear hr4 hg1 HC R1 R2 R4 D0
  go_wp2_with fail
  refine (Unpack1_any 4 8 w.heap.size (w.heap.size + 1 + 1) _ c l _ (D1.out.alloc _ |>.lies 0 _ _ rfl) hb (cell_of_row _ _ 0 _ _ _ (row_alloc R1'.out _)) (row_alloc R4'.out _) (by omega) (by omega) (by omega) (by omega)).mono ?_
  rintro e w2 ⟨rfl, hr4, hg2⟩
  rw [show ge ((l.drop 8).take 4) = n from hn.out]
  have D2 := Lib.hid (D00.out.past (D1.out.alloc _) hg2 (by omega))
  have R1 := Lib.hid (row_grown (row_alloc R1'.out _) hg2 (by omega))
  have R2 := Lib.hid (row_grown (row_alloc R2'.out _) hg2 (by omega))
  have R6 := Lib.hid (row_grown (heap_alloc_new w1 _) hg2 (by omega))
  have R4 := Lib.hid hr4
  have hs2 := hg2.size
  simp only [World.size_alloc] at hs2
  clear hr4 hg2 R1' R2' R4' D1
  have q1 := cell_of_row w2 _ 0 _ _ _ R1.out
  have q20 := cell_of_row w2 _ 0 _ _ _ R2.out
  have q21 := cell_of_row w2 _ 1 _ _ _ R2.out
  have q60 := cell_of_row w2 _ 0 _ _ _ R6.out
  have q61 := cell_of_row w2 _ 1 _ _ _ R6.out
  have f20 := row_frozen R2.out 0
  have f21 := row_frozen R2.out 1
  simp at q1 q20 q21 q60 q61
  rcases hh with h1 | ⟨h1, h2⟩ | ⟨h1, h2, h3⟩ | ⟨h1, h2, h3, h4⟩
  all_goals
    go_wp2_with fail
    refine bodyPost_ret (v := .tuple #[.agg #[.int .i64 0, .slice none 0 0], .int .i64 4]) (by simp [results, Try.results59, go_sem, q20, q21]) rfl (RecRet.none_ rfl ?_)
    exact (D2.out.bel.setCell (by simp) _).setCell (by simp) _
end Go.Proofs.Ytnhkngmdjomfjaa
