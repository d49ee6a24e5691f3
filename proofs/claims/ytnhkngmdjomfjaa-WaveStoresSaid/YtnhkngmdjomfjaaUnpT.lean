/- wave.Unpack: where the head is right -/
import Derived.Test.YtnhkngmdjomfjaaUnpW
namespace Go.Proofs.Ytnhkngmdjomfjaa
open Go.RowKit Ear

theorem row_apart {w w' : World} {g : Nat} {t : TypeId} {cs : Array Value} {row : Option Nat} (h : w.heap[g]? = some (.cells cs t (0, 0))) (hg : w.grownBy w' row) (hr : ∀ k, row = some k → k ≠ g) : w'.heap[g]? = some (.cells cs t (0, 0)) := (hg.block g (row_lt h) (fun e => hr g e.symm rfl)).trans h

set_option maxRecDepth 100000 in
set_option maxHeartbeats 4000000 in
theorem Unpack_tail (A : Option Addr) (c : Nat) (l : List Int) (w : World) (h : Lies w A (bcs l)) (hb : Hid (isB l)) (hlc : l.length ≤ c) (hl : l.length ≤ 500000) (h16 : 16 ≤ l.length) (hm : Hid (l.take 4 = [69, 65, 82, 49])) (rate : Int) (N : Nat) (hr : Hid (rateB l = rate)) (hn : Hid (cntB l = N))
    (h1 : 1 ≤ rate) (h2 : rate ≤ 192000) (h3 : N ≤ 200000) (h4 : Hid (l.length = 16 + 2 * N)) (sm : Int) (hsm : Hid (ge (l.drop (l.length - 4)) = sm)) (sb : Int) (hsb : Hid (smB (l.take (l.length - 4)) = sb)) (eq : Bool) (heq : Hid ((sm != sb) = eq)) :
    Calls Try.prog 59 #[.slice A l.length c] w (if eq = true then RecRet 0 4 [] w else RecRet rate 0 (unB N (l.drop 12)) w) := by
  obtain ⟨g, off, rfl, hg, _⟩ := h (by simp; omega)
  have hlen : (l.take 4).length = 4 := by simp; omega
  have HC := conv_bytes ((w.alloc (.cells #[.slice (some ⟨g, off, none⟩) l.length c] 76)).alloc (.cells #[.int .i64 0, .slice none 0 0] 24)) ⟨g, off, none⟩ (l.take 4) c (by
    have := ((h.alloc (.cells #[.slice (some ⟨g, off, none⟩) l.length c] 76)).alloc (.cells #[.int .i64 0, .slice none 0 0] 24)).take 4
    simpa [List.map_take] using this) (fun x hx => hb.out x (List.mem_of_mem_take hx))
  rw [hlen, hm.out, strB_mark] at HC
  have D00 := Lib.hid ((Led.nil w).add h)
  have D0 := Lib.hid (((D00.out.alloc (.cells #[.slice (some ⟨g, off, none⟩) l.length c] 76)).alloc (.cells #[.int .i64 0, .slice none 0 0] 24)).alloc (.cells #[.int .i64 4] 3))
  have R1 := Lib.hid (row_alloc (row_alloc (heap_alloc_new w (.cells #[.slice (some ⟨g, off, none⟩) l.length c] 76)) (.cells #[.int .i64 0, .slice none 0 0] 24)) (.cells #[.int .i64 4] 3))
  have R2 := Lib.hid (row_alloc (heap_two w (.cells #[.slice (some ⟨g, off, none⟩) l.length c] 76) (.cells #[.int .i64 0, .slice none 0 0] 24)) (.cells #[.int .i64 4] 3))
  have R4 := Lib.hid (heap_alloc_new ((w.alloc (.cells #[.slice (some ⟨g, off, none⟩) l.length c] 76)).alloc (.cells #[.int .i64 0, .slice none 0 0] 24)) (.cells #[.int .i64 4] 3))
  clear hlen h
  go_enter Try.func59, Try.ntmps59
  go_wp2_with fail
  refine (Unpack1_any 4 4 w.heap.size (w.heap.size + 1 + 1) _ c l _ (D0.out.lies 0 _ _ rfl) hb (cell_of_row _ _ 0 _ _ _ R1.out) (by simpa using R4.out) (by omega) (by omega) (by omega) (by omega)).mono ?_
  rintro e w1 ⟨rfl, hr4, hg1⟩
  rw [show ge ((l.drop 4).take 4) = rate from hr.out]
  have D1 := Lib.hid (D00.out.past D0.out hg1 (by omega))
  have R1' := Lib.hid (row_grown R1.out hg1 (by omega))
  have R2' := Lib.hid (row_grown R2.out hg1 (by omega))
  have R4' := Lib.hid hr4
  have hs1 := hg1.size
  simp only [World.size_alloc] at hs1
  clear hr4 hg1 HC R1 R2 R4 D0
  go_wp2_with fail
  refine (Unpack1_any 4 8 w.heap.size (w.heap.size + 1 + 1) _ c l _ (D1.out.alloc _ |>.lies 0 _ _ rfl) hb (cell_of_row _ _ 0 _ _ _ (row_alloc R1'.out _)) (row_alloc R4'.out _) (by omega) (by omega) (by omega) (by omega)).mono ?_
  rintro e w2 ⟨rfl, hr4, hg2⟩
  rw [show ge ((l.drop 8).take 4) = (N : Int) from hn.out]
  have D2 := Lib.hid (D00.out.past (D1.out.alloc _) hg2 (by omega))
  have R1 := Lib.hid (row_grown (row_alloc R1'.out _) hg2 (by omega))
  have R2 := Lib.hid (row_grown (row_alloc R2'.out _) hg2 (by omega))
  have R6 := Lib.hid (row_grown (heap_alloc_new w1 _) hg2 (by omega))
  have R4 := Lib.hid hr4
  have hs2 := hg2.size
  simp only [World.size_alloc] at hs2
  clear hr4 hg2 R1' R2' R4' D1
  have q1 := cell_of_row w2 _ 0 _ _ _ R1.out
  have q60 := cell_of_row w2 _ 0 _ _ _ R6.out
  have q61 := cell_of_row w2 _ 1 _ _ _ R6.out
  simp at q1 q60 q61
  have hne : ((l.length : Int) != 16 + 2 * (N : Int)) = false := by have := h4.out; simp; omega
  have hlen := h4.out
  have hlen2 : 12 + 2 * N + 4 = l.length := by omega
  have HLEN := Lib.hid hlen2
  have hle : 12 + 2 * N + 4 ≤ l.length := by omega
  clear hlen hlen2
  go_wp2_with fail
  clear q1 q60 q61 hne
  obtain ⟨i0, hi0, hz0, hz1, hz2⟩ := info_parts int_info
  have TI := Lib.hid hi0; have TZ0 := Lib.hid hz0; have TZ1 := Lib.hid hz1; have TZ2 := Lib.hid hz2
  clear hi0 hz0 hz1 hz2
  go_loopw [51] (fun t51 wr => UnpRel w w2 w.heap.size (w.heap.size + 1) (w.heap.size + 1 + 1) w1.heap.size (some ⟨g, off, none⟩) c l rate N t51 wr) (fun t51 _ => N - (intOf t51).toNat)
  case atStart => exact ⟨0, Nat.zero_le _, rfl, none, 0, ⟨R1.out, R2.out, R4.out, R6.out, World.ownsRow_nil _ _ _ _⟩, D2.out.bel, Nat.le_refl _⟩
  case round =>
    obtain ⟨k, hk, rfl, A2, c2, ⟨S1, S2, S4, S6, own⟩, hbel, hsV⟩ := hrel
    have T1 := Lib.hid S1
    have T2 := Lib.hid S2
    have T4 := Lib.hid S4
    have T6 := Lib.hid S6
    have OW := Lib.hid own
    have HB := Lib.hid hbel
    have hswr := hbel.size
    have L := Lib.hid (D00.out.belowR D00.out hbel)
    clear S1 S2 S4 S6 own hbel
    by_cases hlt : k < N
    · have HSN := Lib.hid (unB_snoc k (l.drop 12))
      have hbd := ge_take_bd hb.out (show 12 + 2 * k + 2 ≤ l.length by omega)
      rw [List.drop_drop] at HSN
      have hlu : (unB k (l.drop 12)).length = k := unB_len _ _
      have HLU := Lib.hid hlu
      have hlu2 : (unB k (l.drop 12)).length ≤ 200000 := by omega
      clear hlu
      go_wp2_with fail
      refine (Unpack1_any 2 (12 + 2 * k) w.heap.size (w.heap.size + 1 + 1) _ c l _ (L.out.lies 0 _ _ rfl) hb (cell_of_row _ _ 0 _ _ _ T1.out) T4.out (by omega) (by omega) (by omega) (by omega)).mono ?_
      rintro e w3 ⟨rfl, hr4, hg3⟩
      generalize ge ((l.drop (12 + 2 * k)).take 2) = x at *
      have hx : 0 ≤ x ∧ x < 65536 := by simpa using hbd
      generalize unB k (l.drop 12) = out at *
      have U1 := Lib.hid (row_grown T1.out hg3 (by omega))
      have U2 := Lib.hid (row_grown T2.out hg3 (by omega))
      have U6 := Lib.hid (row_grown T6.out hg3 (by omega))
      have U4 := Lib.hid hr4
      have OW3 := Lib.hid (own_kept OW.out hg3 (by omega))
      have HB3 := Lib.hid (HB.out.trans (Below.of_only hg3 (by omega) (by omega)))
      have hs3 := hg3.size
      have q61 := cell_of_row w3 _ 1 _ _ _ U6.out
      simp at q61
      clear hr4 hg3 T1 T2 T4 T6 OW L hbd
      by_cases hbig : 32767 < x
      · skip
        have HN : Hid (unB (k + 1) (l.drop 12) = out ++ [x - 65536]) := Lib.hid (by rw [HSN.out]; unfold sgn; rw [if_pos hbig])
        go_wp2_with (at_builtin; refine wpList_append_srcG _ rfl (.tmp 60) (.tmp 62) _ rfl w2.heap.size 3 i0 _ 1 8 Try.underlying22 TI.out TZ0.out TZ1.out TZ2.out rfl (by omega) (.slice A2 out.length c2) out.length (ics out) rfl (OW3.out.alloc _) (some ⟨w3.heap.size, 0, none⟩) 1 1 (ics [x - 65536]) rfl (fun e => by cases e) (lies_one _ _ _) rfl (ics_one _) (by unfold maxLen; omega) (by omega) (by simp; omega) (out.length + 1) rfl ?_; intro A3 c3 w4 hown4 hgr4 hat4; have V6 := Lib.hid (row_apart (row_alloc U6.out _) hgr4 (fun k hk => by have := (OW3.out.lt k hk).1; omega)); have qf := row_frozen V6.out 1; have q61' := cell_of_row w4 _ 1 _ _ _ V6.out; simp at q61')
        have V1 := Lib.hid (row_apart (row_alloc U1.out _) hgr4 (fun k hk => by have := (OW3.out.lt k hk).1; omega))
        have V2 := Lib.hid (row_apart (row_alloc U2.out _) hgr4 (fun k hk => by have := (OW3.out.lt k hk).1; omega))
        have V4 := Lib.hid (row_apart (row_alloc U4.out _) hgr4 (fun k hk => by have := (OW3.out.lt k hk).1; omega))
        have hs4 := hgr4.size
        simp only [World.size_alloc] at hs4
        have hb4 : Below w.heap.size w w4 := (HB3.out.alloc (by omega) _).grown hgr4 (by simp; omega) (fun k hk => by have := (OW3.out.lt k hk).1; omega)
        go_roundw
        case rel =>
          refine ⟨k + 1, by omega, by go_num, A3, c3, ⟨(Below.heap_setCell _ _ _ _ ?_).trans V1.out, (Below.heap_setCell _ _ _ _ ?_).trans V2.out, (Below.heap_setCell _ _ _ _ ?_).trans V4.out, ?_, ?_⟩, hb4.setCell (by simp; omega) _, by simp [World.setCell]; omega⟩
          · simp; omega
          · simp; omega
          · simp; omega
          · rw [HN.out, List.length_append]; exact row_set V6.out 1 _
          · rw [HN.out, List.length_append, ics_append]; exact ownsRow_far hown4 (by simp; omega) _
        case measure => simp [intOf]; omega
      · skip
        have HN : Hid (unB (k + 1) (l.drop 12) = out ++ [x]) := Lib.hid (by rw [HSN.out]; unfold sgn; rw [if_neg hbig])
        go_wp2_with (at_builtin; refine wpList_append_srcG _ rfl (.tmp 60) (.tmp 62) _ rfl w2.heap.size 3 i0 _ 1 8 Try.underlying22 TI.out TZ0.out TZ1.out TZ2.out rfl (by omega) (.slice A2 out.length c2) out.length (ics out) rfl (OW3.out.alloc _) (some ⟨w3.heap.size, 0, none⟩) 1 1 (ics [x]) rfl (fun e => by cases e) (lies_one _ _ _) rfl (ics_one _) (by unfold maxLen; omega) (by omega) (by simp; omega) (out.length + 1) rfl ?_; intro A3 c3 w4 hown4 hgr4 hat4; have V6 := Lib.hid (row_apart (row_alloc U6.out _) hgr4 (fun k hk => by have := (OW3.out.lt k hk).1; omega)); have qf := row_frozen V6.out 1; have q61' := cell_of_row w4 _ 1 _ _ _ V6.out; simp at q61')
        have V1 := Lib.hid (row_apart (row_alloc U1.out _) hgr4 (fun k hk => by have := (OW3.out.lt k hk).1; omega))
        have V2 := Lib.hid (row_apart (row_alloc U2.out _) hgr4 (fun k hk => by have := (OW3.out.lt k hk).1; omega))
        have V4 := Lib.hid (row_apart (row_alloc U4.out _) hgr4 (fun k hk => by have := (OW3.out.lt k hk).1; omega))
        have hs4 := hgr4.size
        simp only [World.size_alloc] at hs4
        have hb4 : Below w.heap.size w w4 := (HB3.out.alloc (by omega) _).grown hgr4 (by simp; omega) (fun k hk => by have := (OW3.out.lt k hk).1; omega)
        go_roundw
        case rel =>
          refine ⟨k + 1, by omega, by go_num, A3, c3, ⟨(Below.heap_setCell _ _ _ _ ?_).trans V1.out, (Below.heap_setCell _ _ _ _ ?_).trans V2.out, (Below.heap_setCell _ _ _ _ ?_).trans V4.out, ?_, ?_⟩, hb4.setCell (by simp; omega) _, by simp [World.setCell]; omega⟩
          · simp; omega
          · simp; omega
          · simp; omega
          · rw [HN.out, List.length_append]; exact row_set V6.out 1 _
          · rw [HN.out, List.length_append, ics_append]; exact ownsRow_far hown4 (by simp; omega) _
        case measure => simp [intOf]; omega
    · obtain rfl : k = N := by omega
      have q1 := cell_of_row wr _ 0 _ _ _ T1.out
      simp at q1
      have HG := ge_bd4 (isB_drop hb.out (l.length - 4)) (by simp; omega)
      have HS0 := smB_bd (l.take (l.length - 4))
      rw [hsm.out] at HG
      obtain ⟨hg0, hg1⟩ := HG
      rw [hsb.out] at HS0
      have HLK : Hid (l.length - 4 = 12 + 2 * k) := Lib.hid (by have := HLEN.out; omega)
      have HSUM : Hid (∀ W, Lies W (some ⟨g, off, none⟩) (bcs l) → Calls Try.prog 83 #[.slice (some ⟨g, off, none⟩) (l.length - 4) c] W fun e w' => e = .returned (.int .u32 sb) ∧ W = w') := Lib.hid (fun W hW => by
        have h1 : Lies W (some ⟨g, off, none⟩) (bcs (l.take (l.length - 4))) := by have := hW.take (l.length - 4); simpa [List.map_take] using this
        have h2 := sum_any (some ⟨g, off, none⟩) c (l.take (l.length - 4)) W h1 (Lib.hid (fun x hx => hb.out x (List.mem_of_mem_take hx))) (by simp; omega)
        rw [hsb.out, List.length_take, Nat.min_eq_left (by omega)] at h2
        exact h2)
      have HTK : Hid (ge ((l.drop (12 + 2 * k)).take 4) = sm) := Lib.hid (by rw [← HLK.out, List.take_of_length_le (by simp; omega)]; exact hsm.out)
      have heq' := heq.out
      have hw4 : IntKind.i64.wrap ((l.length : Int) - 4) = (l.length : Int) - 4 := IntWalk.i64_in _ (by omega)
      have hz5 : (4 : Int) ≤ (l.length : Int) := by omega
      have hz6 : (l.length : Int) ≤ (c : Int) + 4 := by omega
      have hz4 : (0 : Int) ≤ (l.length : Int) - 4 := by omega
      have hc4 : (l.length : Int) - 4 ≤ c := by omega
      have ht4 : ((l.length : Int) - 4).toNat = l.length - 4 := by omega
      generalize hout : unB k (l.drop 12) = out at *
      have HOUT := Lib.hid hout
      clear hout
      have hol : out.length ≤ 200000 := by rw [← HOUT.out, unB_len]; omega
      go_wp2_with fail
      go_cut [75] (fun t75 wx => t75 = .bool eq ∧ wx.heap[w.heap.size + 1]? = some (.cells #[.int .i64 0, .slice none 0 0] 24 (0, 0)) ∧ wx.heap[w1.heap.size]? = some (.cells #[.int .i64 rate, .slice A2 out.length c2] 24 (0, 0)) ∧ wx.ownsRow w2.heap.size 3 1 (.slice A2 out.length c2) out.length (ics out) ∧ Below w.heap.size w wx)
      case first =>
        go_region_held3 (fun w' => w'.cell? ⟨w.heap.size, 0, none⟩ = some (.slice (some ⟨g, off, none⟩) l.length c))
          (first | exact q1 | exact q1')
          (first
            | (go_at_call 87; go_must ((refine (Unpack1_any 4 (12 + 2 * k) w.heap.size (w.heap.size + 1 + 1) _ c l _ (L.out.lies 0 _ _ rfl).drew hb q1 T4.out (by omega) (by omega) (by omega) (by omega)).mono ?_; rintro e w3 ⟨rfl, hr4, hg3⟩; rw [HTK.out]; have U1 := row_grown (w := wr.drew) T1.out hg3 (by omega); have q1' := cell_of_row w3 _ 0 _ _ _ U1; simp at q1'; have L3 := Lib.hid (D00.out.past L.out.drew hg3 (by omega)))))
            | (go_at_call 83; refine (HSUM.out _ ?_).mono ?_; (first | exact L3.out.lies 0 _ _ rfl | exact (L.out.lies 0 _ _ rfl).drew); rintro e w4 ⟨rfl, rfl⟩))
        go_wp2_with fail
        go_meet
        refine ⟨by rw [← heq.out, show IntKind.u32.wrap sm = sm by rw [IntKind.wrap_u32']; omega], row_grown (w := wr.drew) T2.out hg3 (by omega), row_grown (w := wr.drew) T6.out hg3 (by omega), own_kept (w := wr.drew) OW.out hg3 (by omega), L3.out.bel⟩
      case rest =>
        obtain ⟨rfl, X2, X6, XO, XB⟩ := hcut
        have q60 := cell_of_row wc _ 0 _ _ _ X6
        have q61 := cell_of_row wc _ 1 _ _ _ X6
        have q20 := cell_of_row wc _ 0 _ _ _ X2
        have q21 := cell_of_row wc _ 1 _ _ _ X2
        have f20 := row_frozen X2 0
        have f21 := row_frozen X2 1
        simp at q60 q61 q20 q21
        have HO := Lib.hid XO
        have HX := Lib.hid XB
        clear XO XB X2 X6
        cases eq with
        | true =>
          go_wp2_with fail
          refine bodyPost_ret (v := .tuple #[.agg #[.int .i64 0, .slice none 0 0], .int .i64 4]) (by simp [results, Try.results59, go_sem, q20, q21]) rfl (RecRet.none_ rfl ?_)
          exact (HX.out.setCell (by simp) _).setCell (by simp) _
        | false =>
          go_wp2_with fail
          refine bodyPost_ret (v := .tuple #[.agg #[.int .i64 rate, .slice A2 out.length c2], .int .i64 0]) (by simp [results, Try.results59, go_sem, q20, q21]) rfl ?_
          rw [HOUT.out]
          exact ⟨A2, c2, rfl, ownsRow_le (ownsRow_far (ownsRow_far HO.out (p := ⟨w.heap.size + 1, 0, none⟩) (by show w.heap.size + 1 < w2.heap.size; omega) _) (p := ⟨w.heap.size + 1, 1, none⟩) (by show w.heap.size + 1 < w2.heap.size; omega) _) (by omega), (HX.out.setCell (by simp) _).setCell (by simp) _⟩
end Go.Proofs.Ytnhkngmdjomfjaa
