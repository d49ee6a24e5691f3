/- the reference's Unpack -/
import Derived.Test.YtnhkngmdjomfjaaUnpA
import Derived.Test.YtnhkngmdjomfjaaRPack
import Derived.Test.YtnhkngmdjomfjaaPop2
namespace Go.Proofs.Ytnhkngmdjomfjaa
open Go.RowKit Ear

/-- a recording and a bool -/
def RecBool (rate : Int) (b : Bool) (out : List Int) (w : World) (e : Ending) (w' : World) : Prop :=
  ∃ A c, e = .returned (.tuple #[.agg #[.int .i64 rate, .slice A out.length c], .bool b]) ∧ w'.ownsRow w.heap.size 3 1 (.slice A out.length c) out.length (ics out) ∧ Below w.heap.size w w'
theorem okB_iff {l : List Int} (hb : isB l) (h16 : 16 ≤ l.length) (he : l.length % 2 = 0) : okB l = (decide (chk (rateB l) (unB (l.length / 2 - 8) (l.drop 12)) = 0) && decide (packB (rateB l) (unB (l.length / 2 - 8) (l.drop 12)) = l)) := by
  cases h : okB l with
  | true =>
    obtain ⟨h1, h2, h3, h4⟩ := okB_head h
    have hp := okB_pack hb h
    rw [hp]
    have : chk (rateB l) (unB (l.length / 2 - 8) (l.drop 12)) = 0 := by
      rw [chk_ok, unB_len]
      exact ⟨by omega, h1, h2, unB_smp _ _ (fun x hx => hb x (List.mem_of_mem_drop hx))⟩
    simp [this]
  | false =>
    symm
    rw [Bool.and_eq_false_iff]
    by_cases hc : chk (rateB l) (unB (l.length / 2 - 8) (l.drop 12)) = 0
    · right
      rw [decide_eq_false_iff_not]
      intro e
      have := (pack_ok hc).1
      rw [e, h] at this
      cases this
    · left; simpa using hc
def RUnpRel (w V : World) (b2 b4 : Nat) (l : List Int) (rate : Int) (t5 : Value) (wr : World) : Prop :=
  ∃ k : Nat, k ≤ l.length / 2 - 8 ∧ t5 = .int .i64 ((12 + 2 * k : Nat) : Int) ∧ ∃ A2 c2, wr.heap[b2]? = some (.cells #[.int .i64 0, .slice none 0 0] 24 (0, 0)) ∧ wr.heap[b4]? = some (.cells #[.int .i64 rate, .slice A2 k c2] 24 (0, 0)) ∧
    wr.ownsRow V.heap.size 3 1 (.slice A2 k c2) k (ics (unB k (l.drop 12))) ∧ Below w.heap.size w wr ∧ V.heap.size ≤ wr.heap.size

set_option maxRecDepth 100000 in
set_option maxHeartbeats 2000000 in
theorem rUnpack_short (A : Option Addr) (c : Nat) (l : List Int) (w : World) (hl : l.length ≤ 500000) (hh : l.length < 16 ∨ (16 ≤ l.length ∧ (((l.length : Int).tmod 2 != 0) = true) ∧ (((l.length : Int) % 2 != 0) = true))) :
    Calls Try.prog 60 #[.slice A l.length c] w (RecBool 0 false [] w) := by
  rcases hh with h1 | ⟨h1, h2, h3⟩
  all_goals
    go_enter Try.func60, Try.ntmps60
    go_wp2_with fail
    refine bodyPost_ret (v := .tuple #[.agg #[.int .i64 0, .slice none 0 0], .bool false]) (by simp [results, Try.results60, go_sem]) rfl ?_
    exact ⟨none, 0, rfl, World.ownsRow_nil _ _ _ _, (Below.refl _ _).alloc (Nat.le_refl _) _⟩

set_option maxRecDepth 100000 in
set_option maxHeartbeats 4000000 in
theorem rUnpack_long (A : Option Addr) (c : Nat) (l : List Int) (w : World) (h : Lies w A (bcs l)) (hb : Hid (isB l)) (hlc : l.length ≤ c) (hl : l.length ≤ 500000) (h16 : 16 ≤ l.length) (hev : ((l.length : Int) % 2 != 0) = false) (rate : Int) (hr : Hid (rateB l = rate)) (okb : Bool) (hokb : Hid (okB l = okb)) :
    Calls Try.prog 60 #[.slice A l.length c] w (if okb = true then RecBool rate true (unB (l.length / 2 - 8) (l.drop 12)) w else RecBool 0 false [] w) := by
  obtain ⟨i0, hi0, hz0, hz1, hz2⟩ := info_parts int_info
  have TI := Lib.hid hi0; have TZ0 := Lib.hid hz0; have TZ1 := Lib.hid hz1; have TZ2 := Lib.hid hz2
  clear hi0 hz0 hz1 hz2
  have D00 := Lib.hid ((Led.nil w).add h)
  obtain ⟨g, off, rfl, hg, _⟩ := h (by simp; omega)
  have HGET : Hid (∀ W k m, Lies W (some ⟨g, off, none⟩) (bcs l) → k + m ≤ l.length → m ≤ 4 → Calls Try.prog 88 #[.slice (some ⟨g, off + k, none⟩) m (c - k)] W fun e w' => e = .returned (.int .i64 (ge ((l.drop k).take m))) ∧ W = w') := Lib.hid (fun W k m hW hk hm => by
    have h1 : Lies W (some ⟨g, off + k, none⟩) (bcs ((l.drop k).take m)) := by have := (hW.drop k).take m; simpa [List.map_take, List.map_drop] using this
    have h2 := rget_any (some ⟨g, off + k, none⟩) (c - k) ((l.drop k).take m) W h1 (Lib.hid (fun x hx => hb.out x (List.mem_of_mem_drop (List.mem_of_mem_take hx)))) (by simp; omega)
    rw [List.length_take, List.length_drop, Nat.min_eq_left (by omega)] at h2
    exact h2)
  go_enter Try.func60, Try.ntmps60
  go_wp2_with fail
  refine (HGET.out _ 4 4 ((D00.out.alloc _).lies 0 _ _ rfl) (by omega) (by omega)).mono ?_
  rintro e w0 ⟨rfl, rfl⟩
  rw [show ge ((l.drop 4).take 4) = rate from hr.out]
  go_wp2_with fail
  have hV : ((w.alloc (Obj.cells #[Value.int IntKind.i64 0, Value.slice none 0 0] 24)).alloc (Obj.cells #[Value.int IntKind.i64 rate, Value.slice none 0 0] 24)).heap.size = w.heap.size + 1 + 1 := by simp
  have R2 := Lib.hid (row_alloc (heap_alloc_new w (Obj.cells #[Value.int IntKind.i64 0, Value.slice none 0 0] 24)) (Obj.cells #[Value.int IntKind.i64 rate, Value.slice none 0 0] 24))
  have R4 := Lib.hid (heap_two w (Obj.cells #[Value.int IntKind.i64 0, Value.slice none 0 0] 24) (Obj.cells #[Value.int IntKind.i64 rate, Value.slice none 0 0] 24))
  have BV := Lib.hid ((D00.out.alloc (Obj.cells #[Value.int IntKind.i64 0, Value.slice none 0 0] 24)).alloc (Obj.cells #[Value.int IntKind.i64 rate, Value.slice none 0 0] 24)).bel
  obtain ⟨V, hVe⟩ : ∃ V : World, V = (w.alloc (Obj.cells #[Value.int IntKind.i64 0, Value.slice none 0 0] 24)).alloc (Obj.cells #[Value.int IntKind.i64 rate, Value.slice none 0 0] 24) := ⟨_, rfl⟩
  rw [← hVe] at R2 R4 BV hV ⊢
  have HV := Lib.hid hV
  clear hVe hV
  go_loopw [5] (fun t5 wr => RUnpRel w V w.heap.size (w.heap.size + 1) l rate t5 wr) (fun t5 _ => l.length - (intOf t5).toNat)
  case atStart => exact ⟨0, Nat.zero_le _, rfl, none, 0, R2.out, R4.out, World.ownsRow_nil _ _ _ _, BV.out, Nat.le_refl _⟩
  case round =>
    obtain ⟨k, hk, rfl, A2, c2, S2, S4, own, hbel, hsV⟩ := hrel
    have hVs : V.heap.size = w.heap.size + 1 + 1 := HV.out
    have hVl : w.heap.size + 2 ≤ V.heap.size ∧ V.heap.size ≤ w.heap.size + 2 := by omega
    clear hVs
    have T2 := Lib.hid S2
    have T4 := Lib.hid S4
    have OW := Lib.hid own
    have HB := Lib.hid hbel
    have hswr := hbel.size
    have L := Lib.hid (D00.out.belowR D00.out hbel)
    have HEV := Lib.hid hev
    have hev2 : l.length % 2 = 0 := by simp at hev; omega
    clear S2 S4 own hbel hev
    by_cases hlt : k < l.length / 2 - 8
    · have HSN := Lib.hid (unB_snoc k (l.drop 12))
      have hbd := ge_take_bd hb.out (show 12 + 2 * k + 2 ≤ l.length by omega)
      rw [List.drop_drop] at HSN
      have q41 := cell_of_row wr _ 1 _ _ _ T4.out
      simp at q41
      have hi0 : (0 : Int) ≤ ((12 + 2 * k : Nat) : Int) := by omega
      have hi1 : ((12 + 2 * k : Nat) : Int) + 2 ≤ c := by omega
      have hi2 : ((12 + 2 * k : Nat) : Int) < l.length - 4 := by omega
      have hi3 : ((12 + 2 * k : Nat) : Int) + 2 ≤ l.length := by omega
      go_wp2_with fail
      refine (HGET.out _ (12 + 2 * k) 2 (L.out.lies 0 _ _ rfl) (by omega) (by omega)).mono ?_
      rintro e w0 ⟨rfl, rfl⟩
      generalize ge ((l.drop (12 + 2 * k)).take 2) = x at *
      have hx : 0 ≤ x ∧ x < 65536 := by simpa using hbd
      generalize unB k (l.drop 12) = out at *
      clear hbd
      by_cases hbig : 32767 < x
      · have HN : Hid (unB (k + 1) (l.drop 12) = out ++ [x - 65536]) := Lib.hid (by rw [HSN.out]; unfold sgn; rw [if_pos hbig])
        go_wp2_with (at_builtin; refine wpList_append_srcG _ rfl (.tmp 39) (.tmp 41) _ rfl V.heap.size 3 i0 _ 1 8 Try.underlying22 TI.out TZ0.out TZ1.out TZ2.out rfl (by omega) (.slice A2 k c2) k (ics out) rfl (OW.out.alloc _) (some ⟨wr.heap.size, 0, none⟩) 1 1 (ics [x - 65536]) rfl (fun e => by cases e) (lies_one _ _ _) rfl (ics_one _) (by unfold maxLen; omega) (by omega) (by simp; omega) (k + 1) rfl ?_; intro A3 c3 w4 hown4 hgr4 hat4; have V4 := Lib.hid (row_apart (row_alloc T4.out _) hgr4 (fun k hk => by have := (OW.out.lt k hk).1; omega)); have qf := row_frozen V4.out 1; have q41' := cell_of_row w4 _ 1 _ _ _ V4.out; simp at q41')
        have V2 := Lib.hid (row_apart (row_alloc T2.out _) hgr4 (fun k hk => by have := (OW.out.lt k hk).1; omega))
        have hs4 := hgr4.size
        simp only [World.size_alloc] at hs4
        have hb4 : Below w.heap.size w w4 := (HB.out.alloc (by omega) _).grown hgr4 (by simp; omega) (fun k hk => by have := (OW.out.lt k hk).1; omega)
        go_roundw
        case rel =>
          refine ⟨k + 1, by omega, by go_num, A3, c3, (Below.heap_setCell _ _ _ _ ?_).trans V2.out, ?_, ?_, hb4.setCell (by simp) _, by simp [World.setCell]; omega⟩
          · simp
          · exact row_set V4.out 1 _
          · rw [HN.out, ics_append]; exact ownsRow_far hown4 (by simp; omega) _
        case measure => simp [intOf]; omega
      · have HN : Hid (unB (k + 1) (l.drop 12) = out ++ [x]) := Lib.hid (by rw [HSN.out]; unfold sgn; rw [if_neg hbig])
        go_wp2_with (at_builtin; refine wpList_append_srcG _ rfl (.tmp 39) (.tmp 41) _ rfl V.heap.size 3 i0 _ 1 8 Try.underlying22 TI.out TZ0.out TZ1.out TZ2.out rfl (by omega) (.slice A2 k c2) k (ics out) rfl (OW.out.alloc _) (some ⟨wr.heap.size, 0, none⟩) 1 1 (ics [x]) rfl (fun e => by cases e) (lies_one _ _ _) rfl (ics_one _) (by unfold maxLen; omega) (by omega) (by simp; omega) (k + 1) rfl ?_; intro A3 c3 w4 hown4 hgr4 hat4; have V4 := Lib.hid (row_apart (row_alloc T4.out _) hgr4 (fun k hk => by have := (OW.out.lt k hk).1; omega)); have qf := row_frozen V4.out 1; have q41' := cell_of_row w4 _ 1 _ _ _ V4.out; simp at q41')
        have V2 := Lib.hid (row_apart (row_alloc T2.out _) hgr4 (fun k hk => by have := (OW.out.lt k hk).1; omega))
        have hs4 := hgr4.size
        simp only [World.size_alloc] at hs4
        have hb4 : Below w.heap.size w w4 := (HB.out.alloc (by omega) _).grown hgr4 (by simp; omega) (fun k hk => by have := (OW.out.lt k hk).1; omega)
        go_roundw
        case rel =>
          refine ⟨k + 1, by omega, by go_num, A3, c3, (Below.heap_setCell _ _ _ _ ?_).trans V2.out, ?_, ?_, hb4.setCell (by simp) _, by simp [World.setCell]; omega⟩
          · simp
          · exact row_set V4.out 1 _
          · rw [HN.out, ics_append]; exact ownsRow_far hown4 (by simp; omega) _
        case measure => simp [intOf]; omega
    · obtain rfl : k = l.length / 2 - 8 := by omega
      have hi2 : ¬ ((12 + 2 * (l.length / 2 - 8) : Nat) : Int) < l.length - 4 := by omega
      have HOK := Lib.hid (okB_iff hb.out h16 hev2)
      have hol : (unB (l.length / 2 - 8) (l.drop 12)).length = l.length / 2 - 8 := unB_len _ _
      rw [hr.out] at HOK
      generalize hout : unB (l.length / 2 - 8) (l.drop 12) = out at *
      have HOUT := Lib.hid hout
      generalize hkk : l.length / 2 - 8 = k at *
      have HKK := Lib.hid hkk
      have HOL := Lib.hid hol
      have hol2 : out.length ≤ 250000 := by omega
      have q40 := cell_of_row wr _ 0 _ _ _ T4.out
      have q41 := cell_of_row wr _ 1 _ _ _ T4.out
      simp at q40 q41
      clear hkk hout hol
      rw [hokb.out] at HOK
      go_wp2_with fail
      go_cut [54] (fun t54 wx => t54 = .bool (!okb) ∧ wx.heap[w.heap.size]? = some (.cells #[.int .i64 0, .slice none 0 0] 24 (0, 0)) ∧ wx.heap[w.heap.size + 1]? = some (.cells #[.int .i64 rate, .slice A2 k c2] 24 (0, 0)) ∧ wx.ownsRow V.heap.size 3 1 (.slice A2 k c2) k (ics out) ∧ Below w.heap.size w wx)
      case first =>
        have HVL : Hid (∀ (W : World) (b : Bool), Lies W A2 (ics out) → Hid (decide (chk rate out = 0) = b) → Calls Try.prog 26 #[.agg #[.int .i64 rate, .slice A2 k c2]] W fun e w' => e = .returned (.bool b) ∧ Below W.heap.size W w') := Lib.hid (fun W b hW hb' => by have := rValid_any rate A2 c2 out W hW (by omega) b hb'; rw [HOL.out] at this; exact this)
        have HRP : Hid (∀ (W : World), Lies W A2 (ics out) → Hid (chk rate out = 0) → Calls Try.prog 49 #[.agg #[.int .i64 rate, .slice A2 k c2]] W (BytesRet (packB rate out) W)) := Lib.hid (fun W hW hc => by have := rPack_ok rate A2 c2 out W hW hc; rw [HOL.out] at this; exact this)
        cases hck : decide (chk rate out = 0) with
        | false =>
          have HCK := Lib.hid hck
          have hob : okb = false := by rw [HOK.out, hck]; rfl
          clear hck
          subst hob
          refine wp_region_held0 (S := fun w' => w'.cell? ⟨w.heap.size + 1, 0, none⟩ = some (.int .i64 rate) ∧ w'.cell? ⟨w.heap.size + 1, 1, none⟩ = some (.slice A2 k c2)) 11 rfl (by kernel_rfl) ⟨q40, q41⟩ (fun hHeld => ?_)
          refine wpAnyH_takeD (i := 0) 44 (v := ?_) rfl rfl (by kernel_rfl) (by kernel_rfl) (by kernel_rfl) (fun _ _ _ h => h) ⟨by rfl, ?_⟩ hHeld ?_
          rotate_left
          · intro w' hSw; obtain ⟨hS1, hS2⟩ := hSw; go_simp; try with_reducible rfl
          simp only [List.setIfInBounds_toArray, List.set_cons_zero, List.set_cons_succ]
          refine wpAnyH_oneD 1 rfl (by kernel_rfl) rfl (fun K hK => ?_)
          go_simp
          refine (HVL.out _ false (Lies.of_own OW.out).drew HCK).mono ?_
          rintro e wv ⟨rfl, hbv⟩
          have hbv' := below_undrew hbv
          have TV4 := (hbv'.block _ (row_lt T4.out)).trans T4.out
          have p40 := cell_of_row wv _ 0 _ _ _ TV4
          have p41 := cell_of_row wv _ 1 _ _ _ TV4
          simp at p40 p41
          go_simp
          refine hK _ _ ⟨p40, p41⟩ (fun hHeld => ?_)
          clear hK K
          refine wpAnyH_takeD (i := 2) 46 (v := ?_) rfl rfl (by kernel_rfl) (by kernel_rfl) (by kernel_rfl) (fun _ _ _ h => h) ⟨by rfl, ?_⟩ hHeld ?_
          rotate_left
          · intro w' hSw; obtain ⟨hS1, hS2⟩ := hSw; go_simp; try with_reducible rfl
          simp only [List.setIfInBounds_toArray, List.set_cons_zero, List.set_cons_succ]
          refine wpAnyH_takeD (i := 3) 47 (v := ?_) rfl rfl (by kernel_rfl) (by kernel_rfl) (by kernel_rfl) (fun _ _ _ h => h) ⟨by rfl, ?_⟩ hHeld ?_
          rotate_left
          · intro w' hSw; obtain ⟨hS1, hS2⟩ := hSw; go_simp; try with_reducible rfl
          simp only [List.setIfInBounds_toArray, List.set_cons_zero, List.set_cons_succ]
          refine wpAnyH_skipD (i := 4) 48 rfl rfl (by kernel_rfl) (by kernel_rfl) (by kernel_rfl) (fun _ _ _ h => h) (by rfl) hHeld ?_
          simp only [List.setIfInBounds_toArray, List.set_cons_zero, List.set_cons_succ]
          refine wpAnyH_skipD (i := 5) 49 rfl rfl (by kernel_rfl) (by kernel_rfl) (by kernel_rfl) (fun _ _ _ h => h) (by rfl) hHeld ?_
          simp only [List.setIfInBounds_toArray, List.set_cons_zero, List.set_cons_succ]
          refine wpAnyH_skipD (i := 6) 50 rfl rfl (by kernel_rfl) (by kernel_rfl) (by kernel_rfl) (fun _ _ _ h => h) (by rfl) hHeld ?_
          simp only [List.setIfInBounds_toArray, List.set_cons_zero, List.set_cons_succ]
          refine wpAnyH_skipD (i := 7) 51 rfl rfl (by kernel_rfl) (by kernel_rfl) (by kernel_rfl) (fun _ _ _ h => h) (by rfl) hHeld ?_
          simp only [List.setIfInBounds_toArray, List.set_cons_zero, List.set_cons_succ]
          refine wpAnyH_skipD (i := 8) 52 rfl rfl (by kernel_rfl) (by kernel_rfl) (by kernel_rfl) (fun _ _ _ h => h) (by rfl) hHeld ?_
          simp only [List.setIfInBounds_toArray, List.set_cons_zero, List.set_cons_succ]
          refine wpAnyH_skipD (i := 9) 53 rfl rfl (by kernel_rfl) (by kernel_rfl) (by kernel_rfl) (fun _ _ _ h => h) (by rfl) hHeld ?_
          simp only [List.setIfInBounds_toArray, List.set_cons_zero, List.set_cons_succ]
          refine wpAnyH_takeD (i := 10) 54 (v := ?_) rfl rfl (by kernel_rfl) (by kernel_rfl) (by kernel_rfl) (fun _ _ _ h => h) ⟨by rfl, ?_⟩ hHeld ?_
          rotate_left
          · intro w' hSw; obtain ⟨hS1, hS2⟩ := hSw; go_simp; try with_reducible rfl
          simp only [List.setIfInBounds_toArray, List.set_cons_zero, List.set_cons_succ]
          refine wpAnyH_done (by kernel_rfl) ?_ _
          go_wp2_with fail
          go_meet
          exact ⟨rfl, (hbv'.block _ (row_lt T2.out)).trans T2.out, TV4, own_below OW.out hbv', HB.out.trans (hbv'.mono (by omega))⟩
        | true =>
          have HCK := Lib.hid hck
          have HC0 : Hid (chk rate out = 0) := Lib.hid (of_decide_eq_true hck)
          have HOB : Hid (okb = decide (packB rate out = l)) := Lib.hid (by rw [HOK.out, hck, Bool.true_and])
          clear hck
          have HPB : Hid (isB (packB rate out)) := Lib.hid (fun x hx => packB_mem hx)
          have hpl := packB_len rate out
          have hpl2 : 0 < (packB rate out).length := by omega
          clear hpl
          have HS1 : Hid ((!(strB (packB rate out)).toList == (strB l).toList) = !okb) := Lib.hid (by
            rw [HOB.out]
            by_cases e : packB rate out = l
            · rw [e]; simp
            · have : ((strB (packB rate out)).toList == (strB l).toList) = false := by
                rw [beq_eq_false_iff_ne]
                intro e2
                rw [ByteArray.toList_eq, ByteArray.toList_eq] at e2
                have e3 : strB (packB rate out) = strB l := by
                  have a1 : strB (packB rate out) = ⟨(strB (packB rate out)).data.toList.toArray⟩ := by simp
                  have a2 : strB l = ⟨(strB l).data.toList.toArray⟩ := by simp
                  rw [a1, a2, e2]
                exact e (strB_inj HPB.out hb.out e3)
              simp [this, e])
          have C1 := conv_bytes wr.drew ⟨g, off, none⟩ l c (L.out.lies 0 _ _ rfl).drew hb.out
          generalize packB rate out = ys at *
          go_region_with (first
            | (go_at_call 26; refine (HVL.out _ true (Lies.of_own OW.out).drew HCK).mono ?_; rintro e wv ⟨rfl, hbv⟩; have hbv' := below_undrew hbv; have TV4 := (hbv'.block _ (row_lt T4.out)).trans T4.out; have p40 := cell_of_row wv _ 0 _ _ _ TV4; have p41 := cell_of_row wv _ 1 _ _ _ TV4; simp at p40 p41; have LV := Lib.hid (L.out.below hbv'); have OV := Lib.hid (own_below OW.out hbv'); have C2 := conv_bytes wv ⟨g, off, none⟩ l c (LV.out.lies 0 _ _ rfl) hb.out)
            | (go_at_call 49; refine (HRP.out _ (Lies.of_own OV.out) HC0).mono ?_; rintro e wp ⟨A4, c4, rfl, hown4, hbp⟩; obtain ⟨g4, cap4, hv4, _, _⟩ := hown4.form (by omega); injection hv4 with hv4 _ hv5; subst hv4 hv5; have LP := Lib.hid (LV.out.below hbp); have OP := Lib.hid (own_below OV.out hbp); have C3 := conv_bytes wp ⟨g, off, none⟩ l c (LP.out.lies 0 _ _ rfl) hb.out; have C4 := conv_bytes wp ⟨g4, 0, none⟩ ys c4 (Lies.of_own hown4) HPB.out; have hbq := hbv'.trans (hbp.mono hbv'.size)))
          all_goals
            go_wp2_with fail
            go_meet
            exact ⟨by rw [← HS1.out], (hbq.block _ (row_lt T2.out)).trans T2.out, (hbq.block _ (row_lt T4.out)).trans T4.out, OP.out, HB.out.trans (hbq.mono (by omega))⟩
      case rest =>
        obtain ⟨rfl, X2, X4, XO, XB⟩ := hcut
        have q60 := cell_of_row wc _ 0 _ _ _ X4
        have q61 := cell_of_row wc _ 1 _ _ _ X4
        have q20 := cell_of_row wc _ 0 _ _ _ X2
        have q21 := cell_of_row wc _ 1 _ _ _ X2
        have f20 := row_frozen X2 0
        have f21 := row_frozen X2 1
        simp at q60 q61 q20 q21
        have HO := Lib.hid XO
        have HX := Lib.hid XB
        clear XO XB X2 X4
        cases okb with
        | false =>
          go_wp2_with fail
          refine bodyPost_ret (v := .tuple #[.agg #[.int .i64 0, .slice none 0 0], .bool false]) (by simp [results, Try.results60, go_sem, q20, q21]) rfl ?_
          exact ⟨none, 0, rfl, World.ownsRow_nil _ _ _ _, (HX.out.setCell (by simp) _).setCell (by simp) _⟩
        | true =>
          go_wp2_with fail
          refine bodyPost_ret (v := .tuple #[.agg #[.int .i64 rate, .slice A2 k c2], .bool true]) (by simp [results, Try.results60, go_sem, q20, q21]) rfl ?_
          show RecBool rate true (unB (l.length / 2 - 8) (l.drop 12)) w _ _
          rw [HKK.out, HOUT.out]
          refine ⟨A2, c2, by rw [HOL.out], ?_, (HX.out.setCell (by simp) _).setCell (by simp) _⟩
          rw [HOL.out]
          exact ownsRow_le (ownsRow_far (ownsRow_far HO.out (p := ⟨w.heap.size, 0, none⟩) (by show w.heap.size < V.heap.size; omega) _) (p := ⟨w.heap.size, 1, none⟩) (by show w.heap.size < V.heap.size; omega) _) (by omega)
end Go.Proofs.Ytnhkngmdjomfjaa
