/- center, Center -/
import Derived.Test.YtnflpnbpigcfhabDoorMc
namespace Go.Proofs.YtnflpnbpigcfhabDoor
open Go.RowKit Ear

/-- a centered vector -/
def cenAt (vs : List (List Int)) (t : Nat) : List Int := cmb (· - ·) (vs[t]?.getD []) (meanL vs)
theorem cenL_range (vs : List (List Int)) : (List.range vs.length).map (cenAt vs) = cenL vs := by
  apply List.ext_getElem (by simp [cenL])
  intro q h1 h2
  have hq : q < vs.length := by simpa using h1
  simp [cenL, cenAt, List.getElem?_eq_getElem hq]
theorem vec_vcs {vs : List (List Int)} (h : vecOk vs = true) : Vcs (len0 vs) vs := fun x hx => by
  have := vecOk_mem h hx
  exact ⟨this.1, this.2.2.2⟩

set_option maxRecDepth 100000 in
set_option maxHeartbeats 2000000 in
theorem center_any (A : Option Addr) (c : Nat) (L : List Inn) (w : World) (hA : LL w A L) (hv : Hid (vecR (vsOf L) = 0)) :
    Calls Tryd.prog 52 #[.slice A L.length c] w (RetLL (cenL (vsOf L)) w) := by
  obtain ⟨i0, hi0, hz0, hz1, hz2⟩ := info_parts info_ints
  have TI := Lib.hid hi0; have TZ0 := Lib.hid hz0; have TZ1 := Lib.hid hz1; have TZ2 := Lib.hid hz2
  clear hi0 hz0 hz1 hz2
  have HVL : Hid ((vsOf L).length = L.length) := Lib.hid (by simp)
  have hok := (vecR_ok.1 hv.out).1
  have HV := Lib.hid (vecR_ok.1 hv.out).2
  rw [HVL.out] at hok
  by_cases h0 : L.length = 0
  · obtain rfl : L = [] := List.length_eq_zero_iff.1 h0
    clear h0 hok
    go_enter Tryd.func52, Tryd.ntmps52
    go_wp2_with fail
    go_ret
    exact ⟨none, 0, [], rfl, Lib.hid rfl, LLo.nil _ _, Below.refl _ _⟩
  · have hpos : 0 < L.length := by omega
    have q0 : ((L.length : Int) == 0) = false := by rw [beq_eq_false_iff_ne]; omega
    have q1 : ¬ L = [] := fun e => h0 (by rw [e]; rfl)
    have hn0 : len0 (vsOf L) ≤ 64 := by
      have := vecOk_mem HV.out (vs_get hpos)
      omega
    have HN0 := Lib.hid hn0
    have HM1 := Lib.hid (meanL_ok (vs := vsOf L) (fun e => by have h9 := congrArg List.length e; rw [HVL.out, List.length_nil] at h9; omega) (fun x hx => (vecOk_mem HV.out hx).2.2.2))
    have HM2 := Lib.hid (meanL_length (vsOf L))
    clear h0 hn0
    go_enter Tryd.func52, Tryd.ntmps52
    go_wp2_with fail
    refine (mean_any A c (len0 (vsOf L)) L w hA (Lib.hid (vec_vcs HV.out)) hpos hok (by have := HN0.out; omega)).mono ?_
    rintro e w1 ⟨A1, c1, rfl, ho1, hb1⟩
    have M1 := Lib.hid (Lies.of_own ho1)
    have HB1 := Lib.hid hb1
    clear ho1 hb1 q0 q1
    go_wp2_with fail
    go_loopw [4, 6, 14] (fun t4 _ i wr => ∃ t : Nat, t ≤ L.length ∧ i = .int .i64 t ∧ ∃ A' c' O, t4 = .slice A' t c' ∧ LLo wr w1.heap.size A' c' O ∧ Hid (O.length = t) ∧ Hid (vsOf O = (List.range t).map (cenAt (vsOf L))) ∧ Below w1.heap.size w1 wr) (fun _ _ i _ => L.length - (intOf i).toNat)
    case atStart => exact ⟨0, by omega, rfl, none, 0, [], rfl, LLo.nil _ _, Lib.hid rfl, Lib.hid rfl, Below.refl _ _⟩
    case round =>
      obtain ⟨t, ht, rfl, A', c', O, rfl, r1, r2, r3, r4⟩ := hrel
      have hbw : Below w.heap.size w wr := HB1.out.trans (r4.mono HB1.out.size)
      by_cases hlt : t < L.length
      · have hD : Hid (cenAt (vsOf L) t = cmb (· - ·) L[t].2.2 (meanL (vsOf L))) := Lib.hid (by unfold cenAt; rw [vsOf_get hlt])
        have g2 := vecOk_mem HV.out (vs_get hlt)
        obtain ⟨bk, off, rfl, hbk, hc⟩ := (hA.below hbw).lies.lat hlt
        have hx := (hA.below hbw).inn _ (List.getElem_mem hlt)
        generalize L[t] = X at *
        obtain ⟨XA, Xc, xl⟩ := X
        simp only at *
        have hx64 := g2.2.2.1
        have G1 := Lib.hid g2.1
        have G2 := Lib.hid g2.2.2.2
        have HX := Lib.hid hx
        have LM := Lib.hid (M1.out.below r4)
        have HBW := Lib.hid hbw
        clear g2 hx hbw
        go_wp2_with fail
        refine (combined_any _ _ center1_op XA A1 Xc c1 xl (meanL (vsOf L)) wr HX.out.1 LM.out (by rw [HM2.out, G1.out]; exact Nat.le_refl _) (by omega) (Lib.hid (allR_wide G2.out (by omega) (by omega))) (Lib.hid (allR_wide HM1.out (by omega) (by omega)))).mono ?_
        rintro e w2 ⟨A2, c2, rfl, ho2, hb2⟩
        rw [← hD.out] at ho2 ⊢
        have HC : Hid (allR (-2097152) 2097152 (cenAt (vsOf L) t) = true) := Lib.hid (by rw [hD.out]; exact cmb_big G2.out HM1.out)
        have HLC : Hid ((cenAt (vsOf L) t).length = xl.length) := Lib.hid (by rw [hD.out, cmb_length])
        rw [HLC.out] at ho2 ⊢
        have HO2 := Lib.hid ho2
        have B2 := Lib.hid (r4.trans (hb2.mono r4.size))
        have OW2 := Lib.hid (r1.below hb2)
        have hs2 : w1.heap.size ≤ w2.heap.size := B2.out.size
        clear ho2 hb2 hc
        go_wp2_with (at_builtin; refine wpList_append_srcG _ rfl (.tmp 18) (.tmp 22) _ rfl w1.heap.size 22 i0 _ 1 24 Tryd.underlying32 TI.out TZ0.out TZ1.out TZ2.out rfl (by omega) (.slice A' t c') t (lcs O) rfl (by have := OW2.out.row.alloc (.cells #[Value.slice A2 xl.length c2] 22); rw [r2.out] at this; exact this) (some ⟨w2.heap.size, 0, none⟩) 1 1 [Value.slice A2 xl.length c2] rfl (fun e => by cases e) (lies_new _ _ _) (by simp) (by simp [Value.oneCell']) (by unfold maxLen; omega) (by omega) (by simp; omega) (t + 1) rfl ?_; intro A4 c4 w4 ho4 hg4 _)
        have hit : InT (w2.alloc (.cells #[Value.slice A2 xl.length c2] 22)) (A2, c2, cenAt (vsOf L) t) := by
          refine InT.of_own (n := xl.length) (base := wr.heap.size) (HO2.out.alloc _) HLC.out.symm (by omega) ?_
          intro y hy
          have := allR_mem HC.out hy; omega
        have hll : LLo (w2.alloc (.cells #[Value.slice A2 xl.length c2] 22)) w1.heap.size A' c' O := OW2.out.below ((Below.refl _ _).alloc (Nat.le_refl _) _)
        have hsn := hll.snoc (n := t) (x := (A2, c2, cenAt (vsOf L) t)) (w' := w4) (A' := A4) (c' := c4) (base' := w1.heap.size) hit hg4 (by
          simp only [HLC.out]
          rw [r2.out]
          exact ho4)
        have hbel : Below w1.heap.size w1 w4 := (B2.out.alloc (by omega) _).grown hg4 (by simp; omega) (fun k hk => (OW2.out.row.lt k (by rw [← hk]; cases A' <;> rfl)).1)
        exact ⟨⟨t + 1, by omega, by go_num, A4, c4, _, rfl, hsn, Lib.hid (by rw [List.length_append, r2.out]; rfl), Lib.hid (by
          have h5 := r3.out
          rw [vsOf] at h5
          rw [vsOf, List.map_append, h5, List.range_succ, List.map_append]; rfl), hbel⟩, by simp [intOf]; omega⟩
      · obtain rfl : t = L.length := by omega
        have E : Hid (vsOf O = cenL (vsOf L)) := Lib.hid (by rw [r3.out, ← cenL_range, HVL.out])
        have hsz := HB1.out.size
        go_wp2_with fail
        go_ret
        exact ⟨_, _, O, by rw [r2.out]; rfl, E, r1.le hsz, hbw⟩
/-- what Center answers -/
def cenR (vs : List (List Int)) : Int × List (List Int) := if vecR vs = 0 then (if vecR (cenL vs) = 0 then (0, cenL vs) else (2, [])) else (vecR vs, [])
end Go.Proofs.YtnflpnbpigcfhabDoor
