/- Cost, and the reference's -/
import Derived.Test.YtfapmghhmkekaaaDoorQDst
import Derived.Test.YtfapmghhmkekaaaDoorMc
namespace Go.Proofs.YtfapmghhmkekaaaDoor
open Go.RowKit Ear

theorem near_bd {vs bs : List (List Int)} (h : Fit vs bs) {x : List Int} (hx : x ∈ vs) : 0 ≤ (nr x bs).2 ∧ (nr x bs).2 ≤ 281474976710656 := by
  obtain ⟨a, ha, _, h2⟩ := h.near hx
  have hb := bookOk_iff.1 h.b
  rw [h2, List.getElem?_eq_getElem ha]
  have hc := vecOk_mem hb.2.2 (List.getElem_mem ha)
  exact ⟨dsK_nn _ _ _, dst_bd (vecOk_mem h.v hx).2.2.2 hc.2.2.2 hc.2.2.1⟩
theorem costK_bd {vs bs : List (List Int)} (h : Fit vs bs) : ∀ t, t ≤ vs.length → 0 ≤ costK vs bs t ∧ costK vs bs t ≤ t * 281474976710656 := by
  intro t
  induction t with
  | zero => intro _; simp [costK]
  | succ t ih =>
    intro ht
    have h1 := ih (by omega)
    have h2 := near_bd h (x := vs[t]) (List.getElem_mem (by omega))
    simp only [costK, List.getElem?_eq_getElem (show t < vs.length by omega), Option.getD_some]
    omega
/-- the post of Cost -/
def costR (vs bs : List (List Int)) : Int × Int := if fitR vs bs = 0 then (0, costL vs bs) else (fitR vs bs, 0)
def RetCost (err v : Int) (w : World) (e : Ending) (w' : World) : Prop := e = .returned (.tuple #[.int .i64 v, .int .i64 err]) ∧ Below w.heap.size w w'
set_option maxRecDepth 100000 in
set_option maxHeartbeats 1000000 in
theorem Cost_any (A B : Option Addr) (c d : Nat) (L M : List Inn) (w : World) (hA : LL w A L) (hB : LL w B M) (err v : Int) (ho : Hid (costR (vsOf L) (vsOf M) = (err, v))) :
    Calls Tryd.prog 50 #[.slice A L.length c, .slice B M.length d] w (RetCost err v w) := by
  have ho' := ho.out
  unfold costR at ho'
  clear ho
  by_cases h0 : fitR (vsOf L) (vsOf M) = 0
  · rw [if_pos h0] at ho'
    injection ho' with e1 e2
    subst e1 e2
    have HF := Lib.hid (fit_of h0)
    have H0 := Lib.hid h0
    have hl := (fitR_ok.1 h0).1
    have HVL : Hid ((vsOf L).length = L.length) := Lib.hid (by simp)
    have HVM : Hid ((vsOf M).length = M.length) := Lib.hid (by simp)
    have hm : 1 ≤ M.length ∧ M.length ≤ 256 := by
      have := bookOk_iff.1 HF.out.b
      rw [HVM.out] at this
      omega
    rw [HVL.out] at hl
    clear h0
    go_enter Tryd.func50, Tryd.ntmps50
    go_wp2_with fail
    refine (fits_any A B c d L M w hA hB 0 H0).mono ?_
    rintro e w1 ⟨rfl, hb1⟩
    have LA := Lib.hid (hA.below hb1)
    have LB := Lib.hid (hB.below hb1)
    have B1 := Lib.hid hb1
    clear hb1
    go_wp2_with fail
    go_loopw [7, 9, 10, 11, 20] (fun s _ _ _ i wr => ∃ t : Nat, t ≤ L.length ∧ i = .int .i64 t ∧ s = .int .i64 (costK (vsOf L) (vsOf M) t) ∧ ∃ n, wr = w1.drewN n) (fun _ _ _ _ i _ => L.length - (intOf i).toNat)
    case atStart => exact ⟨0, by omega, rfl, rfl, 0, rfl⟩
    case round =>
      obtain ⟨t, ht, rfl, rfl, n, hwd⟩ := hrel
      have LAr : LL wr A L := by rw [hwd]; exact LA.out.below (below_drewN' _ _)
      have LBr : LL wr B M := by rw [hwd]; exact LB.out.below (below_drewN' _ _)
      have WD := Lib.hid hwd
      clear hwd
      by_cases hlt : t < L.length
      · obtain ⟨bk, off, rfl, hbk, hc⟩ := LAr.lies.lat hlt
        have hx := LAr.inn _ (List.getElem_mem hlt)
        have hxm : L[t].2.2 ∈ vsOf L := List.mem_map_of_mem (f := fun x : Inn => x.2.2) (List.getElem_mem hlt)
        have hwd := Lib.hid (fit_words HF.out hxm)
        have hxo := vecOk_mem HF.out.v hxm
        have b1 := near_bd HF.out hxm
        have b2 := costK_bd HF.out t (by rw [HVL.out]; omega)
        have b3 := nrK_bd L[t].2.2 (vsOf M) (vsOf M).length
        have hnx : Hid (costK (vsOf L) (vsOf M) (t + 1) = costK (vsOf L) (vsOf M) t + (nr L[t].2.2 (vsOf M)).2) := Lib.hid (by simp only [costK]; rw [vsOf_get hlt])
        clear hxm
        generalize L[t] = X at *
        obtain ⟨XA, Xc, xl⟩ := X
        simp only at *
        have HO := Lib.hid hxo
        have hx64 := hxo.2.2.1
        have HX := Lib.hid hx.1
        have HB := Lib.hid LBr
        clear hxo hx LAr LBr
        go_wp2_with fail
        refine (nearest_any XA B Xc d xl M wr HX.out HB.out (Lib.hid HO.out.2.2.2) hwd hx64 (by omega)).mono ?_
        rintro e w' ⟨rfl, n2, rfl⟩
        generalize hy : (nr xl (vsOf M)).2 = y at *
        generalize hs : costK (vsOf L) (vsOf M) t = s at *
        have HY := Lib.hid hy
        have HS := Lib.hid hs
        clear hy hs
        have p1 : IntKind.i64.wrap (s + y) = s + y := IntWalk.i64_in _ (by omega)
        go_wp2_with fail
        exact ⟨⟨t + 1, by omega, by go_num, by rw [hnx.out], by rw [WD.out]; exact drewN_ex _ _ _⟩, by simp [intOf]; omega⟩
      · obtain rfl : t = L.length := by omega
        have E : Hid (costK (vsOf L) (vsOf M) L.length = costL (vsOf L) (vsOf M)) := Lib.hid (by unfold costL; rw [HVL.out])
        have BW : Hid (Below w.heap.size w wr) := Lib.hid (by rw [WD.out]; exact B1.out.trans (below_drewN' _ _))
        clear LAr LBr
        go_wp2_with fail
        go_ret2
        exact ⟨by rw [E.out]; rfl, BW.out⟩
  · rw [if_neg h0] at ho'
    injection ho' with e1 e2
    subst e2
    have hne : (err != 0) = true := by rw [← e1]; simpa using h0
    have H0 := Lib.hid e1
    clear h0 e1
    go_enter Tryd.func50, Tryd.ntmps50
    go_wp2_with fail
    refine (fits_any A B c d L M w hA hB err H0).mono ?_
    rintro e w1 ⟨rfl, hb1⟩
    go_wp2_with fail
    go_ret2
    exact ⟨rfl, hb1⟩
end Go.Proofs.YtfapmghhmkekaaaDoor
