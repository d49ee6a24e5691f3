/- the reference's Quantize -/
import Derived.Test.YtfapmghhmkekaaaDoorQQua
namespace Go.Proofs.YtfapmghhmkekaaaDoor
open Go.RowKit Ear

set_option maxRecDepth 100000 in
set_option maxHeartbeats 2000000 in
theorem rQuantize_any (A B : Option Addr) (c d : Nat) (L M : List Inn) (w : World) (hA : LL w A L) (hB : LL w B M) (h0 : fitR (vsOf L) (vsOf M) = 0) :
    Calls Tryd.prog 52 #[.slice A L.length c, .slice B M.length d] w (RetInts (qL (vsOf L) (vsOf M)) w) := by
  obtain ⟨j0, hj0, ky0, ky1, ky2⟩ := info_parts int_info
  have KI := Lib.hid hj0; have KZ0 := Lib.hid ky0; have KZ1 := Lib.hid ky1; have KZ2 := Lib.hid ky2
  clear hj0 ky0 ky1 ky2
  have HF := Lib.hid (fit_of h0)
  have hl := (fitR_ok.1 h0).1
  have HVL : Hid ((vsOf L).length = L.length) := Lib.hid (by simp)
  have HVM : Hid ((vsOf M).length = M.length) := Lib.hid (by simp)
  have hm : 1 ≤ M.length ∧ M.length ≤ 256 := by
    have := bookOk_iff.1 HF.out.b
    rw [HVM.out] at this
    omega
  rw [HVL.out] at hl
  clear h0
  go_enter Tryd.func52, Tryd.ntmps52
  go_wp2_with fail
  go_loopw [5, 6] (fun s i wr => ∃ t : Nat, t ≤ L.length ∧ i = .int .i64 t ∧ ∃ A' c', s = .slice A' t c' ∧ wr.ownsRow w.heap.size 3 1 (.slice A' t c') t (ics (qT (vsOf L) (vsOf M) t)) ∧ Below w.heap.size w wr) (fun _ i _ => L.length - (intOf i).toNat)
  case atStart => exact ⟨0, by omega, rfl, none, 0, rfl, World.ownsRow_nil _ _ _ _, Below.refl _ _⟩
  case round =>
    obtain ⟨t, ht, rfl, A', c', rfl, r1, r2⟩ := hrel
    have LAr : LL wr A L := hA.below r2
    have LBr : LL wr B M := hB.below r2
    by_cases hlt : t < L.length
    · obtain ⟨bk, off, rfl, hbk, hc⟩ := LAr.lies.lat hlt
      have hx := LAr.inn _ (List.getElem_mem hlt)
      have hxm : L[t].2.2 ∈ vsOf L := List.mem_map_of_mem (f := fun x : Inn => x.2.2) (List.getElem_mem hlt)
      have hwd := Lib.hid (fit_words HF.out hxm)
      have hxo := vecOk_mem HF.out.v hxm
      have b3 := nrK_bd L[t].2.2 (vsOf M) (vsOf M).length
      have hnx : Hid (qT (vsOf L) (vsOf M) (t + 1) = qT (vsOf L) (vsOf M) t ++ [(nr L[t].2.2 (vsOf M)).1]) := Lib.hid (by rw [qT_next (by rw [HVL.out]; exact hlt)]; simp)
      have R1 := Lib.hid r1
      have R2 := Lib.hid r2
      clear r1 r2
      clear hxm
      generalize L[t] = X at *
      obtain ⟨XA, Xc, xl⟩ := X
      simp only at *
      have HO := Lib.hid hxo
      have hx64 := hxo.2.2.1
      have HX := Lib.hid hx.1
      have HB := Lib.hid LBr
      clear hxo hx LAr LBr
      go_wp2_with fail
      refine (rNearest_any XA B Xc d xl M wr HX.out HB.out (Lib.hid HO.out.2.2.2) hwd hx64 (by omega) (by omega)).mono ?_
      rintro e w' ⟨rfl, n2, rfl⟩
      have OW : Hid ((wr.drewN n2).ownsRow w.heap.size 3 1 (.slice A' t c') t (ics (qT (vsOf L) (vsOf M) t))) := Lib.hid R1.out
      have BW : Hid (Below w.heap.size w (wr.drewN n2)) := Lib.hid (R2.out.trans (below_drewN' _ _))
      clear R1 R2
      generalize wr.drewN n2 = w2 at *
      generalize hy : (nr xl (vsOf M)).1 = y at *
      have HY := Lib.hid hy
      clear hy
      have hs2 : w.heap.size ≤ w2.heap.size := BW.out.size
      go_wp2_with (at_builtin; refine wpList_append_srcG _ rfl (.tmp 13) (.tmp 20) _ rfl w.heap.size 3 j0 _ 1 8 Tryd.underlying22 KI.out KZ0.out KZ1.out KZ2.out rfl (by omega) (.slice A' t c') t (ics (qT (vsOf L) (vsOf M) t)) rfl (OW.out.alloc _) (some ⟨w2.heap.size, 0, none⟩) 1 1 [Value.int .i64 y] rfl (fun e => by cases e) (lies_new _ _ _) (by simp) (by simp [Value.oneCell']) (by unfold maxLen; omega) (by omega) (by simp; omega) (t + 1) rfl ?_; intro A4 c4 w4 ho4 hg4 _)
      have hbel : Below w.heap.size w w4 := (BW.out.alloc hs2 _).grown hg4 (by simp; omega) (fun k hk => (OW.out.lt k hk).1)
      exact ⟨⟨t + 1, by omega, by go_num, A4, c4, rfl, by rw [hnx.out, ics_append]; exact ho4, hbel⟩, by simp [intOf]; omega⟩
    · obtain rfl : t = L.length := by omega
      have E : Hid (qT (vsOf L) (vsOf M) L.length = qL (vsOf L) (vsOf M)) := Lib.hid (by rw [← qT_all, HVL.out])
      have EL : Hid ((qL (vsOf L) (vsOf M)).length = L.length) := Lib.hid (by unfold qL; rw [List.length_map, HVL.out])
      rw [E.out] at r1
      have R1 := Lib.hid r1
      have R2 := Lib.hid r2
      clear LAr LBr r1 r2
      go_wp2_with fail
      go_ret
      exact ⟨A', c', by rw [EL.out]; rfl, by rw [EL.out]; exact R1.out, R2.out⟩
end Go.Proofs.YtfapmghhmkekaaaDoor
