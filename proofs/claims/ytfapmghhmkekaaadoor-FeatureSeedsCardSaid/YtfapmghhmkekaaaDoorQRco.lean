/- the reference's Cost -/
import Derived.Test.YtfapmghhmkekaaaDoorQQua
namespace Go.Proofs.YtfapmghhmkekaaaDoor
open Go.RowKit Ear

theorem rNear_quiet (A B : Option Addr) (c d : Nat) (v : List Int) (L : List Inn) (w : World) (hA : Lies w A (ics v)) (hB : LL w B L) (hv : Hid (allR (-1048576) 1048576 v = true)) (hL : Hid (Wds v L)) (h64 : v.length ≤ 64) (hn : L.length ≤ 1000000) (hpos : 0 < L.length) (r : Int) (hr : (nr v (vsOf L)).1 = r) (m : Nat) :
    Calls Tryd.prog 61 #[.slice A v.length c, .slice B L.length d] (w.drewN m) fun e w' => e = .returned (.int .i64 r) ∧ ∃ k, w' = (w.drewN m).drewN k := by
  rw [← hr]
  exact rNearest_any A B c d v L _ (hA.drewN m) (hB.below (below_drewN' _ _)) hv hL h64 hn hpos
set_option maxRecDepth 100000 in
set_option maxHeartbeats 2000000 in
theorem rCost_any (A B : Option Addr) (c d : Nat) (L M : List Inn) (w : World) (hA : LL w A L) (hB : LL w B M) (h0 : fitR (vsOf L) (vsOf M) = 0) :
    Calls Tryd.prog 53 #[.slice A L.length c, .slice B M.length d] w (RetI (costL (vsOf L) (vsOf M)) w) := by
  have HF := Lib.hid (fit_of h0)
  have hl := (fitR_ok.1 h0).1
  have HVL : Hid ((vsOf L).length = L.length) := Lib.hid (by simp)
  have HVM : Hid ((vsOf M).length = M.length) := Lib.hid (by simp)
  have hm : 1 ≤ M.length ∧ M.length ≤ 256 := by
    have := bookOk_iff.1 HF.out.b
    rw [HVM.out] at this
    omega
  rw [HVL.out] at hl
  clear h0
  go_enter Tryd.func53, Tryd.ntmps53
  go_wp2_with fail
  go_loopw [5, 6] (fun s i wr => ∃ t : Nat, t ≤ L.length ∧ i = .int .i64 t ∧ s = .int .i64 (costK (vsOf L) (vsOf M) t) ∧ ∃ n, wr = w.drewN n) (fun _ i _ => L.length - (intOf i).toNat)
  case atStart => exact ⟨0, by omega, rfl, rfl, 0, rfl⟩
  case round =>
    obtain ⟨t, ht, rfl, rfl, n, hwd⟩ := hrel
    have LAr : LL wr A L := by rw [hwd]; exact hA.below (below_drewN' _ _)
    have LBr : LL wr B M := by rw [hwd]; exact hB.below (below_drewN' _ _)
    have WD := Lib.hid hwd
    clear hwd
    by_cases hlt : t < L.length
    · have hx := LAr.inn _ (List.getElem_mem hlt)
      have hxm : L[t].2.2 ∈ vsOf L := List.mem_map_of_mem (f := fun x : Inn => x.2.2) (List.getElem_mem hlt)
      have hwd := fit_words HF.out hxm
      have hxo := vecOk_mem HF.out.v hxm
      have b1 := near_bd HF.out hxm
      have b2 := costK_bd HF.out t (by rw [HVL.out]; omega)
      have hnx : Hid (costK (vsOf L) (vsOf M) (t + 1) = costK (vsOf L) (vsOf M) t + (nr L[t].2.2 (vsOf M)).2) := Lib.hid (by simp only [costK]; rw [vsOf_get hlt])
      obtain ⟨a, ha, hna, hnb⟩ := HF.out.near hxm
      rw [HVM.out] at ha
      rw [vsOf_get ha] at hnb
      obtain ⟨bk, off, rfl, hbk, hc⟩ := LAr.lies.lat hlt
      have hy := LBr.inn _ (List.getElem_mem ha)
      have hyw := hwd _ (List.getElem_mem ha)
      have LBL := LBr.lies
      have HBK := Lib.hid LBr
      obtain ⟨b3, o3, rfl, hb3, hc3⟩ := LBr.lies.lat ha
      clear hxm LAr LBr LBL
      generalize L[t] = X at *
      generalize M[a] = Y at *
      obtain ⟨XA, Xc, xl⟩ := X
      obtain ⟨YA, Yc, yl⟩ := Y
      simp only at *
      have HQ1 := Lib.hid (rNear_quiet XA (some ⟨b3, o3, none⟩) Xc d xl M wr hx.1 HBK.out (Lib.hid hxo.2.2.2) (Lib.hid hwd) hxo.2.2.1 (by omega) (by omega) a hna)
      have HQ2 := Lib.hid (rDist_quiet XA YA Xc Yc xl yl wr hx.1 hy.1 (Lib.hid hyw.1) (Lib.hid hxo.2.2.2) (Lib.hid hyw.2.2) hxo.2.2.1)
      have HNB := Lib.hid hnb
      rw [hnb] at b1
      rw [hnb] at hnx
      clear hx hy hyw hxo hwd hna hnb HBK
      generalize dst xl yl = y at *
      generalize hs : costK (vsOf L) (vsOf M) t = s at *
      have HS := Lib.hid hs
      clear hs
      have p1 : IntKind.i64.wrap (s + y) = s + y := IntWalk.i64_in _ (by omega)
      go_wp2_with fail
      go_quiet ((first | (go_at_call 61; exact Calls.quiet_of (HQ1.out _)) | (go_at_call 58; exact Calls.quiet_of (HQ2.out _))))
      go_wp2_with fail
      exact ⟨⟨t + 1, by omega, by go_num, by rw [hnx.out], by rw [WD.out]; exact drewN_ex _ _ _⟩, by simp [intOf]; omega⟩
    · obtain rfl : t = L.length := by omega
      have E : Hid (costK (vsOf L) (vsOf M) L.length = costL (vsOf L) (vsOf M)) := Lib.hid (by unfold costL; rw [HVL.out])
      clear LAr LBr
      go_wp2_with fail
      go_ret
      exact ⟨by rw [E.out]; rfl, n, WD.out⟩
end Go.Proofs.YtfapmghhmkekaaaDoor
