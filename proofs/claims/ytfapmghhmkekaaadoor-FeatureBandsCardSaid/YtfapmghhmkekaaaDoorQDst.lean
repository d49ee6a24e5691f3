/- the reference's Distance, Book -/
import Derived.Test.YtfapmghhmkekaaaDoorRVec
import Derived.Test.YtfapmghhmkekaaaDoorMc
namespace Go.Proofs.YtfapmghhmkekaaaDoor
open Go.RowKit Ear

set_option maxRecDepth 100000 in
set_option maxHeartbeats 1000000 in
theorem rDistance_any (A B : Option Addr) (c d : Nat) (v u : List Int) (w : World) (hA : Lies w A (ics v)) (hB : Lies w B (ics u)) (hl : Hid (u.length = v.length)) (hv : Hid (allR (-1048576) 1048576 v = true)) (hu : Hid (allR (-1048576) 1048576 u = true)) (h64 : v.length ≤ 64) :
    Calls Tryd.prog 58 #[.slice A v.length c, .slice B u.length d] w (RetI (dst v u) w) := by
  go_enter Tryd.func58, Tryd.ntmps58
  go_wp2_with fail
  go_loopw [5, 6] (fun s i wr => ∃ k : Nat, k ≤ v.length ∧ i = .int .i64 k ∧ s = .int .i64 (dsK v u k) ∧ ∃ n, wr = w.drewN n) (fun _ i _ => v.length - (intOf i).toNat)
  case atStart => exact ⟨0, by omega, rfl, rfl, 0, rfl⟩
  case round =>
    obtain ⟨k, hk, rfl, rfl, n, hwd⟩ := hrel
    by_cases hlt : k < v.length
    · obtain ⟨b1, o1, rfl, hb1, hc1⟩ := (show Lies wr A (ics v) by rw [hwd]; exact hA).at_ hlt
      obtain ⟨b2, o2, rfl, hb2, hc2⟩ := (show Lies wr B (ics u) by rw [hwd]; exact hB).at_ (k := k) (by rw [hl.out]; exact hlt)
      have WD := Lib.hid hwd
      have hlu : k < u.length := by rw [hl.out]; exact hlt
      have m1 := getD_bd hv.out (by omega) (by omega) k
      have m2 := getD_bd hu.out (by omega) (by omega) k
      have m3 := dsK_nn v u k
      have m4 := dsK_bd hv.out hu.out k
      have m5 := ds_term hv.out hu.out k
      have m6 := sq_nn (v[k]?.getD 0 - u[k]?.getD 0)
      have hnx : Hid (dsK v u (k + 1) = dsK v u k + (v[k]?.getD 0 - u[k]?.getD 0) * (v[k]?.getD 0 - u[k]?.getD 0)) := Lib.hid rfl
      clear hwd
      generalize v[k]?.getD 0 = x at *
      generalize u[k]?.getD 0 = y at *
      generalize hy : dsK v u k = s at *
      have HY := Lib.hid hy
      clear hy
      have p1 : IntKind.i64.wrap (x - y) = x - y := IntWalk.i64_in _ (by omega)
      generalize hz : (x - y) * (x - y) = z at *
      have p2 : IntKind.i64.wrap ((x - y) * (x - y)) = z := by rw [hz]; exact IntWalk.i64_in _ (by omega)
      have p3 : IntKind.i64.wrap (s + z) = s + z := IntWalk.i64_in _ (by omega)
      have HZ := Lib.hid hz
      clear hz
      go_wp2_with fail
      go_quiet (fail)
      go_wp2_with fail
      exact ⟨⟨k + 1, by omega, by go_num, by rw [hnx.out], by rw [WD.out]; exact drewN_ex _ _ _⟩, by simp [intOf]; omega⟩
    · obtain rfl : k = v.length := by omega
      have E : Hid (dsK v u v.length = dst v u) := Lib.hid (by unfold dst; rw [hl.out])
      go_wp2_with fail
      go_ret
      exact ⟨by rw [E.out]; rfl, n, rfl⟩
set_option maxHeartbeats 400000 in
theorem rBook_any (A : Option Addr) (c : Nat) (L : List Inn) (w : World) (hA : LL w A L) (hn : L.length ≤ 9223372036854775807) (r : Bool) (hr : Hid (bookOk (vsOf L) = r)) :
    Calls Tryd.prog 60 #[.slice A L.length c] w (RetBool r w) := by
  have hvl : (vsOf L).length = L.length := by simp
  have hr' := hr.out
  unfold bookOk at hr'
  rw [hvl] at hr'
  clear hr hvl
  by_cases h1 : 1 ≤ L.length
  · by_cases h2 : L.length ≤ 256
    · rw [decide_eq_true h1, decide_eq_true h2, Bool.true_and, Bool.true_and] at hr'
      have H := Lib.hid hr'
      clear hr'
      go_enter Tryd.func60, Tryd.ntmps60
      go_wp2_with fail
      refine (rVectors_any A c L w hA hn r H).mono ?_
      rintro e w' ⟨rfl, n, rfl⟩
      go_wp2_with fail
      go_ret
      exact ⟨rfl, n, rfl⟩
    · rw [decide_eq_false h2, Bool.and_false, Bool.false_and] at hr'
      subst hr'
      go_enter Tryd.func60, Tryd.ntmps60
      go_wp2_with fail
      go_ret
      exact ⟨rfl, 0, rfl⟩
  · rw [decide_eq_false h1, Bool.false_and, Bool.false_and] at hr'
    subst hr'
    go_enter Tryd.func60, Tryd.ntmps60
    go_wp2_with fail
    go_ret
    exact ⟨rfl, 0, rfl⟩
/-- codewords: each as long as the vector, and small -/
theorem wds_dst {v : List Int} {L : List Inn} (hv : allR (-1048576) 1048576 v = true) (h64 : v.length ≤ 64) (hL : Wds v L) : ∀ x ∈ vsOf L, dst v x < 4611686018427387904 := fun x hx => by
  obtain ⟨y, hy, rfl⟩ := List.mem_map.1 hx
  have h := hL y hy
  have := dsK_bd hv h.2.2 y.2.2.length
  unfold dst
  omega
theorem rDist_quiet (A B : Option Addr) (c d : Nat) (v u : List Int) (w : World) (hA : Lies w A (ics v)) (hB : Lies w B (ics u)) (hl : Hid (u.length = v.length)) (hv : Hid (allR (-1048576) 1048576 v = true)) (hu : Hid (allR (-1048576) 1048576 u = true)) (h64 : v.length ≤ 64) (m : Nat) :
    Calls Tryd.prog 58 #[.slice A v.length c, .slice B u.length d] (w.drewN m) fun e w' => e = .returned (.int .i64 (dst v u)) ∧ ∃ k, w' = (w.drewN m).drewN k :=
  rDistance_any A B c d v u _ (hA.drewN m) (hB.drewN m) hl hv hu h64
set_option maxRecDepth 100000 in
set_option maxHeartbeats 1000000 in
theorem rNearest_any (A B : Option Addr) (c d : Nat) (v : List Int) (L : List Inn) (w : World) (hA : Lies w A (ics v)) (hB : LL w B L) (hv : Hid (allR (-1048576) 1048576 v = true)) (hL : Hid (Wds v L)) (h64 : v.length ≤ 64) (hn : L.length ≤ 1000000) (hpos : 0 < L.length) :
    Calls Tryd.prog 61 #[.slice A v.length c, .slice B L.length d] w (RetI (nr v (vsOf L)).1 w) := by
  have HVL : Hid ((vsOf L).length = L.length) := Lib.hid (by simp)
  have HAT := Lib.hid (fun (i : Nat) (h1 : 1 ≤ i) (h2 : i ≤ L.length) => nrK_at (wds_dst hv.out h64 hL.out) h1 (by rw [HVL.out]; exact h2))
  go_enter Tryd.func61, Tryd.ntmps61
  go_wp2_with fail
  go_loopw [5, 6] (fun s i wr => ∃ k a : Nat, 1 ≤ k ∧ k ≤ L.length ∧ i = .int .i64 k ∧ s = .int .i64 a ∧ a < k ∧ Hid (nrK v (vsOf L) k = ((a : Int), dst v ((vsOf L)[a]?.getD []))) ∧ ∃ n, wr = w.drewN n) (fun _ i _ => L.length - (intOf i).toNat)
  case atStart =>
    refine ⟨1, 0, by omega, by omega, rfl, rfl, by omega, Lib.hid ?_, 0, rfl⟩
    obtain ⟨a, h1, h2, h3⟩ := HAT.out 1 (by omega) (by omega)
    obtain rfl : a = 0 := by omega
    exact Prod.ext h2 h3
  case round =>
    obtain ⟨k, a, hk1, hk, rfl, rfl, hak, hnr, n, hwd⟩ := hrel
    have LB : LL wr B L := by rw [hwd]; exact hB.below (below_drewN' _ _)
    have LV : Lies wr A (ics v) := by rw [hwd]; exact hA
    have WD := Lib.hid hwd
    clear hwd
    by_cases hlt : k < L.length
    · have hla : a < L.length := by omega
      obtain ⟨bk, off, rfl, hbk, hc⟩ := LB.lies.lat hlt
      obtain ⟨b2, o2, eA, hb2, hc2⟩ := LB.lies.lat hla
      cases eA
      have hx := LB.inn _ (List.getElem_mem hlt)
      have hx2 := LB.inn _ (List.getElem_mem hla)
      have hw := hL.out _ (List.getElem_mem hlt)
      have hw2 := hL.out _ (List.getElem_mem hla)
      have g1 : Hid ((vsOf L)[k]?.getD [] = L[k].2.2) := Lib.hid (vsOf_get hlt)
      have g2 : Hid ((vsOf L)[a]?.getD [] = L[a].2.2) := Lib.hid (vsOf_get hla)
      have hyes : Hid (dst v L[k].2.2 < dst v L[a].2.2 → nrK v (vsOf L) (k + 1) = ((k : Int), dst v ((vsOf L)[k]?.getD []))) := Lib.hid fun h => nrK_yes (by rw [hnr.out, g1.out, g2.out]; exact h)
      have hno : Hid (¬ dst v L[k].2.2 < dst v L[a].2.2 → nrK v (vsOf L) (k + 1) = ((a : Int), dst v ((vsOf L)[a]?.getD []))) := Lib.hid fun h => by rw [nrK_no (by rw [hnr.out, g1.out, g2.out]; exact h), hnr.out]
      clear g1 g2 hnr HAT
      generalize L[k] = X at *
      generalize L[a] = Y at *
      obtain ⟨XA, Xc, xl⟩ := X
      obtain ⟨YA, Yc, yl⟩ := Y
      simp only at *
      have HQ1 := Lib.hid (rDist_quiet A XA c Xc v xl wr LV hx.1 (Lib.hid hw.1) hv (Lib.hid hw.2.2) h64)
      have HQ2 := Lib.hid (rDist_quiet A YA c Yc v yl wr LV hx2.1 (Lib.hid hw2.1) hv (Lib.hid hw2.2.2) h64)
      clear hx hx2 hw hw2 LB LV
      generalize dst v xl = x at *
      generalize dst v yl = y at *
      by_cases hxy : x < y
      · have HY := Lib.hid (hyes.out hxy)
        clear hyes hno
        go_wp2_with fail
        go_quiet ((go_at_call 58; first | with_reducible exact Calls.quiet_of (HQ1.out _) | with_reducible exact Calls.quiet_of (HQ2.out _)))
        go_wp2_with fail
        exact ⟨⟨k + 1, k, by omega, by omega, by go_num, rfl, by omega, HY, by rw [WD.out]; exact drewN_ex _ _ _⟩, by simp [intOf]; omega⟩
      · have HY := Lib.hid (hno.out hxy)
        clear hyes hno
        go_wp2_with fail
        go_quiet ((go_at_call 58; first | with_reducible exact Calls.quiet_of (HQ1.out _) | with_reducible exact Calls.quiet_of (HQ2.out _)))
        go_wp2_with fail
        exact ⟨⟨k + 1, a, by omega, by omega, by go_num, rfl, by omega, HY, by rw [WD.out]; exact drewN_ex _ _ _⟩, by simp [intOf]; omega⟩
    · obtain rfl : k = L.length := by omega
      have E : Hid ((nr v (vsOf L)).1 = (a : Int)) := Lib.hid (by unfold nr; rw [HVL.out, hnr.out])
      clear LB LV HAT hnr
      go_wp2_with fail
      go_ret
      exact ⟨by rw [E.out]; rfl, n, WD.out⟩
end Go.Proofs.YtfapmghhmkekaaaDoor
