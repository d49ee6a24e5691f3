/- distance, Distance, Nearest -/
import Derived.Test.YtfapmghhmkekaaaDoorQCost
namespace Go.Proofs.YtfapmghhmkekaaaDoor
open Go.RowKit Ear

set_option maxRecDepth 100000 in
set_option maxHeartbeats 1000000 in
theorem distance_any (A B : Option Addr) (c d : Nat) (v u : List Int) (w : World) (hA : Lies w A (ics v)) (hB : Lies w B (ics u)) (hl : Hid (u.length = v.length)) (hv : Hid (allR (-1048576) 1048576 v = true)) (hu : Hid (allR (-1048576) 1048576 u = true)) (h64 : v.length ≤ 64) :
    Calls Tryd.prog 95 #[.slice A v.length c, .slice B u.length d, .int .i64 4611686018427387904] w (RetI (dst v u) w) := by
  go_enter Tryd.func95, Tryd.ntmps95
  go_wp2_with fail
  go_loopw [7, 8, 11] (fun s _ i wr => ∃ k : Nat, k ≤ v.length ∧ i = .int .i64 k ∧ s = .int .i64 (dsK v u k) ∧ ∃ n, wr = w.drewN n) (fun _ _ i _ => v.length - (intOf i).toNat)
  case atStart => exact ⟨0, by omega, rfl, rfl, 0, rfl⟩
  case round =>
    obtain ⟨k, hk, rfl, rfl, n, hwd⟩ := hrel
    by_cases hlt : k < v.length
    · obtain ⟨b1, o1, rfl, hb1, hc1⟩ := (show Lies wr A (ics v) by rw [hwd]; exact hA).at_ hlt
      obtain ⟨b2, o2, rfl, hb2, hc2⟩ := (show Lies wr B (ics u) by rw [hwd]; exact hB).at_ (k := k) (by rw [hl.out]; exact hlt)
      have WD := Lib.hid hwd
      have hlu : k < u.length := by rw [hl.out]; exact hlt
      have m1 := getD_bd hv.out (by omega) (by omega) k
      have m2 := getD_bd hu.out (by omega) (by omega) k
      have m3 := dsK_nn v u k
      have m4 := dsK_bd hv.out hu.out k
      have m5 := ds_term hv.out hu.out k
      have m6 := sq_nn (v[k]?.getD 0 - u[k]?.getD 0)
      have hnx : Hid (dsK v u (k + 1) = dsK v u k + (v[k]?.getD 0 - u[k]?.getD 0) * (v[k]?.getD 0 - u[k]?.getD 0)) := Lib.hid rfl
      clear hwd
      generalize v[k]?.getD 0 = x at *
      generalize u[k]?.getD 0 = y at *
      generalize hy : dsK v u k = s at *
      have HY := Lib.hid hy
      clear hy
      have p1 : IntKind.i64.wrap (x - y) = x - y := IntWalk.i64_in _ (by omega)
      generalize hz : (x - y) * (x - y) = z at *
      have p2 : IntKind.i64.wrap ((x - y) * (x - y)) = z := by rw [hz]; exact IntWalk.i64_in _ (by omega)
      have p3 : IntKind.i64.wrap (s + z) = s + z := IntWalk.i64_in _ (by omega)
      have p4 : ¬ (s + z ≥ 4611686018427387904) := by omega
      have HZ := Lib.hid hz
      clear hz
      go_wp2_with fail
      go_quiet (fail)
      go_wp2_with fail
      exact ⟨⟨k + 1, by omega, by go_num, by rw [hnx.out], by rw [WD.out]; exact drewN_ex _ _ _⟩, by simp [intOf]; omega⟩
    · obtain rfl : k = v.length := by omega
      have E : Hid (dsK v u v.length = dst v u) := Lib.hid (by unfold dst; rw [hl.out])
      go_wp2_with fail
      go_ret
      exact ⟨by rw [E.out]; rfl, n, rfl⟩
/-- a block that is known whole, as a list -/
theorem lies_row {w : World} {g : Nat} {t : TypeId} {cs : Array Value} (hr : w.heap[g]? = some (.cells cs t (0, 0))) : Lies w (some ⟨g, 0, none⟩) cs.toList := fun _ =>
  ⟨g, 0, rfl, row_lt hr, fun k u hu => by rw [Nat.zero_add, cell_of_row w g k _ _ _ hr]; simpa using hu⟩
theorem LL.two {w : World} {g c d : Nat} {A B : Option Addr} {v u : List Int} {t : TypeId} (hr : w.heap[g]? = some (.cells #[.slice A v.length c, .slice B u.length d] t (0, 0))) (h1 : InOk w (A, c, v)) (h2 : InOk w (B, d, u)) :
    LL w (some ⟨g, 0, none⟩) [(A, c, v), (B, d, u)] :=
  ⟨lies_row hr, fun x hx => by
    rcases List.mem_cons.1 hx with rfl | hx
    · exact h1
    · rcases List.mem_cons.1 hx with rfl | hx
      · exact h2
      · cases hx⟩
theorem LL.one {w : World} {g c : Nat} {A : Option Addr} {v : List Int} {t : TypeId} (hr : w.heap[g]? = some (.cells #[.slice A v.length c] t (0, 0))) (h1 : InOk w (A, c, v)) :
    LL w (some ⟨g, 0, none⟩) [(A, c, v)] :=
  ⟨lies_row hr, fun x hx => by
    rcases List.mem_cons.1 hx with rfl | hx
    · exact h1
    · cases hx⟩
theorem vectors_two (g : Nat) (A B : Option Addr) (c d : Nat) (v u : List Int) (w : World) (h : LL w (some ⟨g, 0, none⟩) [(A, c, v), (B, d, u)]) (r : Int) (hr : Hid (vecR [v, u] = r)) :
    Calls Tryd.prog 86 #[.slice (some ⟨g, 0, none⟩) 2 2] w (RetIB r w) := vectors_any _ 2 [(A, c, v), (B, d, u)] w h.lies h.inn (by simp) r hr
theorem fits_one (g : Nat) (A B : Option Addr) (c d : Nat) (v : List Int) (M : List Inn) (w : World) (h : LL w (some ⟨g, 0, none⟩) [(A, c, v)]) (hB : LL w B M) (r : Int) (hr : Hid (fitR [v] (vsOf M) = r)) :
    Calls Tryd.prog 90 #[.slice (some ⟨g, 0, none⟩) 1 1, .slice B M.length d] w (RetIB r w) := fits_any _ B 1 d [(A, c, v)] M w h hB r hr
/-- what Distance answers -/
def disR (v u : List Int) : Int × Int := if vecR [v, u] = 0 then (0, dst v u) else (2, 0)
theorem vec_two {v u : List Int} (h : vecR [v, u] = 0) : u.length = v.length ∧ v.length ≤ 64 ∧ allR (-1048576) 1048576 v = true ∧ allR (-1048576) 1048576 u = true := by
  have h2 := (vecR_ok.1 h).2
  have h3 := vecOk_mem h2 (x := v) (by simp)
  have h4 := vecOk_mem h2 (x := u) (by simp)
  exact ⟨by rw [h4.1]; rfl, h3.2.2.1, h3.2.2.2, h4.2.2.2⟩
theorem vec_two_bad {v u : List Int} (h : vecR [v, u] ≠ 0) : vecR [v, u] = 2 := by
  unfold vecR at h ⊢
  rw [if_neg (by simp)] at h ⊢
  split at h
  · exact absurd rfl h
  · rename_i h3; rw [if_neg h3]
set_option maxRecDepth 100000 in
set_option maxHeartbeats 1000000 in
theorem Distance_any (A B : Option Addr) (c d : Nat) (v u : List Int) (w : World) (hA : InOk w (A, c, v)) (hB : InOk w (B, d, u)) (err r : Int) (ho : Hid (disR v u = (err, r))) :
    Calls Tryd.prog 57 #[.slice A v.length c, .slice B u.length d] w (RetCost err r w) := by
  have ho' := ho.out
  unfold disR at ho'
  clear ho
  have HA := Lib.hid hA
  have HB := Lib.hid hB
  clear hA hB
  obtain ⟨w1, hw1⟩ : ∃ w1, w1 = w.alloc (.cells #[.slice A v.length c, .slice B u.length d] 22) := ⟨_, rfl⟩
  have LV : Hid (LL w1 (some ⟨w.heap.size, 0, none⟩) [(A, c, v), (B, d, u)]) := Lib.hid (by rw [hw1]; exact LL.two (heap_alloc_new w _) (HA.out.alloc _) (HB.out.alloc _))
  have B1 : Hid (Below w.heap.size w w1) := Lib.hid (by rw [hw1]; exact (Below.refl _ w).alloc (Nat.le_refl _) _)
  by_cases h0 : vecR [v, u] = 0
  · rw [if_pos h0] at ho'
    injection ho' with e1 e2
    subst e1 e2
    have H0 := Lib.hid h0
    clear h0
    go_enter Tryd.func57, Tryd.ntmps57
    go_wp2_with fail
    rw [← hw1]
    clear hw1
    refine (vectors_two w.heap.size A B c d v u w1 LV.out 0 H0).mono ?_
    rintro e w2 ⟨rfl, hb2⟩
    have B2 := Lib.hid (B1.out.trans (hb2.mono B1.out.size))
    clear hb2
    go_wp2_with fail
    refine (distance_any A B c d v u w2 (HA.out.below B2.out).1 (HB.out.below B2.out).1 (Lib.hid (vec_two H0.out).1) (Lib.hid (vec_two H0.out).2.2.1) (Lib.hid (vec_two H0.out).2.2.2) (vec_two H0.out).2.1).mono ?_
    rintro e w3 ⟨rfl, n3, rfl⟩
    go_wp2_with fail
    go_ret2
    exact ⟨rfl, B2.out.trans (below_drewN' _ _)⟩
  · rw [if_neg h0] at ho'
    injection ho' with e1 e2
    subst e1 e2
    have H0 := Lib.hid (vec_two_bad h0)
    clear h0
    go_enter Tryd.func57, Tryd.ntmps57
    go_wp2_with fail
    rw [← hw1]
    clear hw1
    refine (vectors_two w.heap.size A B c d v u w1 LV.out 2 H0).mono ?_
    rintro e w2 ⟨rfl, hb2⟩
    have B2 := Lib.hid (B1.out.trans (hb2.mono B1.out.size))
    clear hb2
    go_wp2_with fail
    go_ret2
    exact ⟨rfl, B2.out⟩
/-- the post of Nearest -/
def RetNea (p : Int × Int) (err : Int) (w : World) (e : Ending) (w' : World) : Prop := e = .returned (.tuple #[.int .i64 p.1, .int .i64 p.2, .int .i64 err]) ∧ Below w.heap.size w w'
/-- what Nearest answers -/
def neaR (v : List Int) (bs : List (List Int)) : Int × Int × Int := if fitR [v] bs = 0 then (0, nr v bs) else (fitR [v] bs, (0, 0))
set_option maxRecDepth 100000 in
set_option maxHeartbeats 1000000 in
theorem Nearest_any (A B : Option Addr) (c d : Nat) (v : List Int) (M : List Inn) (w : World) (hA : InOk w (A, c, v)) (hB : LL w B M) (err : Int) (p : Int × Int) (ho : Hid (neaR v (vsOf M) = (err, p))) :
    Calls Tryd.prog 59 #[.slice A v.length c, .slice B M.length d] w (RetNea p err w) := by
  have ho' := ho.out
  unfold neaR at ho'
  clear ho
  have HA := Lib.hid hA
  have HB := Lib.hid hB
  clear hA hB
  obtain ⟨w1, hw1⟩ : ∃ w1, w1 = w.alloc (.cells #[.slice A v.length c] 22) := ⟨_, rfl⟩
  have LV : Hid (LL w1 (some ⟨w.heap.size, 0, none⟩) [(A, c, v)]) := Lib.hid (by rw [hw1]; exact LL.one (heap_alloc_new w _) (HA.out.alloc _))
  have B1 : Hid (Below w.heap.size w w1) := Lib.hid (by rw [hw1]; exact (Below.refl _ w).alloc (Nat.le_refl _) _)
  by_cases h0 : fitR [v] (vsOf M) = 0
  · rw [if_pos h0] at ho'
    injection ho' with e1 e2
    subst e1 e2
    have H0 := Lib.hid h0
    have hf := fit_of h0
    have hx := vecOk_mem hf.v (x := v) (by simp)
    have hb := bookOk_iff.1 hf.b
    have hml : M.length ≤ 256 := by simpa using hb.2.1
    have WD := Lib.hid (fit_words hf (x := v) (by simp))
    have HX := Lib.hid hx.2.2.2
    have h64 := hx.2.2.1
    clear h0 hf hx hb
    go_enter Tryd.func59, Tryd.ntmps59
    go_wp2_with fail
    rw [← hw1]
    clear hw1
    refine (fits_one w.heap.size A B c d v M w1 LV.out (HB.out.below B1.out) 0 H0).mono ?_
    rintro e w2 ⟨rfl, hb2⟩
    have B2 := Lib.hid (B1.out.trans (hb2.mono B1.out.size))
    clear hb2
    go_wp2_with fail
    refine (nearest_any A B c d v M w2 (HA.out.below B2.out).1 (HB.out.below B2.out) HX WD h64 (by omega)).mono ?_
    rintro e w3 ⟨rfl, n3, rfl⟩
    go_wp2_with fail
    go_ret3
    exact ⟨rfl, B2.out.trans (below_drewN' _ _)⟩
  · rw [if_neg h0] at ho'
    injection ho' with e1 e2
    subst e2
    have hne : (err != 0) = true := by rw [← e1]; simpa using h0
    have H0 := Lib.hid e1
    clear h0 e1
    go_enter Tryd.func59, Tryd.ntmps59
    go_wp2_with fail
    rw [← hw1]
    clear hw1
    refine (fits_one w.heap.size A B c d v M w1 LV.out (HB.out.below B1.out) err H0).mono ?_
    rintro e w2 ⟨rfl, hb2⟩
    have B2 := Lib.hid (B1.out.trans (hb2.mono B1.out.size))
    clear hb2
    go_wp2_with fail
    go_ret3
    exact ⟨rfl, B2.out⟩
end Go.Proofs.YtfapmghhmkekaaaDoor
