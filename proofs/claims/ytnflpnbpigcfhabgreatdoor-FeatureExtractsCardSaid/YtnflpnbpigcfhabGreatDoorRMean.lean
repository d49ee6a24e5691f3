/- the reference's mean -/
import Derived.Test.YtnflpnbpigcfhabGreatDoorCen
namespace Go.Proofs.YtnflpnbpigcfhabGreatDoor
open Go.RowKit Ear

/-- n numbers: the first k are done, the k-th has come to x -/
def meaTo (f : Nat → Int) (x : Int) (n k : Nat) : List Int := (List.range n).map fun q => if q < k then f q else if q = k then x else 0
theorem meaTo_start (f : Nat → Int) (n : Nat) : meaTo f 0 n 0 = List.replicate n 0 := by
  apply List.ext_getElem (by simp [meaTo])
  intro q h1 h2
  simp [meaTo]
theorem meaTo_get (f : Nat → Int) (x : Int) (n k : Nat) (hk : k < n) : (meaTo f x n k)[k]? = some x := by
  rw [List.getElem?_eq_getElem (by simpa [meaTo] using hk)]
  simp [meaTo]
theorem meaTo_set (f : Nat → Int) (x y : Int) (n k : Nat) : (meaTo f x n k).set k y = meaTo f y n k := by
  apply List.ext_getElem (by simp [meaTo])
  intro q h1 h2
  rw [List.getElem_set]
  simp only [meaTo, List.getElem_map, List.getElem_range]
  by_cases h : k = q
  · subst h; simp
  · rw [if_neg h]
    by_cases h' : q < k
    · rw [if_pos h', if_pos h']
    · rw [if_neg h', if_neg h', if_neg (fun e => h e.symm), if_neg (fun e => h e.symm)]
theorem meaTo_next (f : Nat → Int) (n k : Nat) : meaTo f (f k) n k = meaTo f 0 n (k + 1) := by
  apply List.ext_getElem (by simp [meaTo])
  intro q h1 h2
  simp only [meaTo, List.getElem_map, List.getElem_range]
  by_cases h : q < k
  · rw [if_pos h, if_pos (by omega)]
  · by_cases h' : q = k
    · subst h'; rw [if_neg h, if_pos rfl, if_pos (by omega)]
    · rw [if_neg h, if_neg h', if_neg (by omega)]
      split <;> rfl
theorem meaTo_all (f : Nat → Int) (n : Nat) : meaTo f 0 n n = (List.range n).map f := by
  apply List.ext_getElem (by simp [meaTo])
  intro q h1 h2
  simp only [meaTo, List.length_map, List.length_range] at h1
  simp only [meaTo, List.getElem_map, List.getElem_range]
  rw [if_pos h1]
theorem meanL_range (vs : List (List Int)) : (List.range (len0 vs)).map (fun q => rnd (colS vs q vs.length) vs.length) = meanL vs := by
  simp [meanL, sumV]

set_option maxRecDepth 100000 in
set_option maxHeartbeats 2000000 in
theorem rmean_any (A : Option Addr) (c n : Nat) (L : List Inn) (w : World) (hA : LL w A L) (hv : Hid (Vcs n (vsOf L))) (h0 : 0 < L.length) (hn : L.length ≤ 10000) (hn2 : n ≤ 1000) :
    Calls Tryz.prog 70 #[.slice A L.length c] w (RetInts (meanL (vsOf L)) w) := by
  have HVL : Hid ((vsOf L).length = L.length) := Lib.hid (by simp)
  have HN : Hid (len0 (vsOf L) = n) := Lib.hid (hv.out.len0 (by rw [HVL.out]; exact h0))
  have HL0 : Hid (L[0].2.2.length = n) := Lib.hid (by
    have := (hv.out.getD (t := 0) (by rw [HVL.out]; exact h0)).1
    rw [List.getElem?_map, List.getElem?_eq_getElem h0] at this
    exact this)
  have HB := Lib.hid (fun q t : Nat => colS_bd (vs := vsOf L) (fun x hx => (hv.out x hx).2) q t)
  obtain ⟨b0, o0, rfl, hb0, hc0⟩ := hA.lies.lat h0
  rw [HL0.out, Nat.add_zero] at hc0
  generalize L[0] = X0 at *
  go_enter Tryz.func70, Tryz.ntmps70
  go_wp2_with fail
  obtain ⟨w1, hmk, ho1, hb1⟩ := make_ints w n (by omega) w.heap.size (Nat.le_refl _)
  rw [hmk]
  clear hmk
  obtain ⟨g, hg⟩ : ∃ g, g = w.heap.size := ⟨_, rfl⟩
  rw [← hg] at ho1 ⊢
  have hg0 : w.heap.size ≤ g := by omega
  clear hg
  rw [← meaTo_start (fun q => rnd (colS (vsOf L) q L.length) L.length) n] at ho1
  go_wp2_with fail
  go_loopw [4, 5] (fun i _ wr => ∃ k : Nat, k ≤ n ∧ i = .int .i64 k ∧ wr.ownsRow g 3 1 (.slice (some ⟨g, 0, none⟩) n n) n (ics (meaTo (fun q => rnd (colS (vsOf L) q L.length) L.length) 0 n k)) ∧ Below w.heap.size w wr) (fun i _ _ => n - (intOf i).toNat)
  case atStart => exact ⟨0, by omega, rfl, ho1, hb1⟩
  case round =>
    obtain ⟨k, hk, rfl, r1, r2⟩ := hrel
    by_cases hlt : k < n
    · go_wp2_with fail
      go_loopw [5] (fun i wr => ∃ t : Nat, t ≤ L.length ∧ i = .int .i64 t ∧ wr.ownsRow g 3 1 (.slice (some ⟨g, 0, none⟩) n n) n (ics (meaTo (fun q => rnd (colS (vsOf L) q L.length) L.length) (colS (vsOf L) k t) n k)) ∧ Below w.heap.size w wr) (fun i _ => L.length - (intOf i).toNat)
      case atStart => exact ⟨0, by omega, rfl, r1, r2⟩
      case round =>
        obtain ⟨t, ht, rfl, s1, s2⟩ := hrel
        by_cases hlt2 : t < L.length
        · obtain ⟨bk, off, eA, hbk, hc⟩ := (hA.below s2).lies.lat hlt2
          cases eA
          have hx := (hA.below s2).inn _ (List.getElem_mem hlt2)
          have hgx := hv.out.getD (t := t) (by rw [HVL.out]; exact hlt2)
          have e3 : Hid (colS (vsOf L) k (t + 1) = colS (vsOf L) k t + L[t].2.2[k]?.getD 0) := Lib.hid (by
            show colS (vsOf L) k t + _ = _
            rw [vsOf_get hlt2])
          rw [vsOf_get hlt2] at hgx
          generalize L[t] = X at *
          obtain ⟨XA, Xc, xl⟩ := X
          simp only at *
          have G1 := Lib.hid hgx.1
          have G2 := Lib.hid hgx.2
          have hkx : k < xl.length := by rw [G1.out]; exact hlt
          obtain ⟨bx, ox, rfl, hbx, hcx⟩ := hx.1.at_ hkx
          have b1 := getD_bd G2.out (by omega) (by omega) k
          have b2 := HB.out k t
          have q1 : wr.cell? ⟨g, k, none⟩ = some (.int .i64 (colS (vsOf L) k t)) := by
            rw [s1.cellAt k (by omega)]; simp only [List.getElem?_map, meaTo_get _ _ n k hlt]; rfl
          have q2 : wr.frozen? ⟨g, k, none⟩ = false := s1.frozenAt k
          clear hgx hx
          generalize xl[k]?.getD 0 = x at *
          generalize hy : colS (vsOf L) k t = y at *
          have HY := Lib.hid hy
          clear hy
          have p1 : IntKind.i64.wrap (y + x) = y + x := IntWalk.i64_in _ (by omega)
          go_wp2_with fail
          go_still_tail 15, (by kernel_rfl)
          repeat still_step
          go_wp2_with fail
          have hst := s1.stored k (.int .i64 (y + x))
          have hset : (ics (meaTo (fun q => rnd (colS (vsOf L) q L.length) L.length) y n k)).set k (.int .i64 (y + x)) = ics (meaTo (fun q => rnd (colS (vsOf L) q L.length) L.length) (colS (vsOf L) k (t + 1)) n k) := by
            rw [← List.map_set, meaTo_set, e3.out]
          rw [hset] at hst
          exact ⟨⟨t + 1, by omega, by go_num, hst.1.drew, (s2.setCell hg0 _).drew⟩, by simp [intOf]; omega⟩
        · obtain rfl : t = L.length := by omega
          have b2 := HB.out k L.length
          have q1 : wr.cell? ⟨g, k, none⟩ = some (.int .i64 (colS (vsOf L) k L.length)) := by
            rw [s1.cellAt k (by omega)]; simp only [List.getElem?_map, meaTo_get _ _ n k hlt]; rfl
          have q2 : wr.frozen? ⟨g, k, none⟩ = false := s1.frozenAt k
          have hst := s1.stored k (.int .i64 (rnd (colS (vsOf L) k L.length) L.length))
          have hset : (ics (meaTo (fun q => rnd (colS (vsOf L) q L.length) L.length) (colS (vsOf L) k L.length) n k)).set k (.int .i64 (rnd (colS (vsOf L) k L.length) L.length)) = ics (meaTo (fun q => rnd (colS (vsOf L) q L.length) L.length) 0 n (k + 1)) := by
            rw [← List.map_set, meaTo_set, ← meaTo_next]
          rw [hset] at hst
          have HST := Lib.hid hst.1
          clear hst hset s1
          generalize colS (vsOf L) k L.length = y at *
          go_wp2_with (go_at_call 63; refine (Round_any _ _ _ (by omega) (by omega) (by omega) (by omega)).mono ?_; rintro e w' ⟨rfl, rfl⟩)
          exact ⟨⟨k + 1, by omega, by go_num, HST.out, s2.setCell hg0 _⟩, by simp [intOf]; omega⟩
    · obtain rfl : k = n := by omega
      have E : Hid (meaTo (fun q => rnd (colS (vsOf L) q L.length) L.length) 0 k k = meanL (vsOf L)) := Lib.hid (by
        rw [meaTo_all, ← meanL_range, HN.out, HVL.out])
      have HM : Hid ((meanL (vsOf L)).length = k) := Lib.hid (by rw [meanL_length, HN.out])
      rw [E.out] at r1
      go_wp2_with fail
      go_ret
      exact ⟨_, _, by rw [HM.out]; rfl, by rw [HM.out]; exact ownsRow_le r1 hg0, r2⟩
end Go.Proofs.YtnflpnbpigcfhabGreatDoor
