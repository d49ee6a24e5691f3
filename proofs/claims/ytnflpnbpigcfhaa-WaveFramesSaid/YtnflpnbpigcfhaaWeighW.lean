/- wave.Weigh -/
import Derived.Test.YtnflpnbpigcfhaaWinW
namespace Go.Proofs.Ytnflpnbpigcfhaa
open Go.RowKit Ear

set_option maxHeartbeats 400000 in
theorem Weigh_chk (A : Option Addr) (c : Nat) (l : List Int) (kind : Int) (w : World) (h : Lies w A (ics l)) (hn : l.length ≤ 9223372036854775807) (r : Int) (hr : Hid (vchk l = r)) (h0 : (r != 0) = true) :
    Calls Try.prog 15 #[.slice A l.length c, .int .i64 kind] w (IntsErr r [] w) := by
  go_enter Try.func15, Try.ntmps15
  go_wp2_with (go_at_call 19; refine (values_any A c l _ h hn _ hr).mono ?_; rintro e w' ⟨rfl, rfl⟩)
  go_ret2
  exact ⟨none, 0, rfl, World.ownsRow_nil _ _ _ _, Below.refl _ _⟩

set_option maxHeartbeats 400000 in
theorem Weigh_bad (A : Option Addr) (c : Nat) (l : List Int) (kind : Int) (w : World) (h : Lies w A (ics l)) (hn : l.length ≤ 200000) (hr : Hid (vchk l = 0)) (hb : kind < 1 ∨ 3 < kind ∨ (l.length : Int) < 1 ∨ 4096 < (l.length : Int)) :
    Calls Try.prog 15 #[.slice A l.length c, .int .i64 kind] w (IntsErr 2 [] w) := by
  have HB := Lib.hid hb
  clear hb
  go_enter Try.func15, Try.ntmps15
  go_wp2_with (go_at_call 19; refine (values_any A c l _ h (by omega) _ hr).mono ?_; rintro e w' ⟨rfl, rfl⟩)
  refine (Window_bad kind l.length _ HB.out).mono ?_
  rintro e w1 ⟨A1, c1, rfl, ho1, hb1⟩
  go_wp2_with fail
  go_ret2
  exact ⟨none, 0, rfl, World.ownsRow_nil _ _ _ _, hb1⟩

set_option maxRecDepth 100000 in
set_option maxHeartbeats 1000000 in
theorem Weigh_ok (A : Option Addr) (c : Nat) (l : List Int) (kind : Int) (w : World) (h : Lies w A (ics l)) (hr : Hid (vchk l = 0)) (hk1 : 1 ≤ kind) (hk3 : kind ≤ 3) (hs1 : 1 ≤ l.length) (hs2 : l.length ≤ 4096) :
    Calls Try.prog 15 #[.slice A l.length c, .int .i64 kind] w (IntsErr 0 (wgh l kind) w) := by
  have hv := Lib.hid (vchk_ok.1 hr.out).2
  go_enter Try.func15, Try.ntmps15
  go_wp2_with (go_at_call 19; refine (values_any A c l _ h (by omega) _ hr).mono ?_; rintro e w' ⟨rfl, rfl⟩)
  refine (Window_ok kind l.length _ hk1 hk3 hs1 hs2).mono ?_
  rintro e w1 ⟨A1, c1, rfl, ho1, hb1⟩
  rw [winTo_length] at ho1 ⊢
  go_wp2_with fail
  go_loopw [9, 10, 28] (fun _ _ i wr => ∃ k : Nat, k ≤ l.length ∧ i = .int .i64 k ∧ wr.ownsRow w.heap.size 3 1 (.slice A1 l.length c1) l.length (ics (wghTo l kind k)) ∧ Below w.heap.size w wr) (fun _ _ i _ => l.length - (intOf i).toNat)
  case atStart => exact ⟨0, by omega, rfl, by rw [wghTo_zero]; exact ho1, hb1⟩
  case round =>
    obtain ⟨k, hk, rfl, r1, r2⟩ := hrel
    by_cases hlt : k < l.length
    · obtain ⟨g, cap, hform, hg1, hg2⟩ := r1.form (by omega)
      obtain ⟨rfl, rfl⟩ : A1 = some ⟨g, 0, none⟩ ∧ c1 = cap := by injection hform with e1 _ e3; exact ⟨e1, e3⟩
      have q1 : wr.cell? ⟨g, k, none⟩ = some (.int .i64 (winAt kind l.length k)) := by
        rw [r1.cellAt k (by omega)]; simp only [List.getElem?_map, wghTo_get l kind k hlt]; rfl
      have q2 : wr.frozen? ⟨g, k, none⟩ = false := r1.frozenAt k
      obtain ⟨bk, off, rfl, hb, hc⟩ := (h.below r2).at_ hlt
      have b1 := allR_get hv.out hlt
      have e1 : l[k]?.getD 0 = l[k] := by simp [List.getElem?_eq_getElem hlt]
      rw [← e1] at b1
      clear e1
      have b2 := winAt_bd (kind := kind) (n := l.length) (i := k) (by omega) (by omega)
      generalize hx1 : l[k]?.getD 0 = x1 at *
      generalize hx2 : winAt kind l.length k = x2 at *
      have m1 := mul_bd3 (Y := 4096) (X := 2147483647) b2.1 b2.2 b1.1 b1.2 (by omega)
      have H1 := Lib.hid hx1
      have H2 := Lib.hid hx2
      clear hx1 hx2
      go_wp2_with (go_at_call 23; refine (rounded_any _ _ _ (by omega) (by omega) (by omega) (by omega)).mono ?_; rintro e w' ⟨rfl, rfl⟩)
      have hst := r1.stored k (.int .i64 (rnd (x1 * x2) 4096))
      have hset : (ics (wghTo l kind k)).set k (.int .i64 (rnd (x1 * x2) 4096)) = ics (wghTo l kind (k + 1)) := by
        rw [wghTo_succ, ics, ics, List.map_set, ← H1.out, ← H2.out]; rfl
      rw [hset] at hst
      exact ⟨⟨k + 1, by omega, by go_num, hst.1, r2.setCell (by exact hg1) _⟩, by simp [intOf]; omega⟩
    · rw [wghTo_all l kind k (by omega)] at r1
      go_wp2_with fail
      go_ret2
      exact ⟨A1, c1, by rw [wgh_length]; rfl, by rw [wgh_length]; exact r1, r2⟩
end Go.Proofs.Ytnflpnbpigcfhaa
