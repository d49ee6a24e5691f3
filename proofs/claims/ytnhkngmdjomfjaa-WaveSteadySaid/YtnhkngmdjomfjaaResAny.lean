/- a change of rate, whatever comes in: the program's and the reference's -/
import Derived.Test.YtnhkngmdjomfjaaRResOk
import Derived.Test.YtnhkngmdjomfjaaPRes2
namespace Go.Proofs.Ytnhkngmdjomfjaa
open Go.RowKit Ear

set_option maxHeartbeats 1000000 in
theorem Resample_long (rate : Int) (A : Option Addr) (c : Nat) (l : List Int) (u d M : Nat) (w : World) (h : Lies w A (ics l)) (hn : l.length ≤ 200000) (hr : Hid (chk rate l = 0))
    (h1 : 1 ≤ u) (h2 : u ≤ 16) (h3 : 1 ≤ d) (h4 : d ≤ 16) (h5 : (rate * u % d != 0) = false) (h6 : 1 ≤ rate * u / d) (h7 : rate * u / d ≤ 192000)
    (hru1 : 0 ≤ rate * u) (hru2 : rate * u ≤ 3072000) (hlu : (l.length : Int) * u ≤ 3200000) (hlu0 : 0 ≤ (l.length : Int) * u) (hm : 200000 < M) (hM : ((l.length : Int) * u + d - 1) / d = M) :
    Calls Try.prog 23 #[recV rate A l.length c, .int .i64 u, .int .i64 d] w (RecRet 0 5 [] w) := by
  have HL := Lib.hid (fun o o' => (h.alloc (w := w) o).alloc o')
  have e1 : decide ((u : Int) < 1) = false := by simp; omega
  have e2 : decide ((16 : Int) < u) = false := by simp; omega
  have e3 : decide ((d : Int) < 1) = false := by simp; omega
  have e4 : decide ((16 : Int) < d) = false := by simp; omega
  have e5 : decide (rate * u / d < 1) = false := by simp; omega
  have e6 : decide (192000 < rate * u / d) = false := by simp; omega
  have e7 : decide ((200000 : Int) < M) = true := by simp; omega
  go_enter Try.func23, Try.ntmps23
  go_wp2_with fail
  refine (check_any rate A c l _ (HL.out _ _) (by omega) _ hr).mono ?_
  rintro e w1 ⟨rfl, hb⟩
  obtain ⟨hc, hf⟩ := bcell hb
  have hz := hb.size
  simp at hz
  have hz0 : w.heap.size < w1.heap.size := by omega
  have hz1 : w.heap.size + 1 < w1.heap.size := by omega
  go_wp2_with fail
  refine bodyPost_ret (v := .tuple #[.agg #[.int .i64 0, .slice none 0 0], .int .i64 5]) (by simp [results, Try.results23, go_sem, hc, hz1]) rfl (RecRet.none_ rfl ?_)
  have hb0 : Below w.heap.size w w1 := ((((Below.refl _ _).alloc (Nat.le_refl _) _).alloc (by simp) _).trans (hb.mono (by simp; omega)))
  exact (((hb0.setCell (Nat.le_succ _) _).setCell (Nat.le_succ _) _).alloc (by simp; omega) _)

set_option maxHeartbeats 1000000 in
theorem rResample_long (rate : Int) (A : Option Addr) (c : Nat) (l : List Int) (u d M : Nat) (w : World) (h : Lies w A (ics l)) (hn : l.length ≤ 200000) (hr : Hid (chk rate l = 0))
    (h1 : 1 ≤ u) (h2 : u ≤ 16) (h3 : 1 ≤ d) (h4 : d ≤ 16) (h5 : (rate * u % d != 0) = false) (h6 : 1 ≤ rate * u / d) (h7 : rate * u / d ≤ 192000)
    (hru1 : 0 ≤ rate * u) (hru2 : rate * u ≤ 3072000) (hlu : (l.length : Int) * u ≤ 3200000) (hlu0 : 0 ≤ (l.length : Int) * u) (hm : 200000 < M) (hM : ((l.length : Int) * u + d - 1) / d = M) :
    Calls Try.prog 24 #[recV rate A l.length c, .int .i64 u, .int .i64 d] w (RecRet 0 5 [] w) := by
  have HL := Lib.hid (fun o o' => (h.alloc (w := w) o).alloc o')
  have e1 : decide ((u : Int) < 1) = false := by simp; omega
  have e2 : decide ((16 : Int) < u) = false := by simp; omega
  have e3 : decide ((d : Int) < 1) = false := by simp; omega
  have e4 : decide ((16 : Int) < d) = false := by simp; omega
  have e5 : decide (rate * u / d < 1) = false := by simp; omega
  have e6 : decide (192000 < rate * u / d) = false := by simp; omega
  have e7 : decide ((200000 : Int) < M) = true := by simp; omega
  go_enter Try.func24, Try.ntmps24
  go_wp2_with fail
  refine (rWrong_any rate A c l _ (HL.out _ _) (by omega) _ hr).mono ?_
  rintro e w1 ⟨rfl, hb⟩
  obtain ⟨hc, hf⟩ := bcell hb
  go_wp2_with fail
  refine (rup_any _ _ _ hlu0 (by omega) (by omega) (by omega)).mono ?_
  rintro e w' ⟨rfl, rfl⟩
  rw [hM]
  go_wp2_with fail
  refine bodyPost_ret (v := .tuple #[.agg #[.int .i64 0, .slice none 0 0], .int .i64 5]) (by simp [results, Try.results24, go_sem, hc]) rfl (RecRet.none_ rfl ?_)
  exact ((((((Below.refl _ _).alloc (Nat.le_refl _) _).alloc (by simp) _).trans (hb.mono (by simp; omega))).setCell (by simp) _).setCell (by simp) _)

theorem Resample_any (rate : Int) (A : Option Addr) (c : Nat) (l : List Int) (u d : Int) (w : World) (h : Lies w A (ics l)) (hn : l.length ≤ 9223372036854775807) (rt err : Int) (out : List Int) (ho : Hid (resR rate l u d = (rt, err, out))) :
    Calls Try.prog 23 #[recV rate A l.length c, .int .i64 u, .int .i64 d] w (RecRet rt err out w) := by
  have ho' := ho.out
  clear ho
  unfold resR at ho'
  by_cases hc : chk rate l = 0
  · obtain ⟨l1, l2, l3, l4⟩ := chk_ok.1 hc
    obtain ⟨m1, m2⟩ := mul_facts (u := u) l2 l3
    by_cases hk : ResOk rate u d
    · obtain ⟨u1, u2, d1, d2, k1, k2, k3⟩ := hk
      obtain ⟨u, rfl⟩ := Int.eq_ofNat_of_zero_le (show 0 ≤ u by omega)
      obtain ⟨d, rfl⟩ := Int.eq_ofNat_of_zero_le (show 0 ≤ d by omega)
      obtain ⟨n1, n2, n3, n4, n5, n6, n7⟩ := res_nums (l := l) (u := u) (d := d) (by omega) (by omega) (by omega) (by omega) l1
      by_cases hM : (l.length * u + d - 1) / d ≤ 200000
      · rw [if_pos (reschk_ok.2 ⟨hc, ⟨u1, u2, d1, d2, k1, k2, k3⟩, by rw [n3]; omega⟩)] at ho'
        injection ho' with e1 e2
        injection e2 with e2 e3
        subst e1 e2 e3
        exact Resample_ok rate A c l u d _ _ w h l1 (Lib.hid hc) (by omega) (by omega) (by omega) (by omega) (by simp [k1]) k2 k3 (by omega) (by omega) n1 n2 hM n3 n4 n5 n6 (Lib.hid rfl) (Lib.hid rfl) n7
      · have hne : reschk rate l u d = 5 := by
          unfold reschk
          rw [if_neg (by simp [hc]), if_pos ⟨u1, u2, d1, d2, k1, k2, k3⟩, if_pos (by rw [n3]; omega)]
        rw [hne, if_neg (by omega)] at ho'
        injection ho' with e1 e2
        injection e2 with e2 e3
        subst e1 e2 e3
        exact Resample_long rate A c l u d _ w h l1 (Lib.hid hc) (by omega) (by omega) (by omega) (by omega) (by simp [k1]) k2 k3 (by omega) (by omega) n1 n2 (by omega) n3
    · have hne : reschk rate l u d = 2 := by
        have hk2 := hk
        unfold ResOk at hk2
        unfold reschk
        rw [if_neg (by simp [hc]), if_neg hk2]
      rw [hne, if_neg (by omega)] at ho'
      injection ho' with e1 e2
      injection e2 with e2 e3
      subst e1 e2 e3
      exact Resample_arg rate A c l u d w h l1 (Lib.hid hc) m1 m2 (bad_cases hk)
  · have hne : reschk rate l u d = chk rate l := by unfold reschk; rw [if_pos hc]
    rw [hne, if_neg hc] at ho'
    injection ho' with e1 e2
    injection e2 with e2 e3
    subst e1 e2 e3
    exact Resample_chk rate A c l u d w h hn _ (Lib.hid rfl) (by simp [hc])

theorem rResample_any (rate : Int) (A : Option Addr) (c : Nat) (l : List Int) (u d : Int) (w : World) (h : Lies w A (ics l)) (hn : l.length ≤ 9223372036854775807) (rt err : Int) (out : List Int) (ho : Hid (resR rate l u d = (rt, err, out))) :
    Calls Try.prog 24 #[recV rate A l.length c, .int .i64 u, .int .i64 d] w (RecRet rt err out w) := by
  have ho' := ho.out
  clear ho
  unfold resR at ho'
  by_cases hc : chk rate l = 0
  · obtain ⟨l1, l2, l3, l4⟩ := chk_ok.1 hc
    obtain ⟨m1, m2⟩ := mul_facts (u := u) l2 l3
    by_cases hk : ResOk rate u d
    · obtain ⟨u1, u2, d1, d2, k1, k2, k3⟩ := hk
      obtain ⟨u, rfl⟩ := Int.eq_ofNat_of_zero_le (show 0 ≤ u by omega)
      obtain ⟨d, rfl⟩ := Int.eq_ofNat_of_zero_le (show 0 ≤ d by omega)
      obtain ⟨n1, n2, n3, n4, n5, n6, n7⟩ := res_nums (l := l) (u := u) (d := d) (by omega) (by omega) (by omega) (by omega) l1
      by_cases hM : (l.length * u + d - 1) / d ≤ 200000
      · rw [if_pos (reschk_ok.2 ⟨hc, ⟨u1, u2, d1, d2, k1, k2, k3⟩, by rw [n3]; omega⟩)] at ho'
        injection ho' with e1 e2
        injection e2 with e2 e3
        subst e1 e2 e3
        exact rResample_ok rate A c l u d _ _ w h l1 (Lib.hid hc) (by omega) (by omega) (by omega) (by omega) (by simp [k1]) k2 k3 (by omega) (by omega) n1 n2 hM n3 n4 n5 n6 (Lib.hid rfl) (Lib.hid rfl) n7
      · have hne : reschk rate l u d = 5 := by
          unfold reschk
          rw [if_neg (by simp [hc]), if_pos ⟨u1, u2, d1, d2, k1, k2, k3⟩, if_pos (by rw [n3]; omega)]
        rw [hne, if_neg (by omega)] at ho'
        injection ho' with e1 e2
        injection e2 with e2 e3
        subst e1 e2 e3
        exact rResample_long rate A c l u d _ w h l1 (Lib.hid hc) (by omega) (by omega) (by omega) (by omega) (by simp [k1]) k2 k3 (by omega) (by omega) n1 n2 (by omega) n3
    · have hne : reschk rate l u d = 2 := by
        have hk2 := hk
        unfold ResOk at hk2
        unfold reschk
        rw [if_neg (by simp [hc]), if_neg hk2]
      rw [hne, if_neg (by omega)] at ho'
      injection ho' with e1 e2
      injection e2 with e2 e3
      subst e1 e2 e3
      exact rResample_arg rate A c l u d w h l1 (Lib.hid hc) m1 m2 (bad_cases hk)
  · have hne : reschk rate l u d = chk rate l := by unfold reschk; rw [if_pos hc]
    rw [hne, if_neg hc] at ho'
    injection ho' with e1 e2
    injection e2 with e2 e3
    subst e1 e2 e3
    exact rResample_chk rate A c l u d w h hn _ (Lib.hid rfl) (by simp [hc])
end Go.Proofs.Ytnhkngmdjomfjaa
