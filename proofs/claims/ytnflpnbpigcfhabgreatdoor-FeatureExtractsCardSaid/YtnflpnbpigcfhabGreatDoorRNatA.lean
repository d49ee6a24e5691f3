/- the reference's natural numbers: trim, order, one -/
import Derived.Test.YtnflpnbpigcfhabGreatDoorMb
import Derived.Test.YtnflpnbpigcfhabGreatDoorPNd
namespace Go.Proofs.YtnflpnbpigcfhabGreatDoor
open Go.RowKit Ear

theorem drewN_ex3 (w : World) (a b c : Nat) : ∃ n, ((w.drewN a).drewN b).drewN c = w.drewN n := ⟨a + (b + c), by rw [World.drewN_drewN, World.drewN_drewN]⟩
theorem zer_len (l : List Int) : zer l l.length := fun q hq => by rw [List.getElem?_eq_none hq]; rfl
theorem zer_pred {l : List Int} {n : Nat} (hn : 0 < n) (h : zer l n) (hx : l[n - 1]?.getD 0 = 0) : zer l (n - 1) := fun q hq => by
  by_cases e : q = n - 1
  · subst e; exact hx
  · exact h q (by omega)
theorem Lies.ndl {w : World} {A : Option Addr} {l : List Int} (h : Lies w A (ucs l)) (hd : dgs l) {v : Nat} (hv : vl l = v) : Lies w A (ucs (nd v)) := by
  have key : ∀ k, ∀ l : List Int, l.length = k → dgs l → ∃ m, m ≤ l.length ∧ zer l m ∧ (m = 0 ∨ l[m - 1]?.getD 0 ≠ 0) := by
    intro k l hk _
    have : ∀ m, m ≤ l.length → zer l m → ∃ m, m ≤ l.length ∧ zer l m ∧ (m = 0 ∨ l[m - 1]?.getD 0 ≠ 0) := by
      intro m
      induction m with
      | zero => intro h1 h2; exact ⟨0, h1, h2, .inl rfl⟩
      | succ m ih =>
        intro h1 h2
        by_cases hx : l[m]?.getD 0 = 0
        · exact ih (by omega) (zer_pred (by omega) h2 hx)
        · exact ⟨m + 1, h1, h2, .inr hx⟩
    exact this l.length (Nat.le_refl _) (zer_len l)
  obtain ⟨m, _, hz, hm⟩ := key l.length l rfl hd
  have e := take_nd hd hz hm
  rw [hv, Int.toNat_natCast] at e
  rw [← e]
  have h2 := h.take m
  rwa [show (ucs l).take m = ucs (l.take m) from List.map_take.symm] at h2
theorem nd_le_len {l : List Int} (hd : dgs l) {v : Nat} (hv : vl l = v) : (nd v).length ≤ l.length := by
  apply nd_len_le
  have := (vl_bd hd).2
  rw [hv, BB_nat] at this
  omega
set_option maxRecDepth 100000 in
set_option maxHeartbeats 400000 in
theorem trim_any (A : Option Addr) (c : Nat) (l : List Int) (w : World) (h : Lies w A (ucs l)) (hd : Hid (dgs l)) (hlc : l.length ≤ c) (hn : l.length ≤ 9223372036854775807) (v : Nat) (hv : Hid (vl l = v)) :
    Calls Tryz.prog 92 #[.slice A l.length c] w fun e w' => e = .returned (.slice A (nd v).length c) ∧ w = w' := by
  have HZ := Lib.hid (zer_len l)
  go_enter Tryz.func92, Tryz.ntmps92
  go_wp2
  go_loop [3] (fun i => ∃ k : Nat, k ≤ l.length ∧ i = .int .i64 k ∧ Hid (zer l k)) (fun i => (intOf i).toNat)
  case atStart => exact ⟨_, Nat.le_refl _, rfl, HZ⟩
  case round =>
    obtain ⟨k, hk, rfl, hz⟩ := hrel
    clear HZ
    have fin : ∀ (hm : k = 0 ∨ l[k - 1]?.getD 0 ≠ 0), Hid ((nd v).length = k) := fun hm => Lib.hid (by
      have e := take_nd hd.out hz.out hm
      rw [hv.out, Int.toNat_natCast] at e
      rw [← e, List.length_take]
      omega)
    have FIN := Lib.hid fin
    clear fin
    by_cases h0 : k = 0
    · subst h0
      have F := FIN.out (.inl rfl)
      go_wp2_with fail
      go_ret
      exact ⟨by rw [F.out]; rfl, rfl⟩
    · obtain ⟨b, off, rfl, hb, hc⟩ := h.uat (k := k - 1) (by omega)
      have i0 : ((k : Int) - 1).toNat = k - 1 := by omega
      by_cases hx : l[k - 1]?.getD 0 = 0
      · have HZ1 := Lib.hid (zer_pred (by omega) hz.out hx)
        rw [hx] at hc
        clear hx
        go_wp2_with fail
        exact ⟨⟨k - 1, by omega, by go_num, HZ1⟩, by simp [intOf]; omega⟩
      · have F := FIN.out (.inr hx)
        have hd1 := dgs_at hd.out (k - 1)
        generalize hx1 : l[k - 1]?.getD 0 = x at *
        have HX := Lib.hid hx1
        clear hx1
        have q : (x == 0) = false := by simpa using hx
        have hkc : k ≤ c := by omega
        go_wp2_with fail
        go_ret
        exact ⟨by rw [F.out]; rfl, rfl⟩
set_option maxRecDepth 100000 in
set_option maxHeartbeats 400000 in
/-- one: of a number without leading zeros -/
theorem one_any (A : Option Addr) (c n : Nat) (w : World) (h : Lies w A (ucs (nd n))) (hn : (nd n).length ≤ 9223372036854775807) (b : Bool) (hb : Hid (decide (n = 1) = b)) :
    Calls Tryz.prog 102 #[.slice A (nd n).length c] w fun e w' => e = .returned (.bool b) ∧ w = w' := by
  by_cases h1 : (nd n).length = 1
  · have hn0 : n ≠ 0 := by rintro rfl; rw [nd_zero] at h1; simp at h1
    have e := nd_pos hn0
    have e2 : n / 4294967296 = 0 := by
      have := h1
      rw [e, List.length_cons] at this
      exact nd_len_zero.1 (by omega)
    obtain ⟨bk, off, rfl, hbk, hc⟩ := h.uat (k := 0) (by omega)
    rw [e] at hc
    simp only [List.getElem?_cons_zero, Option.getD_some, Nat.add_zero] at hc
    have hlt : n % 4294967296 = n := by omega
    rw [hlt] at hc
    have HB : Hid (b = decide ((n : Int) = 1)) := Lib.hid (by rw [← hb.out]; simp; omega)
    have HL := Lib.hid h1
    rw [h1]
    have b1 : n < 4294967296 := by omega
    clear e e2 hlt h1
    go_enter Tryz.func102, Tryz.ntmps102
    go_wp2_with fail
    go_ret
    exact ⟨ret_bool (by rw [HB.out]; rfl), rfl⟩
  · have HB : Hid (b = false) := Lib.hid (by
      rw [← hb.out]
      simp
      rintro rfl
      exact h1 (by rw [nd_one]; rfl))
    have q : (((nd n).length : Int) == 1) = false := by simp; omega
    generalize (nd n).length = m at *
    go_enter Tryz.func102, Tryz.ntmps102
    go_wp2_with fail
    go_ret
    exact ⟨ret_bool (by rw [HB.out]), rfl⟩
set_option maxRecDepth 100000 in
set_option maxHeartbeats 1000000 in
theorem order_any (A B : Option Addr) (c d : Nat) (a b : List Int) (w : World) (hA : Lies w A (ucs a)) (hB : Lies w B (ucs b)) (da : Hid (dgs a)) (db : Hid (dgs b)) (hac : a.length ≤ c) (hbd : b.length ≤ d) (hn : a.length ≤ 9223372036854775807) (hm : b.length ≤ 9223372036854775807)
    (x y : Nat) (hx : Hid (vl a = x)) (hy : Hid (vl b = y)) (r : Int) (hr : Hid (cmpN x y = r)) :
    Calls Tryz.prog 112 #[.slice A a.length c, .slice B b.length d] w (RetI r w) := by
  have LA := Lib.hid (hA.ndl da.out hx.out)
  have LB := Lib.hid (hB.ndl db.out hy.out)
  have na := nd_le_len da.out hx.out
  have nb := nd_le_len db.out hy.out
  have nx : (nd x).length ≤ 9223372036854775807 := by omega
  have ny : (nd y).length ≤ 9223372036854775807 := by omega
  clear na nb
  go_enter Tryz.func112, Tryz.ntmps112
  go_wp2_with fail
  refine (trim_any A c a w hA da hac hn x hx).mono ?_
  rintro e w' ⟨rfl, rfl⟩
  go_wp2_with fail
  refine (trim_any B d b w hB db hbd hm y hy).mono ?_
  rintro e w' ⟨rfl, rfl⟩
  by_cases h1 : (nd x).length < (nd y).length
  · have HR : Hid (r = -1) := Lib.hid (by rw [← hr.out]; exact cmpN_lt (nd_len_lt h1))
    have q : (((nd x).length : Int) != (nd y).length) = true := by simp; omega
    generalize (nd x).length = m at *
    generalize (nd y).length = n at *
    go_wp2_with fail
    go_ret
    exact ⟨ret_int (by rw [HR.out]), 0, rfl⟩
  · by_cases h2 : (nd y).length < (nd x).length
    · have HR : Hid (r = 1) := Lib.hid (by rw [← hr.out]; exact cmpN_gt (nd_len_lt h2))
      have q : (((nd x).length : Int) != (nd y).length) = true := by simp; omega
      generalize (nd x).length = m at *
      generalize (nd y).length = n at *
      go_wp2_with fail
      go_ret
      exact ⟨ret_int (by rw [HR.out]), 0, rfl⟩
    · have hl : (nd y).length = (nd x).length := by omega
      have DX := Lib.hid (dgs_nd x)
      have DY := Lib.hid (dgs_nd y)
      have VX := Lib.hid (vl_nd x)
      have VY := Lib.hid (vl_nd y)
      have LX := LA.out
      have LY := LB.out
      clear LA LB h1 h2
      generalize nd x = xs at *
      generalize nd y = ys at *
      have HL := Lib.hid hl
      rw [hl] at ny ⊢
      clear hl
      go_wp2_with fail
      go_loopw [5] (fun i wr => ∃ k : Nat, k ≤ xs.length ∧ i = .int .i64 ((k : Int) - 1) ∧ Hid (xs.drop k = ys.drop k) ∧ ∃ n, wr = w.drewN n) (fun i _ => (intOf i + 1).toNat)
      case atStart => exact ⟨xs.length, Nat.le_refl _, rfl, Lib.hid (by rw [List.drop_eq_nil_of_le (Nat.le_refl _), List.drop_eq_nil_of_le (by rw [HL.out]; exact Nat.le_refl _)]), 0, rfl⟩
      case round =>
        obtain ⟨k, hk, rfl, hdr, n, hwd⟩ := hrel
        have L1 : Lies wr A (ucs xs) := by rw [hwd]; exact LX.drewN n
        have L2 : Lies wr B (ucs ys) := by rw [hwd]; exact LY.drewN n
        have WD := Lib.hid hwd
        clear hwd
        by_cases h0 : k = 0
        · subst h0
          have HR : Hid (r = 0) := Lib.hid (by
            have e : xs = ys := by simpa using hdr.out
            have h1 := VX.out
            rw [e, VY.out] at h1
            rw [← hr.out]; exact cmpN_eq (by omega))
          go_wp2_with fail
          go_ret
          exact ⟨ret_int (by rw [HR.out]), n, WD.out⟩
        · obtain ⟨b1, o1, rfl, hb1, hc1⟩ := L1.uat (k := k - 1) (by omega)
          obtain ⟨b2, o2, rfl, hb2, hc2⟩ := L2.uat (k := k - 1) (by rw [HL.out]; omega)
          have i0 : ((k : Int) - 1).toNat = k - 1 := by omega
          have d1 := dgs_at DX.out (k - 1)
          have d2 := dgs_at DY.out (k - 1)
          have ek : k - 1 + 1 = k := by omega
          have lt1 : xs[k - 1]?.getD 0 < ys[k - 1]?.getD 0 → Hid (r = -1) := fun hlt => Lib.hid (by
            have := vl_top DX.out DY.out HL.out.symm (i := k - 1) (by omega) (by rw [ek]; exact hdr.out) hlt
            rw [VX.out, VY.out] at this
            rw [← hr.out]; exact cmpN_lt (by omega))
          have gt1 : ys[k - 1]?.getD 0 < xs[k - 1]?.getD 0 → Hid (r = 1) := fun hlt => Lib.hid (by
            have := vl_top DY.out DX.out HL.out (i := k - 1) (by rw [HL.out]; omega) (by rw [ek]; exact hdr.out.symm) hlt
            rw [VX.out, VY.out] at this
            rw [← hr.out]; exact cmpN_gt (by omega))
          have eq1 : xs[k - 1]?.getD 0 = ys[k - 1]?.getD 0 → Hid (xs.drop (k - 1) = ys.drop (k - 1)) := fun he => Lib.hid (drop_step HL.out.symm (by rw [ek]; exact hdr.out) he)
          have LT := Lib.hid lt1
          have GT := Lib.hid gt1
          have EQ := Lib.hid eq1
          clear lt1 gt1 eq1 ek
          generalize xs[k - 1]?.getD 0 = u at *
          generalize ys[k - 1]?.getD 0 = v at *
          by_cases hlt : u < v
          · have HR := LT.out hlt
            have q : (u != v) = true := by simp; omega
            clear LT GT EQ
            go_wp2_with fail
            go_quiet (fail)
            go_wp2_with fail
            go_quiet (fail)
            go_wp2_with fail
            go_ret
            exact ⟨ret_int (by rw [HR.out]), by rw [WD.out]; exact drewN_ex3 _ _ _ _⟩
          · by_cases hgt : v < u
            · have HR := GT.out hgt
              have q : (u != v) = true := by simp; omega
              clear LT GT EQ
              go_wp2_with fail
              go_quiet (fail)
              go_wp2_with fail
              go_quiet (fail)
              go_wp2_with fail
              go_ret
              exact ⟨ret_int (by rw [HR.out]), by rw [WD.out]; exact drewN_ex3 _ _ _ _⟩
            · have he : u = v := by omega
              have HD := EQ.out he
              subst he
              clear LT GT EQ hlt hgt
              go_wp2_with fail
              go_quiet (fail)
              go_wp2_with fail
              exact ⟨⟨k - 1, by omega, by go_num, HD, by rw [WD.out]; exact drewN_ex _ _ _⟩, by simp [intOf]; omega⟩
end Go.Proofs.YtnflpnbpigcfhabGreatDoor
