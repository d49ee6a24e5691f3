/- edged, bands, Bands -/
import Derived.Test.YtnflpnbpigcfhabDoorPBnd
import Derived.Test.YtnflpnbpigcfhabDoorRMean
import Derived.Test.YtnflpnbpigcfhabDoorSlcI
namespace Go.Proofs.YtnflpnbpigcfhabDoor
open Go.RowKit Ear

set_option maxRecDepth 100000 in
set_option maxHeartbeats 1000000 in
theorem edged_any (B : Option Addr) (d n : Nat) (e : List Int) (w : World) (hB : Lies w B (ics e)) (hl : e.length ≤ 9223372036854775807) (r : Bool) (hr : Hid (edgOk e n = r)) :
    Calls Tryd.prog 43 #[.slice B e.length d, .int .i64 n] w fun x w' => x = .returned (.bool r) ∧ w = w' := by
  go_enter Tryd.func43, Tryd.ntmps43
  go_wp2_with fail
  go_loop [5, 6, 9] (fun _ _ i => ∃ k : Nat, k ≤ e.length ∧ i = .int .i64 k ∧ Hid ((List.range k).all (edgAt e n) = true)) (fun _ _ i => e.length - (intOf i).toNat)
  case atStart => exact ⟨0, by omega, rfl, Lib.hid rfl⟩
  case round =>
    obtain ⟨k, hk, rfl, hp⟩ := hrel
    by_cases hlt : k < e.length
    · obtain ⟨b1, o1, rfl, hb1, hc1⟩ := hB.at_ hlt
      have hno : Hid (edgAt e n k = false → r = false) := Lib.hid (fun h => by
        rw [← hr.out, edgOk, edg_false_at hlt h, Bool.false_and])
      have hyes : Hid (edgAt e n k = true → Hid ((List.range (k + 1)).all (edgAt e n) = true)) := Lib.hid (fun h => Lib.hid (edg_upto_succ hp.out h))
      by_cases h0 : k = 0
      · subst h0
        rw [Nat.add_zero] at hc1
        have hat : Hid (edgAt e n 0 = true ↔ ((0 : Int) ≤ e[0]?.getD 0 ∧ e[0]?.getD 0 ≤ (n : Int))) := Lib.hid (by rw [edgAt_iff]; simp)
        generalize e[0]?.getD 0 = x at *
        by_cases h1 : x < 0
        · have hz := hno.out (by rw [Bool.eq_false_iff]; intro h; have := hat.out.1 h; omega)
          subst hz
          clear hr hno hyes hp
          go_wp2_with fail
          go_ret
          exact ⟨rfl, rfl⟩
        · by_cases h2 : (n : Int) < x
          · have hz := hno.out (by rw [Bool.eq_false_iff]; intro h; have := hat.out.1 h; omega)
            subst hz
            clear hr hno hyes hp
            go_wp2_with fail
            go_ret
            exact ⟨rfl, rfl⟩
          · have HY := hyes.out (hat.out.2 (by omega))
            clear hno hyes hp
            go_wp2_with fail
            exact ⟨⟨1, by omega, by go_num, HY⟩, by simp [intOf]; omega⟩
      · obtain ⟨m, rfl⟩ : ∃ m, k = m + 1 := ⟨k - 1, by omega⟩
        have hlm : m < e.length := by omega
        obtain ⟨b2, o2, eA, hb2, hc2⟩ := hB.at_ hlm
        cases eA
        have hat : Hid (edgAt e n (m + 1) = true ↔ ((0 : Int) ≤ e[m + 1]?.getD 0 ∧ e[m + 1]?.getD 0 ≤ (n : Int) ∧ e[m]?.getD 0 < e[m + 1]?.getD 0)) := Lib.hid (by rw [edgAt_iff]; simp)
        have p1 : IntKind.i64.wrap (((m + 1 : Nat) : Int) - 1) = (m : Int) := by rw [IntWalk.i64_in _ (by omega)]; omega
        generalize hq : m + 1 = q at *
        have HQ := Lib.hid hq
        have hq0 : 0 < q := by omega
        clear hq
        generalize e[q]?.getD 0 = x at *
        generalize e[m]?.getD 0 = y at *
        by_cases h1 : x < 0
        · have hz := hno.out (by rw [Bool.eq_false_iff]; intro h; have := hat.out.1 h; omega)
          subst hz
          clear hr hno hyes hp
          go_wp2_with fail
          go_ret
          exact ⟨rfl, rfl⟩
        · by_cases h2 : (n : Int) < x
          · have hz := hno.out (by rw [Bool.eq_false_iff]; intro h; have := hat.out.1 h; omega)
            subst hz
            clear hr hno hyes hp
            go_wp2_with fail
            go_ret
            exact ⟨rfl, rfl⟩
          · by_cases h3 : x ≤ y
            · have hz := hno.out (by rw [Bool.eq_false_iff]; intro h; have := hat.out.1 h; omega)
              subst hz
              clear hr hno hyes hp
              go_wp2_with fail
              go_ret
              exact ⟨rfl, rfl⟩
            · have HY := hyes.out (hat.out.2 (by omega))
              clear hno hyes hp
              go_wp2_with fail
              exact ⟨⟨q + 1, by omega, by go_num, HY⟩, by simp [intOf]; omega⟩
    · obtain rfl : k = e.length := by omega
      have hz : decide (2 ≤ e.length) = r := by rw [← hr.out, edgOk, hp.out, Bool.true_and]
      have HZ := Lib.hid hz
      clear hz
      go_wp2_with fail
      go_ret
      exact ⟨ret_bool (by rw [← HZ.out]; simp <;> omega), rfl⟩

set_option maxRecDepth 100000 in
set_option maxHeartbeats 2000000 in
theorem bands_any (A B : Option Addr) (c d : Nat) (s e : List Int) (w : World) (hA : Lies w A (ics s)) (hB : Lies w B (ics e)) (hc : s.length ≤ c) (hE : Hid (Edg e s.length)) (hs : Hid (allR (-16777216) 16777216 s = true)) (h64 : s.length ≤ 64) (hel : e.length ≤ 1000) :
    Calls Tryd.prog 50 #[.slice A s.length c, .slice B e.length d] w (RetInts (bndL s e) w) := by
  have h2 := hE.out.two
  obtain ⟨n, hn⟩ : ∃ n, n = e.length - 1 := ⟨_, rfl⟩
  have HN : Hid (e.length = n + 1) := Lib.hid (by omega)
  have hn0 : n ≤ 1000 := by omega
  have p0 : IntKind.i64.wrap ((e.length : Int) - 1) = (n : Int) := by rw [IntWalk.i64_in _ (by omega)]; omega
  clear hn
  obtain ⟨w1, hmk, ho1, hb1⟩ := make_ints w n (by omega) w.heap.size (Nat.le_refl _)
  obtain ⟨g, hg⟩ : ∃ g, g = w.heap.size := ⟨_, rfl⟩
  rw [← hg] at ho1 hmk
  have HG : Hid (w.heap.size ≤ g) := by show _ ≤ _; omega
  have HC := Lib.hid hc
  clear hg hc
  go_enter Tryd.func50, Tryd.ntmps50
  go_wp2_with fail
  clear hmk p0
  go_loopw [6, 8, 15] (fun _ _ i wr => ∃ k : Nat, k ≤ n ∧ i = .int .i64 k ∧ wr.ownsRow g 3 1 (.slice (some ⟨g, 0, none⟩) n n) n (ics (meaTo (bndAt s e) 0 n k)) ∧ Below w.heap.size w wr) (fun _ _ i _ => n - (intOf i).toNat)
  case atStart => exact ⟨0, by omega, rfl, by rw [meaTo_start]; exact ho1, hb1⟩
  case round =>
    obtain ⟨k, hk, rfl, r1, r2⟩ := hrel
    by_cases hlt : k < n
    · obtain ⟨W0, rfl⟩ : ∃ x, x = wr := ⟨_, rfl⟩
      have hk1 : k < e.length := by rw [HN.out]; omega
      have hk2 : k + 1 < e.length := by rw [HN.out]; omega
      obtain ⟨b1, o1, rfl, hb1', hc1⟩ := (hB.below r2).at_ hk1
      obtain ⟨b2, o2, eA, hb2', hc2⟩ := (hB.below r2).at_ hk2
      cases eA
      have m1 := hE.out.inn k hk1
      have m2 := hE.out.inn (k + 1) hk2
      have m3 := hE.out.up k hk2
      have HD : Hid (bndAt s e k = enr (betw s (e[k]?.getD 0) (e[k + 1]?.getD 0))) := Lib.hid rfl
      obtain ⟨f, hf⟩ : ∃ f : Nat, e[k]?.getD 0 = f := ⟨(e[k]?.getD 0).toNat, by omega⟩
      obtain ⟨t, ht⟩ : ∃ t : Nat, e[k + 1]?.getD 0 = t := ⟨(e[k + 1]?.getD 0).toNat, by omega⟩
      rw [hf] at m1 m3 hc1 HD
      rw [ht] at m2 m3 hc2 HD
      clear hf ht
      have p1 : IntKind.i64.wrap ((k : Int) + 1) = (k : Int) + 1 := IntWalk.i64_in _ (by omega)
      have i1 : ((k : Int) + 1).toNat = k + 1 := by omega
      have hft : f ≤ t := by omega
      have hts : t ≤ s.length := by omega
      have hsl : ∀ w, (Instr.slice 22 (.slice A s.length c) (some (.int .i64 (f : Int))) (some (.int .i64 (t : Int))) none).run Tryd.prog w = .ok (.slice (cutA A f c) (t - f) (c - f)) w := fun w => run_cut A s.length c f t hft (by have := HC.out; omega) w
      have HL : Hid (betw s f t = (s.drop f).take (t - f)) := Lib.hid (by unfold betw; simp)
      have LB : Hid (Lies w (cutA A f c) (ics (betw s f t))) := Lib.hid (by rw [HL.out]; exact hA.cut hft hts HC.out)
      have NB : Hid ((betw s f t).length = t - f) := Lib.hid (by rw [HL.out]; exact cut_length hft hts)
      have HB := Lib.hid (fun q : Nat => enr_bd (l := (betw s f t).take q) (B := 16777216) (fun x hx => by have := allR_mem hs.out (betw_mem (List.mem_of_mem_take hx)); omega))
      have HV : Hid (allR (-16777216) 16777216 (betw s f t) = true) := Lib.hid (allR_of (fun x hx => allR_mem hs.out (betw_mem hx)))
      have R1 := Lib.hid r1
      have R2 := Lib.hid r2
      clear r1 r2 m1 m2 m3
      generalize betw s f t = bl at *
      obtain ⟨m, hm⟩ : ∃ m, m = t - f := ⟨_, rfl⟩
      have hm64 : m ≤ 64 := by omega
      rw [← hm] at NB hsl
      clear hm hft
      go_wp2_with fail
      go_quiet (fail)
      clear p1 i1 hsl hc1 hc2
      go_wp2_with fail
      have R1' : Hid ((W0.drewN nq).ownsRow g 3 1 (.slice (some ⟨g, 0, none⟩) n n) n (ics (meaTo (bndAt s e) 0 n k))) := Lib.hid R1.out
      have R2' : Hid (Below w.heap.size w (W0.drewN nq)) := Lib.hid (R2.out.trans (below_drewN' _ _))
      clear R1 R2
      generalize W0.drewN nq = W1 at *
      generalize cutA A f c = CA at *
      go_loopw [8, 30] (fun _ i wr => ∃ q : Nat, q ≤ m ∧ i = .int .i64 q ∧ wr.ownsRow g 3 1 (.slice (some ⟨g, 0, none⟩) n n) n (ics (meaTo (bndAt s e) (enr (bl.take q)) n k)) ∧ Below w.heap.size w wr) (fun _ i _ => m - (intOf i).toNat)
      case atStart => exact ⟨0, by omega, rfl, by simpa [enr] using R1'.out, R2'.out⟩
      case round =>
        obtain ⟨q, hq, rfl, s1, s2⟩ := hrel
        by_cases hlq : q < m
        · have hqb : q < bl.length := by rw [NB.out]; exact hlq
          obtain ⟨b3, o3, rfl, hb3, hc3⟩ := (LB.out.below s2).at_ hqb
          have q2 : wr.frozen? ⟨g, k, none⟩ = false := s1.frozenAt k
          have q1 : wr.cell? ⟨g, k, none⟩ = some (.int .i64 (enr (bl.take q))) := by
            rw [s1.cellAt k (by omega)]; simp only [List.getElem?_map, meaTo_get _ _ n k hlt]; rfl
          have b1 := HB.out q
          have hl1 : (bl.take q).length ≤ 64 := by rw [List.length_take]; omega
          have hb2 : 16777216 * 16777216 * ((bl.take q).length : Int) ≤ 16777216 * 16777216 * 64 := by omega
          have v1 := allR_get HV.out hqb
          have hsq := sqv_bd (x := bl[q]) (b := 16777216) (by omega) (by omega)
          have hsn := sq_nn bl[q]
          have HS := Lib.hid (enr_take_succ hqb)
          rw [List.getElem?_eq_getElem hqb] at hc3
          simp only [Option.getD_some] at hc3
          generalize bl[q] = x at *
          generalize hz : x * x = z at *
          generalize hy : enr (bl.take q) = y at *
          have HZ := Lib.hid hz
          have HY := Lib.hid hy
          clear hy
          have p1 : IntKind.i64.wrap (x * x) = z := by rw [hz]; exact IntWalk.i64_in _ (by omega)
          have p2 : IntKind.i64.wrap (y + z) = y + z := IntWalk.i64_in _ (by omega)
          clear hz
          go_wp2_with fail
          have hst := s1.stored k (.int .i64 (y + z))
          rw [← List.map_set, meaTo_set] at hst
          exact ⟨⟨q + 1, by omega, by go_num, by rw [HS.out]; exact hst.1, s2.setCell HG.out _⟩, by simp [intOf]; omega⟩
        · obtain rfl : q = m := by omega
          have E : Hid (enr (bl.take q) = bndAt s e k) := Lib.hid (by rw [HD.out, List.take_of_length_le (by rw [NB.out]; exact Nat.le_refl _)])
          rw [E.out, meaTo_next] at s1
          go_wp2_with fail
          exact ⟨⟨k + 1, by omega, by go_num, s1, s2⟩, by simp [intOf]; omega⟩
    · obtain rfl : k = n := by omega
      have hl : (bndL s e).length = k := by rw [bndL_length, HN.out]; omega
      have E : meaTo (bndAt s e) 0 k k = bndL s e := by rw [meaTo_all, bndL, HN.out]; rfl
      rw [E] at r1
      have HL := Lib.hid hl
      clear hl E
      go_wp2_with fail
      go_ret
      exact ⟨_, _, by rw [HL.out]; rfl, by rw [HL.out]; exact ownsRow_le r1 HG.out, r2⟩
end Go.Proofs.YtnflpnbpigcfhabDoor
