/- Bands; the reference's Edges, Energy, Bands -/
import Derived.Test.YtnflpnbpigcfhabGreatDoorQBnd
import Derived.Test.YtnflpnbpigcfhabGreatDoorMc
namespace Go.Proofs.YtnflpnbpigcfhabGreatDoor
open Go.RowKit Ear

set_option maxRecDepth 100000 in
set_option maxHeartbeats 2000000 in
theorem rEdges_all (B : Option Addr) (d n : Nat) (e : List Int) (w : World) (hB : Lies w B (ics e)) (hl : e.length ≤ 9223372036854775807) (r : Bool) (hr : Hid (edgOk e n = r)) :
    Calls Tryz.prog 29 #[.slice B e.length d, .int .i64 n] w (RetBool r w) := by
  by_cases h2 : e.length < 2
  · have hz : r = false := by rw [← hr.out, edgOk, decide_eq_false (by omega), Bool.and_false]
    subst hz
    clear hr
    go_enter Tryz.func29, Tryz.ntmps29
    go_wp2_with fail
    go_ret
    exact ⟨rfl, 0, rfl⟩
  · go_enter Tryz.func29, Tryz.ntmps29
    go_wp2_with fail
    go_loopw [5] (fun i wr => ∃ k : Nat, k ≤ e.length ∧ i = .int .i64 k ∧ Hid ((List.range k).all (edgAt e n) = true) ∧ ∃ m, wr = w.drewN m) (fun i _ => e.length - (intOf i).toNat)
    case atStart => exact ⟨0, by omega, rfl, Lib.hid rfl, 0, rfl⟩
    case round =>
      obtain ⟨k, hk, rfl, hp, m0, hwd⟩ := hrel
      have HB : Lies wr B (ics e) := by rw [hwd]; exact hB
      have WD := Lib.hid hwd
      clear hwd
      by_cases hlt : k < e.length
      · obtain ⟨b1, o1, rfl, hb1, hc1⟩ := HB.at_ hlt
        have hno : Hid (edgAt e n k = false → r = false) := Lib.hid (fun h => by
          rw [← hr.out, edgOk, edg_false_at hlt h, Bool.false_and])
        have hyes : Hid (edgAt e n k = true → Hid ((List.range (k + 1)).all (edgAt e n) = true)) := Lib.hid (fun h => Lib.hid (edg_upto_succ hp.out h))
        by_cases h0 : k = 0
        · subst h0
          rw [Nat.add_zero] at hc1
          have hat : Hid (edgAt e n 0 = true ↔ ((0 : Int) ≤ e[0]?.getD 0 ∧ e[0]?.getD 0 ≤ (n : Int))) := Lib.hid (by rw [edgAt_iff]; simp)
          generalize e[0]?.getD 0 = x at *
          by_cases h1 : x < 0
          · have hz := hno.out (by rw [Bool.eq_false_iff]; intro h; have := hat.out.1 h; omega)
            subst hz
            have d1 : decide (x < 0) = true := by simp [h1]
            clear hr hno hyes hp HB
            go_wp2_with fail
            go_quiet (fail)
            go_wp2_with fail
            go_ret
            exact ⟨rfl, by rw [WD.out]; exact drewN_ex _ _ _⟩
          · have d1 : decide (x < 0) = false := by simp; omega
            by_cases h2 : (n : Int) < x
            · have hz := hno.out (by rw [Bool.eq_false_iff]; intro h; have := hat.out.1 h; omega)
              subst hz
              have d2 : decide ((n : Int) < x) = true := by simp [h2]
              clear hr hno hyes hp HB
              go_wp2_with fail
              go_quiet (fail)
              go_wp2_with fail
              go_ret
              exact ⟨rfl, by rw [WD.out]; exact drewN_ex _ _ _⟩
            · have HY := hyes.out (hat.out.2 (by omega))
              have d2 : decide ((n : Int) < x) = false := by simp; omega
              clear hno hyes hp HB
              go_wp2_with fail
              go_quiet (fail)
              go_wp2_with fail
              exact ⟨⟨1, by omega, by go_num, HY, by rw [WD.out]; exact drewN_ex _ _ _⟩, by simp [intOf]; omega⟩
        · obtain ⟨m, rfl⟩ : ∃ m, k = m + 1 := ⟨k - 1, by omega⟩
          have hlm : m < e.length := by omega
          obtain ⟨b2, o2, eA, hb2, hc2⟩ := HB.at_ hlm
          cases eA
          have hat : Hid (edgAt e n (m + 1) = true ↔ ((0 : Int) ≤ e[m + 1]?.getD 0 ∧ e[m + 1]?.getD 0 ≤ (n : Int) ∧ e[m]?.getD 0 < e[m + 1]?.getD 0)) := Lib.hid (by rw [edgAt_iff]; simp)
          have p1 : IntKind.i64.wrap (((m + 1 : Nat) : Int) - 1) = (m : Int) := by rw [IntWalk.i64_in _ (by omega)]; omega
          generalize hq : m + 1 = q at *
          have HQ := Lib.hid hq
          have hq0 : 0 < q := by omega
          have d0 : decide ((0 : Int) < (q : Int)) = true := by simp; omega
          clear hq
          generalize e[q]?.getD 0 = x at *
          generalize e[m]?.getD 0 = y at *
          by_cases h1 : x < 0
          · have hz := hno.out (by rw [Bool.eq_false_iff]; intro h; have := hat.out.1 h; omega)
            subst hz
            have d1 : decide (x < 0) = true := by simp [h1]
            clear hr hno hyes hp HB
            go_wp2_with fail
            go_quiet (fail)
            go_wp2_with fail
            go_ret
            exact ⟨rfl, by rw [WD.out]; exact drewN_ex _ _ _⟩
          · have d1 : decide (x < 0) = false := by simp; omega
            by_cases h2 : (n : Int) < x
            · have hz := hno.out (by rw [Bool.eq_false_iff]; intro h; have := hat.out.1 h; omega)
              subst hz
              have d2 : decide ((n : Int) < x) = true := by simp [h2]
              clear hr hno hyes hp HB
              go_wp2_with fail
              go_quiet (fail)
              go_wp2_with fail
              go_ret
              exact ⟨rfl, by rw [WD.out]; exact drewN_ex _ _ _⟩
            · have d2 : decide ((n : Int) < x) = false := by simp; omega
              by_cases h3 : x ≤ y
              · have hz := hno.out (by rw [Bool.eq_false_iff]; intro h; have := hat.out.1 h; omega)
                subst hz
                have d3 : decide (x ≤ y) = true := by simp [h3]
                clear hr hno hyes hp HB
                go_wp2_with fail
                go_quiet (fail)
                go_wp2_with fail
                go_ret
                exact ⟨rfl, by rw [WD.out]; exact drewN_ex _ _ _⟩
              · have HY := hyes.out (hat.out.2 (by omega))
                have d3 : decide (x ≤ y) = false := by simp; omega
                clear hno hyes hp HB
                go_wp2_with fail
                go_quiet (fail)
                go_wp2_with fail
                exact ⟨⟨q + 1, by omega, by go_num, HY, by rw [WD.out]; exact drewN_ex _ _ _⟩, by simp [intOf]; omega⟩
      · obtain rfl : k = e.length := by omega
        have hz : r = true := by rw [← hr.out, edgOk, hp.out, Bool.true_and, decide_eq_true (by omega)]
        subst hz
        clear hr HB
        go_wp2_with fail
        go_ret
        exact ⟨rfl, m0, WD.out⟩
theorem rEdges_any (B : Option Addr) (d n : Nat) (e : List Int) (w : World) (hB : Lies w B (ics e)) (hl : e.length ≤ 1000) (r : Bool) (hr : Hid (edgOk e n = r)) :
    Calls Tryz.prog 29 #[.slice B e.length d, .int .i64 n] w (RetBool r w) := rEdges_all B d n e w hB (by omega) r hr
set_option maxRecDepth 100000 in
set_option maxHeartbeats 1000000 in
theorem rEnergy_big (A : Option Addr) (c : Nat) (l : List Int) (w : World) (h : Lies w A (ics l)) (hv : Hid (allR (-16777216) 16777216 l = true)) (hn : l.length ≤ 64) :
    Calls Tryz.prog 65 #[.slice A l.length c] w (RetI (enr l) w) := by
  go_enter Tryz.func65, Tryz.ntmps65
  go_wp2_with fail
  go_loopw [3, 4] (fun s i wr => ∃ k : Nat, k ≤ l.length ∧ i = .int .i64 k ∧ s = .int .i64 (enr (l.take k)) ∧ ∃ n, wr = w.drewN n) (fun _ i _ => l.length - (intOf i).toNat)
  case atStart => exact ⟨0, Nat.zero_le _, rfl, rfl, 0, rfl⟩
  case round =>
    obtain ⟨k, hk, rfl, rfl, n, hwd⟩ := hrel
    have HL : Lies wr A (ics l) := by rw [hwd]; exact h
    have WD := Lib.hid hwd
    clear hwd
    have hb := enr_bd (l := l.take k) (B := 16777216) (fun x hx => by have := allR_mem hv.out (List.mem_of_mem_take hx); omega)
    have hl : (l.take k).length ≤ 64 := by simp; omega
    have hb2 : 16777216 * 16777216 * ((l.take k).length : Int) ≤ 16777216 * 16777216 * 64 := by omega
    by_cases hlt : k < l.length
    · obtain ⟨bk, off, rfl, hbb, hc⟩ := HL.at_ hlt
      have v1 := allR_get hv.out hlt
      have hsq := sqv_bd (x := l[k]) (b := 16777216) (by omega) (by omega)
      have hsn := sq_nn l[k]
      have HS := Lib.hid (enr_take_succ hlt)
      rw [List.getElem?_eq_getElem hlt] at hc
      simp only [Option.getD_some] at hc
      clear HL
      generalize l[k] = x at *
      generalize hz : x * x = z at *
      generalize hy : enr (l.take k) = y at *
      have HY := Lib.hid hy
      have hy64 : y ≤ 18014398509481984 := by omega
      have hy0 : 0 ≤ y := by omega
      clear hy hl hb2 hb
      have p1 : IntKind.i64.wrap (x * x) = z := by rw [hz]; exact IntWalk.i64_in _ (by omega)
      have p2 : IntKind.i64.wrap (y + z) = y + z := IntWalk.i64_in _ (by omega)
      clear hz
      go_wp2_with fail
      go_quiet (fail)
      go_wp2_with fail
      exact ⟨⟨k + 1, by omega, by go_num, by rw [HS.out], by rw [WD.out]; exact drewN_ex _ _ _⟩, by simp [intOf]; omega⟩
    · obtain rfl : k = l.length := by omega
      have E : Hid (enr (l.take l.length) = enr l) := Lib.hid (by rw [List.take_length])
      clear HL
      go_wp2_with fail
      go_ret
      exact ⟨by rw [E.out]; rfl, n, WD.out⟩
set_option maxRecDepth 100000 in
set_option maxHeartbeats 2000000 in
theorem rBands_any (A B : Option Addr) (c d : Nat) (s e : List Int) (w : World) (hA : Lies w A (ics s)) (hB : Lies w B (ics e)) (hc : s.length ≤ c) (hE : Hid (Edg e s.length)) (hs : Hid (allR (-16777216) 16777216 s = true)) (h64 : s.length ≤ 64) (hel : e.length ≤ 1000) :
    Calls Tryz.prog 36 #[.slice A s.length c, .slice B e.length d] w (RetInts (bndL s e) w) := by
  obtain ⟨j0, hj0, ky0, ky1, ky2⟩ := info_parts int_info
  have KI := Lib.hid hj0; have KZ0 := Lib.hid ky0; have KZ1 := Lib.hid ky1; have KZ2 := Lib.hid ky2
  clear hj0 ky0 ky1 ky2
  have h2 := hE.out.two
  obtain ⟨n, hn⟩ : ∃ n, n = e.length - 1 := ⟨_, rfl⟩
  have HN : Hid (e.length = n + 1) := Lib.hid (by omega)
  have hn0 : n ≤ 1000 := by omega
  have HC := Lib.hid hc
  clear hn hc
  go_enter Tryz.func36, Tryz.ntmps36
  go_wp2_with fail
  go_loopw [5, 6] (fun t5 i wr => ∃ k : Nat, k ≤ n ∧ i = .int .i64 k ∧ ∃ A' c', t5 = .slice A' k c' ∧ wr.ownsRow w.heap.size 3 1 (.slice A' k c') k (ics ((List.range k).map (bndAt s e))) ∧ Below w.heap.size w wr) (fun _ i _ => n - (intOf i).toNat)
  case atStart => exact ⟨0, by omega, rfl, none, 0, rfl, World.ownsRow_nil _ _ _ _, Below.refl _ _⟩
  case round =>
    obtain ⟨k, hk, rfl, A', c', rfl, r1, r2⟩ := hrel
    have p1 : IntKind.i64.wrap ((k : Int) + 1) = (k : Int) + 1 := IntWalk.i64_in _ (by omega)
    by_cases hlt : k < n
    · have hk1 : k < e.length := by rw [HN.out]; omega
      have hk2 : k + 1 < e.length := by rw [HN.out]; omega
      have hk3 : (k : Int) + 1 < (e.length : Int) := by omega
      have hk4 : (0 : Int) ≤ (k : Int) + 1 := by omega
      obtain ⟨b1, o1, rfl, hb0, hc10⟩ := hB.at_ hk1
      obtain ⟨b2, o2, eA, hb2', hc20⟩ := hB.at_ hk2
      cases eA
      have hb1' : b1 < wr.heap.size := Nat.lt_of_lt_of_le hb0 r2.size
      have hc1 := (r2.cell (p := ⟨b1, o1 + k, none⟩) hb0).trans hc10
      have hc2 := (r2.cell (p := ⟨b1, o1 + (k + 1), none⟩) hb0).trans hc20
      have m1 := hE.out.inn k hk1
      have m2 := hE.out.inn (k + 1) hk2
      have m3 := hE.out.up k hk2
      have hnx : Hid ((List.range (k + 1)).map (bndAt s e) = (List.range k).map (bndAt s e) ++ [bndAt s e k]) := Lib.hid (by rw [List.range_succ, List.map_append]; rfl)
      have HD : Hid (bndAt s e k = enr (betw s (e[k]?.getD 0) (e[k + 1]?.getD 0))) := Lib.hid rfl
      obtain ⟨f, hf⟩ : ∃ f : Nat, e[k]?.getD 0 = f := ⟨(e[k]?.getD 0).toNat, by omega⟩
      obtain ⟨t, ht⟩ : ∃ t : Nat, e[k + 1]?.getD 0 = t := ⟨(e[k + 1]?.getD 0).toNat, by omega⟩
      rw [hf] at m1 m3 hc1 hc10 HD
      rw [ht] at m2 m3 hc2 hc20 HD
      have CK := Lib.hid (And.intro hc10 hc20)
      clear hf ht hc10 hc20
      have i1 : ((k : Int) + 1).toNat = k + 1 := by omega
      have hft : f ≤ t := by omega
      have hts : t ≤ s.length := by omega
      have hsl : ∀ w, (Instr.slice 22 (.slice A s.length c) (some (.int .i64 (f : Int))) (some (.int .i64 (t : Int))) none).run Tryz.prog w = .ok (.slice (cutA A f c) (t - f) (c - f)) w := fun w => run_cut A s.length c f t hft (by have := HC.out; omega) w
      have HL : Hid (betw s f t = (s.drop f).take (t - f)) := Lib.hid (by unfold betw; simp)
      have LB : Hid (Lies wr (cutA A f c) (ics (betw s f t))) := Lib.hid (by rw [HL.out]; exact (hA.cut hft hts HC.out).below r2)
      have NB : Hid ((betw s f t).length = t - f) := Lib.hid (by rw [HL.out]; exact cut_length hft hts)
      have HV : Hid (allR (-16777216) 16777216 (betw s f t) = true) := Lib.hid (allR_of (fun x hx => allR_mem hs.out (betw_mem hx)))
      have HEN : Hid (∀ W' : World, Lies W' (cutA A f c) (ics (betw s f t)) → Calls Tryz.prog 65 #[.slice (cutA A f c) (t - f) (c - f)] W' (RetI (enr (betw s f t)) W')) := Lib.hid fun W' h' => by
        have := rEnergy_big (cutA A f c) (c - f) (betw s f t) W' h' (Lib.hid HV.out) (by rw [NB.out]; omega)
        rw [NB.out] at this
        exact this
      have R1 := Lib.hid r1
      have R2 := Lib.hid r2
      clear r1 r2 m1 m2 m3 HL NB HV
      generalize betw s f t = bl at *
      generalize cutA A f c = CA at *
      obtain ⟨m, hm⟩ : ∃ m, m = t - f := ⟨_, rfl⟩
      rw [← hm] at HEN hsl
      have hm64 : m ≤ 64 := by omega
      clear hm
      generalize enr bl = z at *
      have sa : wr.drew.cell? ⟨b1, o1 + k, none⟩ = some (.int .i64 f) ∧ wr.drew.cell? ⟨b1, o1 + (k + 1), none⟩ = some (.int .i64 t) := ⟨hc1, hc2⟩
      have SA := Lib.hid sa
      have LBd : Hid (Lies wr.drew CA (ics bl)) := Lib.hid LB.out
      have R1d : Hid (wr.drew.ownsRow w.heap.size 3 1 (.slice A' k c') k (ics ((List.range k).map (bndAt s e)))) := Lib.hid R1.out
      have R2d : Hid (Below w.heap.size w wr.drew) := Lib.hid R2.out.drew
      have hbd : b1 < wr.drew.heap.size := hb1'
      clear R1 R2 LB sa
      go_upto_region 5 with (fail)
      go_region_held3 (fun w' => w'.cell? ⟨b1, o1 + k, none⟩ = some (.int .i64 f) ∧ w'.cell? ⟨b1, o1 + (k + 1), none⟩ = some (.int .i64 t))
        (first | exact SA.out | exact SE.out | exact SB.out | exact SC.out)
        (first
          | (go_at_call 65; refine (HEN.out _ LBd.out).mono ?_; rintro x we ⟨rfl, ne, hwe⟩; have SE : Hid (we.cell? ⟨b1, o1 + k, none⟩ = some (.int .i64 f) ∧ we.cell? ⟨b1, o1 + (k + 1), none⟩ = some (.int .i64 t)) := Lib.hid (by rw [hwe]; exact SA.out); have OE : Hid (we.ownsRow w.heap.size 3 1 (.slice A' k c') k (ics ((List.range k).map (bndAt s e)))) := Lib.hid (by rw [hwe]; exact R1d.out); have BE : Hid (Below w.heap.size w we) := Lib.hid (by rw [hwe]; exact R2d.out.trans (below_drewN' _ _)); have hbe : b1 < we.heap.size := (by rw [hwe]; exact hbd); have SB : Hid ((we.alloc (.cells #[Value.int .i64 z] 3)).cell? ⟨b1, o1 + k, none⟩ = some (.int .i64 f) ∧ (we.alloc (.cells #[Value.int .i64 z] 3)).cell? ⟨b1, o1 + (k + 1), none⟩ = some (.int .i64 t)) := Lib.hid ⟨by rw [World.cell?_alloc_lt _ _ _ hbe]; exact SE.out.1, by rw [World.cell?_alloc_lt _ _ _ hbe]; exact SE.out.2⟩; have OA := Lib.hid (OE.out.alloc (.cells #[Value.int .i64 z] 3)); have BA : Hid (Below w.heap.size w (we.alloc (.cells #[Value.int .i64 z] 3))) := Lib.hid (BE.out.alloc BE.out.size _); clear hwe)
          | (refine step_append_src _ (by rfl) (.tmp 14) (.tmp 27) _ (by rfl) w.heap.size 3 j0 _ 1 8 Tryz.underlying22 KI.out KZ0.out KZ1.out KZ2.out rfl (by omega) (.slice A' k c') k (ics ((List.range k).map (bndAt s e))) (by rfl) OA.out (some ⟨we.heap.size, 0, none⟩) 1 1 [Value.int .i64 z] (by rfl) (fun e => by cases e) (lies_new _ _ _) (by simp) (by simp [Value.oneCell']) (by unfold maxLen; omega) (by omega) BA.out.size (k + 1) rfl ?_; intro Ab cb wb hob hgb hat; have BB := Lib.hid (BA.out.grown hgb BA.out.size (fun k hk => (OA.out.lt k hk).1)); have SC : Hid (wb.cell? ⟨b1, o1 + k, none⟩ = some (.int .i64 f) ∧ wb.cell? ⟨b1, o1 + (k + 1), none⟩ = some (.int .i64 t)) := Lib.hid ⟨(BB.out.cell (p := ⟨b1, o1 + k, none⟩) hb0).trans CK.out.1, (BB.out.cell (p := ⟨b1, o1 + (k + 1), none⟩) hb0).trans CK.out.2⟩))
      go_wp2_with fail
      exact ⟨⟨k + 1, by omega, by go_num, Ab, cb, by rfl, by rw [hnx.out, ics_append, HD.out]; exact hob, BB.out⟩, by simp [intOf]; omega⟩
    · obtain rfl : k = n := by omega
      have hk3 : ¬ (k : Int) + 1 < (e.length : Int) := by rw [HN.out]; omega
      have hl : (bndL s e).length = k := by rw [bndL_length, HN.out]; omega
      have E : (List.range k).map (bndAt s e) = bndL s e := by rw [bndL, HN.out]; rfl
      rw [E] at r1
      have HL := Lib.hid hl
      have R1 := Lib.hid r1
      clear hl E r1
      go_wp2_with fail
      go_ret
      exact ⟨A', c', by rw [HL.out]; rfl, by rw [HL.out]; exact R1.out, r2⟩
end Go.Proofs.YtnflpnbpigcfhabGreatDoor
