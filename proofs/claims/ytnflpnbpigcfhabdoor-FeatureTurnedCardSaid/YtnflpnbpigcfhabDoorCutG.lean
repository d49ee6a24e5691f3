/- wave.cut and its rounds -/
import Derived.Test.YtnflpnbpigcfhabDoorCutF
namespace Go.Proofs.YtnflpnbpigcfhabDoor
open Go.RowKit Ear
attribute [local go_sem] Oper.semAt_some

/-- what the rounds keep: all that lay below n0 but one block -/
structure KpB (n0 Bo : Nat) (W W' : World) : Prop where
  size : W.heap.size ≤ W'.heap.size
  block : ∀ b, b < n0 → b ≠ Bo → W'.heap[b]? = W.heap[b]?
theorem KpB.refl {n0 Bo : Nat} (W : World) : KpB n0 Bo W W := ⟨Nat.le_refl _, fun _ _ _ => rfl⟩
theorem KpB.trans {n0 Bo : Nat} {A B C : World} (h : KpB n0 Bo A B) (k : KpB n0 Bo B C) : KpB n0 Bo A C := ⟨Nat.le_trans h.size k.size, fun b h1 h2 => (k.block b h1 h2).trans (h.block b h1 h2)⟩
theorem KpB.below {n0 Bo : Nat} {W W' : World} (h : Below W.heap.size W W') (hn : n0 ≤ W.heap.size) : KpB n0 Bo W W' := ⟨h.size, fun b h1 _ => h.block b (by omega)⟩
theorem KpB.cell {n0 Bo : Nat} {W W' : World} (h : KpB n0 Bo W W') {b o : Nat} (h1 : b < n0) (h2 : b ≠ Bo) : W'.cell? ⟨b, o, none⟩ = W.cell? ⟨b, o, none⟩ := World.cell?_of_block (a := ⟨b, o, none⟩) (h.block b h1 h2)
theorem KpB.lies {n0 Bo : Nat} {W W' : World} (h : KpB n0 Bo W W') {A : Option Addr} {xs : List Value} (hl : Lies W A xs) (hA : 0 < xs.length → ∀ b off, A = some ⟨b, off, none⟩ → b < n0 ∧ b ≠ Bo) : Lies W' A xs := fun h0 => by
  obtain ⟨b, off, e, hlt, hc⟩ := hl h0
  obtain ⟨h1, h2⟩ := hA h0 b off e
  exact ⟨b, off, e, Nat.lt_of_lt_of_le hlt h.size, fun k u hu => (h.cell h1 h2).trans (hc k u hu)⟩
/-- a frame as it is handed -/
def FrX (n0 : Nat) (x : List Int) (size step k : Nat) (v : Value) (W : World) : Prop :=
  ∃ g, v = .slice (some ⟨g, 0, none⟩) size size ∧ W.ownsRow n0 3 1 (.slice (some ⟨g, 0, none⟩) size size) size (ics (frA x size (k * step)))
set_option maxHeartbeats 400000 in
theorem cut_any (A : Option Addr) (n c : Nat) (size step : Int) (pad : Bool) (w : World) :
    Calls Tryd.prog 48 #[.slice A n c, .int .i64 size, .int .i64 step, .bool pad] w fun e w' =>
      e = .returned (.func (.func 65) #[] #[.pointer (some ⟨w.heap.size + 1, 0, none⟩), .pointer (some ⟨w.heap.size, 0, none⟩), .pointer (some ⟨w.heap.size + 1 + 1 + 1, 0, none⟩), .pointer (some ⟨w.heap.size + 1 + 1, 0, none⟩)]) ∧
      w' = (((w.alloc (.cells #[.slice A n c] 22)).alloc (.cells #[.int .i64 size] 3)).alloc (.cells #[.int .i64 step] 3)).alloc (.cells #[.bool pad] 4) := by
  go_enter Tryd.func48, Tryd.ntmps48
  go_wp2_with fail
  go_ret
  exact ⟨rfl, rfl⟩
set_option maxRecDepth 100000 in
set_option maxHeartbeats 2000000 in
theorem cut1_in (F : Fence) (n : Nat) (hF : F.fn 65) (hro : F.round = none) (hn : 1 ≤ n) (l bX bS bP bT n0 Bo : Nat) (A : Option Addr) (c : Nat) (x : List Int) (size step : Nat) (pad : Bool)
    (hs1 : 1 ≤ size) (hs2 : size ≤ 4096) (ht1 : 1 ≤ step) (ht2 : step ≤ 4096) (hx : x.length ≤ 200000) (hxc : x.length ≤ c)
    (oX : bX < n0 ∧ bX ≠ Bo) (oS : bS < n0 ∧ bS ≠ Bo) (oP : bP < n0 ∧ bP ≠ Bo) (oT : bT < n0 ∧ bT ≠ Bo) (hA : Hid (0 < (ics x).length → ∀ b off, A = some ⟨b, off, none⟩ → b < n0 ∧ b ≠ Bo))
    (J : Nat → World → Prop) (hJb : ∀ k W W', J k W → Below W.heap.size W W' → J k W')
    (hY : Hid (∀ k v W, J k W → FrX n0 x size step k v W → k < frN x.length size step pad → YieldAt F (n - 1) Tryd.prog l #[v] W (fun e W' => e = .returned (.bool true) ∧ J (k + 1) W' ∧ KpB n0 Bo W W')))
    (W : World) (hW : n0 ≤ W.heap.size) (cX : W.cell? ⟨bX, 0, none⟩ = some (.slice A x.length c)) (cS : W.cell? ⟨bS, 0, none⟩ = some (.int .i64 size)) (cP : W.cell? ⟨bP, 0, none⟩ = some (.bool pad)) (cT : W.cell? ⟨bT, 0, none⟩ = some (.int .i64 step))
    (hL : Lies W A (ics x)) (h0 : J 0 W) :
    CallsIn F n Tryd.prog 65 #[.func (.yield l) #[] #[], .pointer (some ⟨bS, 0, none⟩), .pointer (some ⟨bX, 0, none⟩), .pointer (some ⟨bP, 0, none⟩), .pointer (some ⟨bT, 0, none⟩)] W
      (fun e W' => (∃ v, e = .returned v) ∧ J (frN x.length size step pad) W') := by
  have HL := Lib.hid hL
  have HJ0 := Lib.hid h0
  have HJB := Lib.hid hJb
  have HFR := Lib.hid (fun k => frB_iff (n := x.length) (size := size) (step := step) (k := k) (pad := pad) hs1 ht1)
  clear hL h0 hJb
  generalize hNN : frN x.length size step pad = N at *
  have HN := Lib.hid hNN
  clear hNN
  refine callsIn_of_wp Tryd.func65 rfl hF ?_ hro
  simp only [Tryd.ntmps65, List.size_toArray, List.length_cons, List.length_nil, Nat.reduceAdd, Nat.reduceSub, Array.replicate_succ, Array.replicate_zero, List.push_toArray, List.append_toArray, List.nil_append, List.cons_append]
  gi_wp2
  gi_loopw [6] (fun fr wr => ∃ k : Nat, fr = .int .i64 ((k * step : Nat) : Int) ∧ k ≤ N ∧ Hid (J k wr) ∧ Hid (KpB n0 Bo W wr)) (fun fr _ => x.length + step - (intOf fr).toNat)
  case atStart => exact ⟨0, by simp, Nat.zero_le _, HJ0, Lib.hid (KpB.refl W)⟩
  case round =>
    obtain ⟨k, rfl, hk, hJ, hKp⟩ := hrel
    clear HJ0
    have wX : wr.cell? ⟨bX, 0, none⟩ = some (.slice A x.length c) := (hKp.out.cell oX.1 oX.2).trans cX
    have wS : wr.cell? ⟨bS, 0, none⟩ = some (.int .i64 size) := (hKp.out.cell oS.1 oS.2).trans cS
    have wP : wr.cell? ⟨bP, 0, none⟩ = some (.bool pad) := (hKp.out.cell oP.1 oP.2).trans cP
    have wT : wr.cell? ⟨bT, 0, none⟩ = some (.int .i64 step) := (hKp.out.cell oT.1 oT.2).trans cT
    have wL := Lib.hid (hKp.out.lies HL.out hA.out)
    have hWr : n0 ≤ wr.heap.size := Nat.le_trans hW hKp.out.size
    have HKS := Lib.hid (show (k + 1) * step = k * step + step by rw [Nat.add_mul, Nat.one_mul])
    have hfb := HFR.out k
    obtain ⟨fr, hfr⟩ : ∃ fr, fr = k * step := ⟨_, rfl⟩
    rw [← hfr] at hfb HKS ⊢
    have HFR' := Lib.hid hfr
    clear hfr
    by_cases hlt : k < N
    · have hb := hfb.2 hlt
      clear hfb
      unfold frB at hb
      simp only [Bool.and_eq_true, decide_eq_true_eq, Bool.or_eq_true] at hb
      obtain ⟨hfx, hor⟩ := hb
      obtain ⟨w1, hmk, ho1, hb1⟩ := make_ints wr size (by omega) n0 hWr
      have hcut := fun W => run_cutL A x.length c fr (by omega) W
      have HCL := Lib.hid ((wL.out.below hb1).cutL (f := fr) (c := c) (by omega) hxc)
      have HO1 := Lib.hid ho1
      have hb2 : (fr : Int) + size ≤ 9223372036854775807 := by omega
      have HG : Hid (n0 ≤ wr.heap.size) := Lib.hid hWr
      obtain ⟨g, hg⟩ : ∃ g, g = wr.heap.size := ⟨_, rfl⟩
      rw [← hg] at hmk HO1
      have HGE : Hid (n0 ≤ g) := Lib.hid (by omega)
      have HBG : Hid (wr.heap.size ≤ g) := Lib.hid (by omega)
      have HEQ : Hid ((x.drop fr).take size ++ (List.replicate size 0).drop (min size (x.length - fr)) = frA x size (k * step)) := Lib.hid (by rw [← HFR'.out]; exact frA_take (by omega))
      have w1X : w1.cell? ⟨bX, 0, none⟩ = some (.slice A x.length c) := (hb1.cell (p := ⟨bX, 0, none⟩) (by simp; omega)).trans wX
      obtain ⟨w2, hcp, ho2, hb2'⟩ := run_copy_ints 3 g size (c - fr) (cutA A fr c) (x.drop fr) (List.replicate size 0) (x.length - fr) (by simp) n0 HO1.out (by unfold maxLen; omega) HCL.out wr.heap.size wr hb1 HBG.out
      rw [HEQ.out] at ho2
      obtain ⟨fn, tmps, assign, body, hy, hR⟩ := hY.out k _ w2 (HJB.out k wr w2 hJ.out hb2') ⟨g, rfl, ho2⟩ hlt
      have HR := Lib.hid hR
      have HB2 := Lib.hid hb2'
      clear hg ho1 hb1 hR ho2 hb2'
      by_cases hfit : fr + size ≤ x.length
      all_goals
        try (have hp : pad = true := by rcases hor with h | h
                                        · exact h
                                        · omega)
        clear hor
        try subst hp
        gi_wp2_with (first | (refine wpListIn_skip (o := ⟨some 19, _, _, _, _, _⟩) (by rfl) (by rfl) ?_) | (refine wpListIn_skip (o := ⟨some 20, _, _, _, _, _⟩) (by rfl) (by rfl) ?_))
        refine HR.out.mono ?_
        rintro e W3 ⟨rfl, hJ3, hk3⟩
        have K3 := Lib.hid (hKp.out.trans ((KpB.below HB2.out hWr).trans hk3))
        have w3T : W3.cell? ⟨bT, 0, none⟩ = some (.int .i64 step) := (K3.out.cell oT.1 oT.2).trans cT
        have HJ3 := Lib.hid hJ3
        clear HR hJ3 hk3 hy
        gi_wp2
        go_roundw
        case rel => exact ⟨k + 1, by rw [HKS.out]; go_num, by omega, HJ3, K3⟩
        case measure => simp [intOf]; omega
    · obtain rfl : k = N := by omega
      have hfr2 : (fr : Int) ≤ 819200000 := by
        have h1 := frN_le (n := x.length) (pad := pad) hs1 ht1
        rw [HN.out] at h1
        have h2 := Nat.mul_le_mul (Nat.le_trans h1 hx) ht2
        rw [← HFR'.out] at h2
        omega
      have hb : ¬ (fr < x.length ∧ (pad = true ∨ fr + size ≤ x.length)) := by
        intro h
        refine hlt (hfb.1 ?_)
        unfold frB
        simp only [Bool.and_eq_true, decide_eq_true_eq, Bool.or_eq_true]
        exact h
      have hnf : ¬ fr + size ≤ x.length := fun h => hb ⟨by omega, .inr h⟩
      have HB := Lib.hid hb
      clear hfb hb
      cases pad with
      | false =>
        gi_wp2
        go_end0
        exact ⟨⟨_, rfl⟩, hJ.out⟩
      | true =>
        have hge : ¬ fr < x.length := fun h => HB.out ⟨h, .inl rfl⟩
        gi_wp2
        go_end0
        exact ⟨⟨_, rfl⟩, hJ.out⟩
end Go.Proofs.YtnflpnbpigcfhabDoor
