/- WaveListens: the walk where a listener is fed -/
import Derived.Test.YtnhkngmdjomfjaaLLis
namespace Go.Proofs.Ytnhkngmdjomfjaa
open Go.RowKit Ear

/-- the second loop: k pieces have been fed -/
def LisRel2 (V : World) (p : Nat) (g : Gt) (B : Nat) (l : List Inn) (t11 t12 t13 : Value) (wr : World) : Prop :=
  ∃ k : Nat, k ≤ l.length ∧ t13 = .int .i64 k ∧ ∃ A c O oc, t11 = .slice A (flt l k).length c ∧ t12 = .slice O (Fed g B (flt l k)).2.length oc ∧
    wr.ownsRow V.heap.size 3 1 (.slice A (flt l k).length c) (flt l k).length (ics (flt l k)) ∧
    wr.ownsRow V.heap.size 57 2 (.slice O (Fed g B (flt l k)).2.length oc) (Fed g B (flt l k)).2.length (scs (Fed g B (flt l k)).2) ∧
    (∀ b, (Value.slice A (flt l k).length c).ownBlock = some b → (Value.slice O (Fed g B (flt l k)).2.length oc).ownBlock ≠ some b) ∧ (∃ N, FedAt wr p g B (flt l k) N) ∧ V.grownBy wr (some p)
theorem own_cap {w : World} {base : Nat} {e : TypeId} {size n c : Nat} {A : Option Addr} {xs : List Value} (h : w.ownsRow base e size (.slice A n c) n xs) : n ≤ c := by
  rcases h.2 with ⟨e1, e2⟩ | ⟨gg, cap, cur, e1, _, _, e2, _⟩
  · injection e1 with _ e3 _; omega
  · injection e1 with _ _ e3; omega
/-- two rows that are owned and turn -/
theorem only_two {V w1 w2 : World} {p : Nat} {row : Option Nat} (h : V.grownBy w1 (some p)) (hg : w1.grownBy w2 row) (hr : ∀ k, row = some k → V.heap.size ≤ k) : V.grownBy w2 (some p) := only_grown h hg hr

theorem Led.pastR {w0 wa w w' : World} {F : List (Option Addr × List Value)} {row : Option Nat} (ha : Led w0 wa F) (h : Led w0 w F) (hg : w.grownBy w' row) (hr : ∀ k, row = some k → wa.heap.size ≤ k) : Led w0 w' F := by
  cases row with
  | none => exact h.below (below_none hg)
  | some k => exact ha.past h hg (hr k rfl)
theorem ics_append (a b : List Int) : ics (a ++ b) = ics a ++ ics b := by simp [ics]
theorem ClosedAt.grown {w w' : World} {p : Nat} {g : Gt} {n : Int} {row : Option Nat} (h : ClosedAt w p g n) (hg : w.grownBy w' row) (hr : ∀ k, row = some k → k ≠ p) : ClosedAt w' p g n := by
  obtain ⟨s, bl, h1, h2, h3⟩ := h
  exact ⟨s, bl, (hg.block p (row_lt h1) (fun e => hr p e.symm rfl)).trans h1, h2, h3⟩
/-- what is new in a row stays apart from another row -/
theorem apart_next {new old other : Value} {H : Nat} (hat : new.ownBlock = old.ownBlock ∨ new.ownBlock = some H) (hap : ∀ b, old.ownBlock = some b → other.ownBlock ≠ some b) (hlt : ∀ b, other.ownBlock = some b → b < H) : ∀ b, new.ownBlock = some b → other.ownBlock ≠ some b := fun b h1 h2 => by
  rcases hat with h | h
  · rw [h] at h1; exact hap b h1 h2
  · rw [h] at h1; injection h1 with h1; have := hlt b h2; omega
theorem apart_swap {a b : Value} (h : ∀ k, a.ownBlock = some k → b.ownBlock ≠ some k) : ∀ k, b.ownBlock = some k → a.ownBlock ≠ some k := fun k h1 h2 => h k h2 h1
theorem seg_true (g : Gt) (B : Nat) (all : List Int) : segsOf g B all = (segSt g B all).2 ++ (if true = true ∧ (segSt g B all).1.state = 1 then [((segSt g B all).1.begin_ * g.block, (segSt g B all).1.samples)] else []) := by simp [segsOf]
/-- At of a listener that is fed -/
theorem At_fed (g : Gt) (p : Nat) (B : Nat) (all : List Int) (N : Nat) (w : World) (hF : FedAt w p g B all N) (b : Bool) (hb : Hid (decide ((Fed g B all).1.state = 1) = b)) :
    Calls Try.prog 37 #[.pointer (some ⟨p, 0, none⟩)] w fun e w' => e = .returned (.tuple #[.int .i64 all.length, .bool b]) ∧ Below w.heap.size w w' := by
  obtain ⟨A1, c1, h1, _⟩ := hF
  exact At_any g _ _ p w h1 b (by rw [← hb.out]; rfl)

set_option maxRecDepth 100000 in
set_option maxHeartbeats 4000000 in
theorem WaveListens_ok (g : Gt) (B : Nat) (A A2 : Option Addr) (c c2 : Nat) (l : List Inn) (ag : List Int) (w : World) (h : Lies w A (lcs l)) (hi : ∀ x ∈ l, InOkS w x) (h2 : Lies w A2 (ics ag)) (hsm : Hid (∀ x ∈ l, smp x.2.2 = true)) (h30 : l.length ≤ 30)
    (hn : (flt l l.length).length ≤ 2000) (hag : ag.length ≤ 100) (hg : Hid (decide g.ok = true)) (hB : Hid (g.block = B)) (bA : Bool) (hbA : Hid (smp ag = bA)) :
    Calls Try.prog 9 #[.slice A l.length c, gateV g, .slice A2 ag.length c2] w fun e w' => e = .returned (.bool true) ∧ Below w.heap.size w w' := by
  obtain ⟨i0, hi0, hz0, hz1, hz2⟩ := info_parts int_info
  obtain ⟨j0, ki0, kz0, kz1, kz2⟩ := info_parts seg_info
  have TI := Lib.hid hi0; have TZ0 := Lib.hid hz0; have TZ1 := Lib.hid hz1; have TZ2 := Lib.hid hz2
  have KI := Lib.hid ki0; have KZ0 := Lib.hid kz0; have KZ1 := Lib.hid kz1; have KZ2 := Lib.hid kz2
  clear hi0 hz0 hz1 hz2 ki0 kz0 kz1 kz2
  have hgo : Hid g.ok := Lib.hid (by simpa using hg.out)
  have D0 := Lib.hid ((((Led.nil w).add h).add h2).alloc (.cells #[.int .i64 g.block, .int .i64 g.high, .int .i64 g.low, .int .i64 g.rise, .int .i64 g.fall, .int .i64 g.lead, .int .i64 g.longest] 41) |>.row (heap_alloc_new w _))
  have HI0 := Lib.hid (fun x hx => (hi x hx).1)
  have HI := Lib.hid (fun x hx => InOk.alloc (hi x hx).1 (.cells #[.int .i64 g.block, .int .i64 g.high, .int .i64 g.low, .int .i64 g.rise, .int .i64 g.fall, .int .i64 g.lead, .int .i64 g.longest] 41))
  have HLE := Lib.hid (fun k (hk : k ≤ l.length) => flt_le (l := l) hk (Nat.le_refl _))
  clear h h2 hi
  have hg1 : g.block = B := hB.out
  obtain ⟨g1, g2, g3, g4, g5, g6, g7⟩ := g
  simp only at hg1
  subst hg1
  go_enter Try.func9, Try.ntmps9
  go_wp2_with fail
  go_loop [7, 8] (fun n i => LisRel1 l n i) (fun _ i => l.length - (intOf i).toNat)
  case atStart => exact ⟨0, Nat.zero_le _, rfl, ⟨0, rfl, fun _ => rfl⟩, fun x hx => by simp at hx⟩
  case round =>
    obtain ⟨k, hk, rfl, ⟨m, rfl, hm⟩, hp⟩ := hrel
    have HM := Lib.hid (hm h30)
    have hbk := HLE.out k hk
    have hm0 : 0 ≤ m := by have := HM.out; omega
    have hm1 : m ≤ 2000 := by have := HM.out; omega
    have HP := Lib.hid hp
    clear hm hp
    by_cases hlt : k < l.length
    · obtain ⟨b, off, rfl, hb, hc⟩ := (D0.out.lies 0 _ _ rfl).lat hlt
      have hx := HI.out l[k] (List.getElem_mem hlt)
      have HF := Lib.hid (flt_succ hlt)
      have HV := Lib.hid (hsm.out l[k] (List.getElem_mem hlt))
      have HS := Lib.hid (smp_take_succ hlt HP.out HV.out)
      have hbk1 := HLE.out (k + 1) (by omega)
      rw [HF.out, List.length_append] at hbk1
      generalize hxe : l[k] = x at *
      obtain ⟨xa, xc, xl⟩ := x
      simp only at hx hc hbk1
      have HX := Lib.hid hx
      have hxl := hx.2.2.1
      clear hx
      go_wp2_with fail
      refine (All_any xa xc xl _ _ _ HX.out.1 (by omega) true HV).mono ?_
      rintro e w0 ⟨rfl, rfl⟩
      go_wp2_with fail
      go_round
      case rel => exact ⟨k + 1, by omega, by go_num, ⟨_, rfl, fun _ => by rw [HF.out, List.length_append, HM.out]; simp⟩, HS.out⟩
      case measure => simp [intOf]; omega
    · clear HP HM hbk
      obtain rfl : k = l.length := by omega
      have hm2 : ¬ 2000 < m := by omega
      have q := row_of_led D0.out 2 w.heap.size ⟨B, g2, g3, g4, g5, g6, g7⟩ rfl
      obtain ⟨q0, q1, q2, q3, q4, q5, q6⟩ := q
      simp only at q0 q1 q2 q3 q4 q5 q6
      go_wp2_with fail
      refine (Listen_ok ⟨B, g2, g3, g4, g5, g6, g7⟩ _ hg).mono ?_
      rintro e V ⟨p, rfl, hp, hL, hb1⟩
      have D1 := Lib.hid (D0.out.below hb1)
      have F0 := Lib.hid (FedAt.new B hL V.heap.size)
      have hpV : p < V.heap.size := row_lt hL
      clear hb1 hL q0 q1 q2 q3 q4 q5 q6
      have q := row_of_led D1.out 2 w.heap.size ⟨B, g2, g3, g4, g5, g6, g7⟩ rfl
      obtain ⟨q0, q1, q2, q3, q4, q5, q6⟩ := q
      simp only at q0 q1 q2 q3 q4 q5 q6
      go_wp2_with fail
      refine (rGate_any ⟨B, g2, g3, g4, g5, g6, g7⟩ _ true hg).mono ?_
      rintro e V1 ⟨rfl, hb2⟩
      have D2 := Lib.hid (D1.out.below hb2)
      have F1 := Lib.hid (F0.out.below hb2)
      have HB2 := Lib.hid hb2
      have hpV1 : p < V1.heap.size := Nat.lt_of_lt_of_le hpV hb2.size
      clear hb2 q0 q1 q2 q3 q4 q5 q6 F0
      go_wp2_with fail
      go_loopw [11, 12, 13] (fun t11 t12 t13 wr => LisRel2 V p ⟨B, g2, g3, g4, g5, g6, g7⟩ B l t11 t12 t13 wr) (fun _ _ t13 _ => l.length - (intOf t13).toNat)
      case atStart =>
        refine ⟨0, Nat.zero_le _, rfl, none, 0, none, 0, rfl, ?_, World.ownsRow_nil _ _ _ _, ?_, ?_, ⟨V.heap.size, ?_⟩, ?_⟩
        · rw [flt_zero, (Fed_nil _ _).1]; rfl
        · rw [flt_zero, (Fed_nil _ _).1]; exact World.ownsRow_nil _ _ _ _
        · intro b hb; simp [Value.ownBlock] at hb
        · exact F1.out
        · exact ⟨HB2.out.os, HB2.out.tape, HB2.out.output, HB2.out.size, fun i hi _ => HB2.out.block i hi⟩
      case round =>
        clear D2 F1 HB2 HI
        obtain ⟨k, hk, rfl, A1, c1, O, oc, rfl, rfl, own1, own2, hap, ⟨N, hF⟩, hgr⟩ := hrel
        have D := Lib.hid (D0.out.past D1.out hgr hp)
        have F := Lib.hid hF
        have OW1 := Lib.hid own1
        have OW2 := Lib.hid own2
        have HAP := Lib.hid hap
        have hV := hgr.size
        have HG := Lib.hid hgr
        have hbk := HLE.out k hk
        have VK := Lib.hid (flt_smp hsm.out k)
        clear hgr hap own1 own2 hF
        by_cases hlt : k < l.length
        · have HC : Hid ((lcs l)[k]? = some (.slice l[k].1 l[k].2.2.length l[k].2.1)) := Lib.hid (by simp [List.getElem?_eq_getElem hlt])
          obtain ⟨b, off, rfl, hb, hc⟩ := (D.out.lies 0 _ _ rfl).lat hlt
          have HX := Lib.hid (HI0.out l[k] (List.getElem_mem hlt))
          have HF := Lib.hid (flt_succ hlt)
          have HV := Lib.hid (hsm.out l[k] (List.getElem_mem hlt))
          have VK1 := Lib.hid (flt_smp hsm.out (k + 1))
          have hbk1 := HLE.out (k + 1) (by omega)
          have hbk2 : (flt l k).length + l[k].2.2.length ≤ 2000 := by rw [HF.out, List.length_append] at hbk1; omega
          generalize hxe : l[k] = x at *
          clear hxe
          obtain ⟨xa, xc, xl⟩ := x
          simp only at hc hbk2
          have HFN : Hid ((flt l k).length + xl.length = (flt l (k + 1)).length) := Lib.hid (by rw [HF.out, List.length_append])
          go_wp2_with fail
          refine (Feed_fed ⟨B, g2, g3, g4, g5, g6, g7⟩ p B (flt l k) xl xa xc _ wr F.out (HX.out.1.below D.out.bel) (fun e => (HX.out.2.1 e).1) VK HV (by omega) hgo (Lib.hid (rfl : (B : Int) = B))).mono ?_
          rintro e w1 ⟨o1, O1, oc1, rfl, he1, hown1, hF1, hg1⟩
          have D1' := Lib.hid (D0.out.past D.out hg1 hp)
          have OW1' := Lib.hid (own_kept OW1.out hg1 hpV)
          have OW2' := Lib.hid (own_kept OW2.out hg1 hpV)
          have OO1 := Lib.hid hown1
          have HE1 : Hid ((Fed ⟨B, g2, g3, g4, g5, g6, g7⟩ B (flt l (k + 1))).2 = (Fed ⟨B, g2, g3, g4, g5, g6, g7⟩ B (flt l k)).2 ++ o1) := Lib.hid (by rw [HF.out]; exact he1)
          have HEN : Hid ((Fed ⟨B, g2, g3, g4, g5, g6, g7⟩ B (flt l k)).2.length + o1.length = (Fed ⟨B, g2, g3, g4, g5, g6, g7⟩ B (flt l (k + 1))).2.length) := Lib.hid (by rw [HE1.out, List.length_append])
          have F1 : Hid (FedAt w1 p ⟨B, g2, g3, g4, g5, g6, g7⟩ B (flt l (k + 1)) wr.heap.size) := Lib.hid (by rw [HF.out]; exact hF1)
          have hs1 := hg1.size
          have HG1 := Lib.hid (only_only HG.out hg1)
          have hfb := (Fed_inv hgo.out B (flt l (k + 1))).2.2.2
          have hfb2 := Nat.div_le_self (flt l (k + 1)).length B
          have hfb3 : (Fed ⟨B, g2, g3, g4, g5, g6, g7⟩ B (flt l k)).2.length + o1.length ≤ 2000 := by rw [HEN.out]; omega
          have hc1 := D1'.out.cell 0 rfl k HC.out
          clear he1 hown1 hF1 hg1 hc F HG hfb hfb2
          generalize hS0 : (Fed ⟨B, g2, g3, g4, g5, g6, g7⟩ B (flt l k)).2 = S0 at *
          generalize hS1 : (Fed ⟨B, g2, g3, g4, g5, g6, g7⟩ B (flt l (k + 1))).2 = S1 at *
          have HS1 := Lib.hid hS1
          clear hS0 hS1
          go_wp2_with (first
            | (at_builtin; refine wpList_append_srcG _ rfl (.tmp 102) (.tmp 106) _ rfl V.heap.size 3 i0 _ 1 8 Try.underlying22 TI.out TZ0.out TZ1.out TZ2.out rfl (by omega) (.slice A1 (flt l k).length c1) (flt l k).length (ics (flt l k)) rfl OW1'.out xa xl.length xc (ics xl) rfl (fun e => (HX.out.2.1 e).1) (HX.out.1.below D1'.out.bel) (by simp) (ics_one _) (by unfold maxLen; omega) (by omega) (by omega) _ HFN.out ?_; intro A3 c3 w2 hown3 hgr3 hat3; have D2' := Lib.hid (D1.out.pastR D1'.out hgr3 (fun k hk => by have := (OW1'.out.lt k hk).1; omega)); have OW2'' := Lib.hid (own_apart OW2'.out hgr3 (apart_swap HAP.out)); have OO2 := Lib.hid (own_apart OO1.out hgr3 (fun b h1 h2 => by have := (OW1.out.lt b h2).2; have := (OO1.out.lt b h1).1; omega)); have F2 := Lib.hid (F1.out.grown hgr3 (fun k hk => by have := OW1.out.lt k hk; omega)); have OW3 : Hid (w2.ownsRow V.heap.size 3 1 (.slice A3 (flt l (k + 1)).length c3) (flt l (k + 1)).length (ics (flt l (k + 1)))) := Lib.hid (by rw [HF.out, ics_append]; rw [HF.out] at hown3; exact hown3); have HG2 := Lib.hid (only_two HG1.out hgr3 (fun k hk => (OW1'.out.lt k hk).1)); have hs2 := hgr3.size; have HAP1 := Lib.hid (apart_next hat3 HAP.out (fun b h => by have := (OW2.out.lt b h).2; omega)))
            | (at_builtin; refine wpList_append_srcG _ rfl (.tmp 108) (.tmp 109) _ rfl V.heap.size 57 j0 _ 2 16 Try.underlying42 KI.out KZ0.out KZ1.out KZ2.out rfl (by omega) (.slice O S0.length oc) S0.length (scs S0) rfl OW2''.out O1 o1.length oc1 (scs o1) rfl (own_none OO2.out) (Lies.of_own OO2.out) (scs_length _) (scs_one _) (by unfold maxLen; omega) (by omega) (by omega) _ HEN.out ?_; intro O3 oc3 w3 hown4 hgr4 hat4; have D3 := Lib.hid (D1.out.pastR D2'.out hgr4 (fun k hk => by have := (OW2''.out.lt k hk).1; omega)); have OW4 := Lib.hid (own_apart OW3.out hgr4 HAP1.out); have F3 := Lib.hid (F2.out.grown hgr4 (fun k hk => by have := OW2.out.lt k hk; omega)); have OW5 : Hid (w3.ownsRow V.heap.size 57 2 (.slice O3 S1.length oc3) S1.length (scs S1)) := Lib.hid (by rw [HE1.out, scs_append]; rw [HE1.out] at hown4; exact hown4); have HAP3 := Lib.hid (apart_swap (apart_next hat4 (apart_swap HAP1.out) (fun b h => (OW3.out.lt b h).2))); have HG3 := Lib.hid (only_two HG2.out hgr4 (fun k hk => (OW2''.out.lt k hk).1)); have hs3 := hgr4.size; obtain ⟨q0, q1, q2, q3, q4, q5, q6⟩ := row_of_led D3.out 2 w.heap.size ⟨B, g2, g3, g4, g5, g6, g7⟩ rfl; simp only at q0 q1 q2 q3 q4 q5 q6))
          clear OW1' OW2' OW2'' OO1 OO2 F1 F2 D1' D2' OW1 OW2 HAP HAP1 D hown3 hown4 hgr3 hgr4 hat3 hat4 HG1 HG2 hc1 OW3
          refine (rSegments_any ⟨B, g2, g3, g4, g5, g6, g7⟩ B A3 c3 (flt l (k + 1)) false w3 (Lies.of_own OW4.out) (own_cap OW4.out) VK1 (by omega) hgo (Lib.hid (rfl : (B : Int) = B)) (decide ((Fed ⟨B, g2, g3, g4, g5, g6, g7⟩ B (flt l (k + 1))).1.state = 1)) S1 (Lib.hid (by unfold segSt; rw [seg_fed])) (Lib.hid (by unfold segSt; rw [seg_fed, HS1.out]; simp))).mono ?_
          rintro e w4 ⟨A4, c4, rfl, hown5, hb4⟩
          obtain ⟨sp, hsp⟩ : ∃ sp, decide ((Fed ⟨B, g2, g3, g4, g5, g6, g7⟩ B (flt l (k + 1))).1.state = 1) = sp := ⟨_, rfl⟩
          rw [hsp]
          have HSP := Lib.hid hsp
          have F4 := Lib.hid (F3.out.below hb4)
          have OA4 := Lib.hid (own_below OW4.out hb4)
          have OB4 := Lib.hid (own_below OW5.out hb4)
          have LW := Lib.hid (Lies.of_own hown5)
          have HG4 := Lib.hid (only_below HG3.out hb4)
          clear hsp hb4 hown5 F3 OW4 OW5 HG3 D3 q0 q1 q2 q3 q4 q5 q6
          go_wp2_with fail
          refine (At_fed ⟨B, g2, g3, g4, g5, g6, g7⟩ p B (flt l (k + 1)) _ w4 F4.out sp HSP).mono ?_
          rintro e w5 ⟨rfl, hb5⟩
          have F5 := Lib.hid (F4.out.below hb5)
          have OA5 := Lib.hid (own_below OA4.out hb5)
          have OB5 := Lib.hid (own_below OB4.out hb5)
          have LW5 := Lib.hid (LW.out.below hb5)
          have HG5 := Lib.hid (only_below HG4.out hb5)
          clear hb5 F4 OA4 OB4 LW HG4
          go_wp2_with fail
          refine (sames_bel O3 A4 oc3 c4 S1 S1 _ (Lies.of_own OB5.out) LW5.out (by have := HEN.out; omega) (by have := HEN.out; omega) true (Lib.hid (by simp))).mono ?_
          rintro e w6 ⟨rfl, hb6⟩
          have F6 := Lib.hid (F5.out.below hb6)
          have OA6 := Lib.hid (own_below OA5.out hb6)
          have OB6 := Lib.hid (own_below OB5.out hb6)
          have HG6 := Lib.hid (only_below HG5.out hb6)
          clear hb6 F5 OA5 OB5 LW5 HG5
          go_wp2_with fail
          go_roundw
          case rel => exact ⟨k + 1, by omega, by go_num, A3, c3, O3, oc3, rfl, by rw [HS1.out], OA6.out, by rw [HS1.out]; exact OB6.out, by rw [HS1.out]; exact HAP3.out, ⟨_, F6.out⟩, HG6.out⟩
          case measure => simp [intOf]; omega
        · obtain rfl : k = l.length := by omega
          generalize hall : flt l l.length = all at *
          clear hall HLE HI0 HAP hbk
          go_wp2_with fail
          refine (Close_fed ⟨B, g2, g3, g4, g5, g6, g7⟩ p B all _ wr F.out (by omega) hgo).mono ?_
          have hl3 := segsOf_fed ⟨B, g2, g3, g4, g5, g6, g7⟩ B all
          have hl4 := lastOf_len ⟨B, g2, g3, g4, g5, g6, g7⟩ B all
          have hl5 := segsOf_len ⟨B, g2, g3, g4, g5, g6, g7⟩ B all
          rintro e w1 ⟨A6, c6, rfl, hown6, hcl6, hg6⟩
          generalize lastOf ⟨B, g2, g3, g4, g5, g6, g7⟩ B all = la at *
          obtain ⟨out, hout⟩ : ∃ out, out = segsOf ⟨B, g2, g3, g4, g5, g6, g7⟩ B all := ⟨_, rfl⟩
          obtain ⟨S0, hS0⟩ : ∃ S0, S0 = (Fed ⟨B, g2, g3, g4, g5, g6, g7⟩ B all).2 := ⟨_, rfl⟩
          rw [← hout] at hl3 hl5
          rw [← hS0] at hl3 OW2 ⊢
          have HOS := Lib.hid hout
          have HO := Lib.hid hl3
          have HON : Hid (S0.length + la.length = out.length) := Lib.hid (by rw [hl3, List.length_append])
          have hol : S0.length ≤ 2001 ∧ la.length ≤ 1 ∧ out.length ≤ 2001 ∧ S0.length + la.length ≤ 2002 := by have := HON.out; omega
          have HS0 := Lib.hid hS0
          clear hl3 hl4 hl5 hout hS0
          have D1' := Lib.hid (D0.out.past D.out hg6 hp)
          have OW1' := Lib.hid (own_kept OW1.out hg6 hpV)
          have OW2' := Lib.hid (own_kept OW2.out hg6 hpV)
          have OL := Lib.hid hown6
          have CL1 := Lib.hid hcl6
          have hs6 := hg6.size
          have HK2 := Lib.hid OW2.out.lt
          clear OW1 OW2 D F hown6 hcl6 hg6 HG
          obtain ⟨q0, q1, q2, q3, q4, q5, q6⟩ := row_of_led D1'.out 2 w.heap.size ⟨B, g2, g3, g4, g5, g6, g7⟩ rfl
          simp only at q0 q1 q2 q3 q4 q5 q6
          go_wp2_with fail
          refine (rSegments_any ⟨B, g2, g3, g4, g5, g6, g7⟩ B A1 c1 all true w1 (Lies.of_own OW1'.out) (own_cap OW1'.out) VK (by omega) hgo (Lib.hid (rfl : (B : Int) = B)) _ out (Lib.hid rfl) (Lib.hid (by rw [HOS.out]; exact seg_true _ _ _))).mono ?_
          rintro e w2 ⟨A7, c7, rfl, hown7, hb7⟩
          generalize decide ((segSt ⟨B, g2, g3, g4, g5, g6, g7⟩ B all).1.state = 1) = sp at *
          have D2 := Lib.hid (D1'.out.below hb7)
          have CL2 := Lib.hid (CL1.out.keep hb7)
          have OW2 := Lib.hid (own_below OW2'.out hb7)
          have OL2 := Lib.hid (own_below OL.out hb7)
          have OR2 := Lib.hid hown7
          have hs7 := hb7.size
          clear hb7 hown7 OW1' OW2' OL CL1 D1' q0 q1 q2 q3 q4 q5 q6
          go_wp2_with (at_builtin; refine wpList_append_srcG _ rfl (.tmp 155) (.tmp 156) _ rfl V.heap.size 57 j0 _ 2 16 Try.underlying42 KI.out KZ0.out KZ1.out KZ2.out rfl (by omega) (.slice O S0.length oc) S0.length (scs S0) rfl OW2.out A6 la.length c6 (scs la) rfl (own_none OL2.out) (Lies.of_own OL2.out) (scs_length _) (scs_one _) (by unfold maxLen; omega) (by omega) (by omega) _ HON.out ?_; intro O3 oc3 w3 hown8 hgr8 hat8; have D3 := Lib.hid (D1.out.pastR D2.out hgr8 (fun k hk => by have := (OW2.out.lt k hk).1; omega)); have LO : Hid (Lies w3 O3 (scs out)) := Lib.hid (by rw [HO.out, scs_append]; exact Lies.of_own hown8); have OR3 := Lib.hid (own_apart OR2.out hgr8 (fun b h1 h2 => by have := (HK2.out b h2).2; have := (OR2.out.lt b h1).1; omega)))
          have hs8 := hgr8.size
          have CL3 : Hid (ClosedAt w3 p ⟨B, g2, g3, g4, g5, g6, g7⟩ all.length) := Lib.hid (CL2.out.grown hgr8 (fun k hk => by have := (OW2.out.lt k hk).1; omega))
          clear OW2 OL2 D2 CL2 OR2 hown8 hgr8 hat8 HK2
          refine (sames_bel O3 A7 oc3 c7 out out _ LO.out (Lies.of_own OR3.out) (by omega) (by omega) true (Lib.hid (by simp))).mono ?_
          rintro e w4 ⟨rfl, hb4⟩
          have D4 := Lib.hid (D3.out.below hb4)
          have CL4 := Lib.hid (CL3.out.keep hb4)
          clear hb4 LO OR3 D3 CL3
          go_wp2_with fail
          obtain ⟨sc, bl, hLc, hst, hsm'⟩ := CL4.out
          have HLC := Lib.hid hLc
          have HST := Lib.hid hst
          have HSM := Lib.hid hsm'
          clear hLc hst hsm'
          refine (At_any ⟨B, g2, g3, g4, g5, g6, g7⟩ sc bl p w4 HLC.out false (by rw [HST.out]; rfl)).mono ?_
          rw [HSM.out]
          rintro e w5 ⟨rfl, hb5⟩
          have D5 := Lib.hid (D4.out.below hb5)
          have HL5 : Hid (Lsn w5 p ⟨B, g2, g3, g4, g5, g6, g7⟩ sc bl) := Lib.hid ((hb5.block p (row_lt HLC.out)).trans HLC.out)
          have hs5 := hb5.size
          clear hb5 D4 HLC CL4
          go_wp2_with fail
          cases bA with
          | true =>
            refine (Feed_closed ⟨B, g2, g3, g4, g5, g6, g7⟩ sc bl p A2 c2 ag w5 HL5.out HST.out (D5.out.lies 1 _ _ rfl) (by omega) hbA).mono ?_
            rintro e w0 ⟨rfl, rfl⟩
            go_wp2_with fail
            refine (Close_closed ⟨B, g2, g3, g4, g5, g6, g7⟩ sc bl p w5 HL5.out HST.out).mono ?_
            rintro e w6 ⟨A9, c9, rfl, hown9, _, hg9⟩
            have D6 := Lib.hid (D0.out.past D5.out hg9 hp)
            clear hg9 hown9
            go_wp2_with fail
            refine (All_any A2 c2 ag _ _ _ (D6.out.lies 1 _ _ rfl) (by omega) true hbA).mono ?_
            rintro e w0 ⟨rfl, rfl⟩
            go_wp2_with fail
            refine (known2_any _).mono ?_
            rintro e w7 ⟨rfl, hb7⟩
            go_wp2_with fail
            go_ret
            exact ⟨rfl, bel_trans D6.out.bel hb7⟩
          | false =>
            refine (Feed_arg ⟨B, g2, g3, g4, g5, g6, g7⟩ sc bl p A2 c2 ag w5 HL5.out (D5.out.lies 1 _ _ rfl) (by omega) hbA).mono ?_
            rintro e w0 ⟨rfl, rfl⟩
            go_wp2_with fail
            refine (Close_closed ⟨B, g2, g3, g4, g5, g6, g7⟩ sc bl p w5 HL5.out HST.out).mono ?_
            rintro e w6 ⟨A9, c9, rfl, hown9, _, hg9⟩
            have D6 := Lib.hid (D0.out.past D5.out hg9 hp)
            clear hg9 hown9
            go_wp2_with fail
            refine (All_any A2 c2 ag _ _ _ (D6.out.lies 1 _ _ rfl) (by omega) false hbA).mono ?_
            rintro e w0 ⟨rfl, rfl⟩
            go_wp2_with fail
            refine (known2_any _).mono ?_
            rintro e w7 ⟨rfl, hb7⟩
            go_wp2_with fail
            go_ret
            exact ⟨rfl, bel_trans D6.out.bel hb7⟩

theorem WaveListens_any (g : Gt) (A A2 : Option Addr) (c c2 : Nat) (l : List Inn) (ag : List Int) (w : World) (h : Lies w A (lcs l)) (hi : ∀ x ∈ l, InOkS w x) (h2 : Lies w A2 (ics ag)) (hlc : l.length ≤ c) (hc : c * 24 ≤ 140737488351232) :
    Calls Try.prog 9 #[.slice A l.length c, gateV g, .slice A2 ag.length c2] w fun e w' => e = .returned (.bool true) ∧ Below w.heap.size w w' := by
  have hln : l.length ≤ 5864062014805 := by omega
  by_cases hsm : ∀ x ∈ l, smp x.2.2 = true
  · by_cases h30 : l.length ≤ 30
    · by_cases hn : (flt l l.length).length ≤ 2000
      · by_cases hag : ag.length ≤ 100
        · cases hg : decide g.ok with
          | false => exact WaveListens_no g A A2 c c2 l ag w h hi h2 hln (.inr (.inr (.inr (.inr ⟨h30, hn, hag, Lib.hid hg⟩))))
          | true =>
            have hgo : g.ok := by simpa using hg
            obtain ⟨B, hB⟩ := Int.eq_ofNat_of_zero_le (show 0 ≤ g.block by have := hgo.1; omega)
            exact WaveListens_ok g B A A2 c c2 l ag w h hi h2 (Lib.hid hsm) h30 hn hag (Lib.hid hg) (Lib.hid hB) _ (Lib.hid rfl)
        · exact WaveListens_no g A A2 c c2 l ag w h hi h2 hln (.inr (.inr (.inr (.inl ⟨h30, hn, by omega⟩))))
      · exact WaveListens_no g A A2 c c2 l ag w h hi h2 hln (.inr (.inr (.inl ⟨h30, by omega⟩)))
    · exact WaveListens_no g A A2 c c2 l ag w h hi h2 hln (.inr (.inl (by omega)))
  · exact WaveListens_no g A A2 c c2 l ag w h hi h2 hln (.inl (Lib.hid hsm))
end Go.Proofs.Ytnhkngmdjomfjaa
