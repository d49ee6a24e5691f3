/- FeatureBands: the walk -/
import Derived.Test.YtfapmghhmkekaaaDoorRBnd
import Derived.Test.YtfapmghhmkekaaaDoorQNear
import Derived.Test.YtfapmghhmkekaaaDoorMc
namespace Go.Proofs.YtfapmghhmkekaaaDoor
open Go.RowKit Ear
set_option linter.unusedVariables false

/-- the post of Bands at two edges -/
def OneErr (z : Int) (w : World) (x : Ending) (w' : World) : Prop := ∃ b c, x = .returned (.tuple #[.slice (some ⟨b, 0, none⟩) 1 c, .int .i64 0]) ∧ w'.cell? ⟨b, 0, none⟩ = some (.int .i64 z) ∧ Below w.heap.size w w'
theorem Bands_two (g : Nat) (A : Option Addr) (c : Nat) (s : List Int) (x y : Int) (w : World) (hA : Lies w A (ics s)) (hB : Lies w (some ⟨g, 0, none⟩) [.int .i64 x, .int .i64 y]) (hc : s.length ≤ c) (hn : s.length ≤ 9223372036854775807) (z : Int) (ho : Hid (bndR s [x, y] = (0, [z]))) :
    Calls Tryd.prog 54 #[.slice A s.length c, .slice (some ⟨g, 0, none⟩) 2 2] w (OneErr z w) :=
  (Bands_any A (some ⟨g, 0, none⟩) c 2 s [x, y] w hA hB hc hn (by simp) 0 [z] ho).mono fun e w' ⟨A', c', he, h1, h2⟩ => by
    obtain ⟨b, cap, hf, -, -⟩ := h1.form (by simp)
    injection hf with e1 _ e3
    subst e1 e3
    exact ⟨b, c', he, by have := h1.cellAt 0 (by simp); simpa using this, h2⟩
theorem bndR_ok {s e : List Int} (h1 : s.length ≤ 64) (h2 : allR (-16777216) 16777216 s = true) (h3 : edgOk e s.length = true) : bndR s e = (0, bndL s e) := by rw [bndR, if_pos ⟨h1, h2, h3⟩]
theorem bndR_no {s e : List Int} (h : ¬ (s.length ≤ 64 ∧ allR (-16777216) 16777216 s = true ∧ edgOk e s.length = true)) : bndR s e = (2, []) := by rw [bndR, if_neg h]
set_option maxRecDepth 100000 in
set_option maxHeartbeats 4000000 in
theorem FeatureBands_o1 (A B : Option Addr) (c d : Nat) (s e : List Int) (w : World) (hA : Lies w A (ics s)) (hB : Lies w B (ics e)) (hc : s.length ≤ c) (hn : s.length ≤ 9223372036854775807) (hC : CosOk w) (hk : Kn) (h1 : 70 < s.length) :
    Calls Tryd.prog 14 #[.slice A s.length c, .slice B e.length d] w (RetB true w) := by
  go_enter Tryd.func14, Tryd.ntmps14
  go_wp2_with fail
  refine (hk _ hC).mono ?_
  rintro x w99 ⟨rfl, hb⟩
  go_wp2_with fail
  go_ret
  exact ⟨rfl, hb⟩
set_option maxRecDepth 100000 in
set_option maxHeartbeats 4000000 in
theorem FeatureBands_o2 (A B : Option Addr) (c d : Nat) (s e : List Int) (w : World) (hA : Lies w A (ics s)) (hB : Lies w B (ics e)) (hc : s.length ≤ c) (hn : s.length ≤ 9223372036854775807) (hC : CosOk w) (hk : Kn) (h1 : s.length ≤ 70) (h2 : 70 < e.length) :
    Calls Tryd.prog 14 #[.slice A s.length c, .slice B e.length d] w (RetB true w) := by
  go_enter Tryd.func14, Tryd.ntmps14
  go_wp2_with fail
  refine (hk _ hC).mono ?_
  rintro x w99 ⟨rfl, hb⟩
  go_wp2_with fail
  go_ret
  exact ⟨rfl, hb⟩
set_option maxRecDepth 100000 in
set_option maxHeartbeats 4000000 in
theorem FeatureBands_n0 (A B : Option Addr) (c d : Nat) (s e : List Int) (w : World) (hA : Lies w A (ics s)) (hB : Lies w B (ics e)) (hc : s.length ≤ c) (hn : s.length ≤ 9223372036854775807) (hC : CosOk w) (hk : Kn) (h1 : s.length ≤ 70) (h2 : e.length ≤ 70) (h3 : 64 < s.length) :
    Calls Tryd.prog 14 #[.slice A s.length c, .slice B e.length d] w (RetB true w) := by
  have HNO : Hid (¬ (s.length ≤ 64 ∧ allR (-16777216) 16777216 s = true ∧ edgOk e s.length = true)) := Lib.hid (fun h => by omega)
  go_enter Tryd.func14, Tryd.ntmps14
  go_wp2_with fail
  refine (Bands_any A B c d s e w hA hB hc hn (by omega) 2 [] (Lib.hid (bndR_no HNO.out))).mono ?_
  rintro x w1 ⟨PA1, Pc1, rfl, -, hb⟩
  have LA1 : Hid (Lies w1 A (ics s)) := Lib.hid (hA.below hb)
  have LB1 : Hid (Lies w1 B (ics e)) := Lib.hid (hB.below hb)
  have B1 : Hid (Below w.heap.size w w1) := Lib.hid (hb)
  clear hb 
  go_wp2_with fail
  refine (hk _ (hC.below B1.out)).mono ?_
  rintro x w99 ⟨rfl, hb⟩
  go_wp2_with fail
  go_ret
  exact ⟨rfl, B1.out.trans (hb.mono B1.out.size)⟩
set_option maxRecDepth 100000 in
set_option maxHeartbeats 4000000 in
theorem FeatureBands_n1 (A B : Option Addr) (c d : Nat) (s e : List Int) (w : World) (hA : Lies w A (ics s)) (hB : Lies w B (ics e)) (hc : s.length ≤ c) (hn : s.length ≤ 9223372036854775807) (hC : CosOk w) (hk : Kn) (h1 : s.length ≤ 70) (h2 : e.length ≤ 70) (h3 : s.length ≤ 64) (ha : Hid (allR (-16777216) 16777216 s = false)) :
    Calls Tryd.prog 14 #[.slice A s.length c, .slice B e.length d] w (RetB true w) := by
  have HNO : Hid (¬ (s.length ≤ 64 ∧ allR (-16777216) 16777216 s = true ∧ edgOk e s.length = true)) := Lib.hid (fun h => by have := ha.out; rw [h.2.1] at this; cases this)
  go_enter Tryd.func14, Tryd.ntmps14
  go_wp2_with fail
  refine (Bands_any A B c d s e w hA hB hc hn (by omega) 2 [] (Lib.hid (bndR_no HNO.out))).mono ?_
  rintro x w1 ⟨PA1, Pc1, rfl, -, hb⟩
  have LA1 : Hid (Lies w1 A (ics s)) := Lib.hid (hA.below hb)
  have LB1 : Hid (Lies w1 B (ics e)) := Lib.hid (hB.below hb)
  have B1 : Hid (Below w.heap.size w w1) := Lib.hid (hb)
  clear hb 
  go_wp2_with fail
  refine (All_any A c s (-16777216) 16777216 w1 LA1.out hn false ha).mono ?_
  rintro x w' ⟨rfl, rfl⟩
  go_wp2_with fail
  refine (hk _ (hC.below B1.out)).mono ?_
  rintro x w99 ⟨rfl, hb⟩
  go_wp2_with fail
  go_ret
  exact ⟨rfl, B1.out.trans (hb.mono B1.out.size)⟩
set_option maxRecDepth 100000 in
set_option maxHeartbeats 4000000 in
theorem FeatureBands_n2 (A B : Option Addr) (c d : Nat) (s e : List Int) (w : World) (hA : Lies w A (ics s)) (hB : Lies w B (ics e)) (hc : s.length ≤ c) (hn : s.length ≤ 9223372036854775807) (hC : CosOk w) (hk : Kn) (h1 : s.length ≤ 70) (h2 : e.length ≤ 70) (h3 : s.length ≤ 64) (ha : Hid (allR (-16777216) 16777216 s = true)) (he : Hid (edgOk e s.length = false)) :
    Calls Tryd.prog 14 #[.slice A s.length c, .slice B e.length d] w (RetB true w) := by
  have HNO : Hid (¬ (s.length ≤ 64 ∧ allR (-16777216) 16777216 s = true ∧ edgOk e s.length = true)) := Lib.hid (fun h => by have := he.out; rw [h.2.2] at this; cases this)
  go_enter Tryd.func14, Tryd.ntmps14
  go_wp2_with fail
  refine (Bands_any A B c d s e w hA hB hc hn (by omega) 2 [] (Lib.hid (bndR_no HNO.out))).mono ?_
  rintro x w1 ⟨PA1, Pc1, rfl, -, hb⟩
  have LA1 : Hid (Lies w1 A (ics s)) := Lib.hid (hA.below hb)
  have LB1 : Hid (Lies w1 B (ics e)) := Lib.hid (hB.below hb)
  have B1 : Hid (Below w.heap.size w w1) := Lib.hid (hb)
  clear hb 
  go_wp2_with fail
  refine (All_any A c s (-16777216) 16777216 w1 LA1.out hn true ha).mono ?_
  rintro x w' ⟨rfl, rfl⟩
  go_wp2_with fail
  refine (rEdges_any B d s.length e w1 LB1.out (by omega) false he).mono ?_
  rintro x w2 ⟨rfl, n2, hb⟩
  have LA2 : Hid (Lies w2 A (ics s)) := Lib.hid (by rw [hb]; exact LA1.out.below (below_drewN' _ _))
  have LB2 : Hid (Lies w2 B (ics e)) := Lib.hid (by rw [hb]; exact LB1.out.below (below_drewN' _ _))
  have B2 : Hid (Below w.heap.size w w2) := Lib.hid (by rw [hb]; exact B1.out.trans (below_drewN' _ _))
  clear hb LA1 LB1 B1
  go_wp2_with fail
  refine (hk _ (hC.below B2.out)).mono ?_
  rintro x w99 ⟨rfl, hb⟩
  go_wp2_with fail
  go_ret
  exact ⟨rfl, B2.out.trans (hb.mono B2.out.size)⟩
set_option maxRecDepth 100000 in
set_option maxHeartbeats 4000000 in
theorem FeatureBands_ok (A B : Option Addr) (c d : Nat) (s e : List Int) (w : World) (hA : Lies w A (ics s)) (hB : Lies w B (ics e)) (hc : s.length ≤ c) (hn : s.length ≤ 9223372036854775807) (hC : CosOk w) (hk : Kn) (h1 : s.length ≤ 70) (h2 : e.length ≤ 70) (h3 : s.length ≤ 64) (ha : Hid (allR (-16777216) 16777216 s = true)) (he : Hid (edgOk e s.length = true)) :
    Calls Tryd.prog 14 #[.slice A s.length c, .slice B e.length d] w (RetB true w) := by
  have HE := Lib.hid (edg_of he.out)
  have NB : Hid ((bndL s e).length ≤ 70) := Lib.hid (by rw [bndL_length]; omega)
  go_enter Tryd.func14, Tryd.ntmps14
  go_wp2_with fail
  refine (Bands_any A B c d s e w hA hB hc hn (by omega) 0 (bndL s e) (Lib.hid (bndR_ok h3 ha.out he.out))).mono ?_
  rintro x w1 ⟨PA1, Pc1, rfl, ho, hb⟩
  have LA1 : Hid (Lies w1 A (ics s)) := Lib.hid (hA.below hb)
  have LB1 : Hid (Lies w1 B (ics e)) := Lib.hid (hB.below hb)
  have B1 : Hid (Below w.heap.size w w1) := Lib.hid (hb)
  clear hb 
  have O1 : Hid (Lies w1 PA1 (ics (bndL s e))) := Lib.hid (Lies.of_own ho)
  clear ho
  go_wp2_with fail
  refine (All_any A c s (-16777216) 16777216 w1 LA1.out hn true ha).mono ?_
  rintro x w' ⟨rfl, rfl⟩
  go_wp2_with fail
  refine (rEdges_any B d s.length e w1 LB1.out (by omega) true he).mono ?_
  rintro x w2 ⟨rfl, n2, hb⟩
  have LA2 : Hid (Lies w2 A (ics s)) := Lib.hid (by rw [hb]; exact LA1.out.below (below_drewN' _ _))
  have LB2 : Hid (Lies w2 B (ics e)) := Lib.hid (by rw [hb]; exact LB1.out.below (below_drewN' _ _))
  have P2 : Hid (Lies w2 PA1 (ics (bndL s e))) := Lib.hid (by rw [hb]; exact O1.out.below (below_drewN' _ _))
  have B2 : Hid (Below w.heap.size w w2) := Lib.hid (by rw [hb]; exact B1.out.trans (below_drewN' _ _))
  clear hb LA1 LB1 O1 B1
  go_wp2_with fail
  refine (rBands_any A B c d s e w2 LA2.out LB2.out hc HE ha h3 (by omega)).mono ?_
  rintro x w3 ⟨PA3, Pc3, rfl, ho, hb⟩
  have LA3 : Hid (Lies w3 A (ics s)) := Lib.hid (LA2.out.below hb)
  have LB3 : Hid (Lies w3 B (ics e)) := Lib.hid (LB2.out.below hb)
  have P3 : Hid (Lies w3 PA1 (ics (bndL s e))) := Lib.hid (P2.out.below hb)
  have B3 : Hid (Below w.heap.size w w3) := Lib.hid (B2.out.trans (hb.mono B2.out.size))
  clear hb LA2 LB2 P2 B2
  have O3 : Hid (Lies w3 PA3 (ics (bndL s e))) := Lib.hid (Lies.of_own ho)
  clear ho
  go_wp2_with fail
  refine (same_b PA1 PA3 Pc1 Pc3 (bndL s e) (bndL s e) w3 P3.out O3.out (by have := NB.out; omega) (by have := NB.out; omega) true (Lib.hid (decide_eq_true rfl))).mono ?_
  rintro x w4 ⟨rfl, hb⟩
  have LA4 : Hid (Lies w4 A (ics s)) := Lib.hid (LA3.out.below hb)
  have LB4 : Hid (Lies w4 B (ics e)) := Lib.hid (LB3.out.below hb)
  have P4 : Hid (Lies w4 PA1 (ics (bndL s e))) := Lib.hid (P3.out.below hb)
  have Q4 : Hid (Lies w4 PA3 (ics (bndL s e))) := Lib.hid (O3.out.below hb)
  have B4 : Hid (Below w.heap.size w w4) := Lib.hid (B3.out.trans (hb.mono B3.out.size))
  clear hb LA3 LB3 P3 O3 B3
  obtain ⟨b1, o1, rfl, hb1, hc1⟩ := LB4.out.at_ (k := 0) (by have := HE.out.two; omega)
  obtain ⟨b2, o2, eA, hb2, hc2⟩ := LB4.out.at_ (k := e.length - 1) (by have := HE.out.two; omega)
  cases eA
  rw [Nat.add_zero] at hc1
  have HR2 : Hid (bndR s [e[0]?.getD 0, e[e.length - 1]?.getD 0] = (0, [bndS s e (e.length - 1)])) := Lib.hid (by rw [bndR_ok h3 ha.out (edg_pair HE.out), bnd_sum HE.out])
  have h2e := HE.out.two
  have p1 : IntKind.i64.wrap ((e.length : Int) - 1) = (e.length : Int) - 1 := IntWalk.i64_in _ (by omega)
  have i1 : ((e.length : Int) - 1).toNat = e.length - 1 := by omega
  have i2 : (0 : Int) ≤ (e.length : Int) - 1 := by omega
  have i3 : (e.length : Int) - 1 < (e.length : Int) := by omega
  have i4 : (0 : Int) < (e.length : Int) := by omega
  have i5 : (1 : Int) ≤ (e.length : Int) := by omega
  have i6 : 1 ≤ e.length := by omega
  have i7 : ¬ e = [] := fun h => by rw [h] at h2e; simp at h2e
  have i8 : 0 < e.length := by omega
  generalize hn9 : bndS s e (e.length - 1) = tot at *
  have HTOT := Lib.hid hn9
  clear hn9
  generalize e[0]?.getD 0 = x0 at *
  generalize e[e.length - 1]?.getD 0 = x1 at *
  have sa : w4.drew.cell? ⟨b1, o1, none⟩ = some (.int .i64 x0) ∧ w4.drew.cell? ⟨b1, o1 + (e.length - 1), none⟩ = some (.int .i64 x1) := ⟨hc1, hc2⟩
  have SA := Lib.hid sa
  clear sa
  have hbd : b1 < w4.drew.heap.size := hb1
  have SB : Hid ((w4.drew.alloc (.cells #[Value.int .i64 x0, Value.int .i64 x1] 3)).cell? ⟨b1, o1, none⟩ = some (.int .i64 x0) ∧ (w4.drew.alloc (.cells #[Value.int .i64 x0, Value.int .i64 x1] 3)).cell? ⟨b1, o1 + (e.length - 1), none⟩ = some (.int .i64 x1)) := Lib.hid ⟨by rw [World.cell?_alloc_lt _ _ _ hbd]; exact hc1, by rw [World.cell?_alloc_lt _ _ _ hbd]; exact hc2⟩
  have NL : Hid (Lies (w4.drew.alloc (.cells #[Value.int .i64 x0, Value.int .i64 x1] 3)) (some ⟨w4.drew.heap.size, 0, none⟩) [.int .i64 x0, .int .i64 x1]) := Lib.hid (lies_row (heap_alloc_new _ _))
  have NA : Hid (Lies (w4.drew.alloc (.cells #[Value.int .i64 x0, Value.int .i64 x1] 3)) A (ics s)) := Lib.hid ((Lies.drew LA4.out).alloc _)
  have BN : Hid (Below w4.heap.size w4 (w4.drew.alloc (.cells #[Value.int .i64 x0, Value.int .i64 x1] 3))) := Lib.hid ((Below.refl _ _).drew.alloc (Nat.le_refl _) _)
  go_wp2_with fail
  go_upto_region 8 with (fail)
  go_region_held3 (fun w' => w'.cell? ⟨b1, o1, none⟩ = some (.int .i64 x0) ∧ w'.cell? ⟨b1, o1 + (e.length - 1), none⟩ = some (.int .i64 x1))
    (first | exact SA.out | exact SB.out | exact SC.out)
    (first | (go_at_call 54; refine (Bands_two w4.drew.heap.size A c s x0 x1 _ NA.out NL.out hc hn tot HR2).mono ?_; rintro x wq ⟨bq, cq, rfl, hcq, hbq⟩; have SC : Hid (wq.cell? ⟨b1, o1, none⟩ = some (.int .i64 x0) ∧ wq.cell? ⟨b1, o1 + (e.length - 1), none⟩ = some (.int .i64 x1)) := Lib.hid ⟨(hbq.cell (p := ⟨b1, o1, none⟩) (by simp; omega)).trans SB.out.1, (hbq.cell (p := ⟨b1, o1 + (e.length - 1), none⟩) (by simp; omega)).trans SB.out.2⟩; have BQ := Lib.hid (BN.out.trans (hbq.mono BN.out.size)); clear hbq))
  have hbq := BQ.out
  clear BQ BN NL NA SA SB SC p1 i1 i2 i3 i4 i5 i6 i7 i8 hc1 hc2
  have LA5 : Hid (Lies wq A (ics s)) := Lib.hid (LA4.out.below hbq)
  have LB5 : Hid (Lies wq (some ⟨b1, o1, none⟩) (ics e)) := Lib.hid (LB4.out.below hbq)
  have P5 : Hid (Lies wq PA1 (ics (bndL s e))) := Lib.hid (P4.out.below hbq)
  have B5 : Hid (Below w.heap.size w wq) := Lib.hid (B4.out.trans (hbq.mono B4.out.size))
  clear hbq LA4 LB4 P4 B4
  go_wp2_with fail
  go_loop [9, 10] (fun t i => ∃ k : Nat, k ≤ (bndL s e).length ∧ i = .int .i64 k ∧ t = .int .i64 (bndS s e k)) (fun _ i => (bndL s e).length - (intOf i).toNat)
  case atStart => exact ⟨0, by omega, rfl, rfl⟩
  case round =>
    obtain ⟨k, hk9, rfl, rfl⟩ := hrel
    by_cases hlt : k < (bndL s e).length
    · obtain ⟨b3, o3, rfl, hb3, hc3⟩ := P5.out.at_ hlt
      rw [bndL_get (by rw [← bndL_length s e]; exact hlt)] at hc3
      have HX : Hid (bndS s e (k + 1) = bndS s e k + bndAt s e k) := Lib.hid rfl
      have z1 := bnd_bd (e := e) ha.out h3 k
      have z2 := bndS_bd (e := e) ha.out h3 k
      have hk70 : k < 70 := by have := NB.out; omega
      generalize bndAt s e k = x at *
      generalize hy : bndS s e k = y at *
      have HY := Lib.hid hy
      clear hy
      have p1 : IntKind.i64.wrap (y + x) = y + x := IntWalk.i64_in _ (by omega)
      go_wp2_with fail
      exact ⟨⟨k + 1, by omega, by go_num, by rw [HX.out]⟩, by simp [intOf]; omega⟩
    · obtain rfl : k = (bndL s e).length := by omega
      have hq : bndS s e (bndL s e).length = tot := by rw [bndL_length]; exact HTOT.out
      rw [hq]
      clear hq
      go_wp2_with fail
      refine (hk _ (hC.below B5.out)).mono ?_
      rintro x w99 ⟨rfl, hb⟩
      go_wp2_with fail
      go_ret
      exact ⟨rfl, B5.out.trans (hb.mono B5.out.size)⟩
theorem FeatureBands_any (A B : Option Addr) (c d : Nat) (s e : List Int) (w : World) (hA : Lies w A (ics s)) (hB : Lies w B (ics e)) (hc : s.length ≤ c) (hn : s.length ≤ 9223372036854775807) (hC : CosOk w) (hk : Kn) :
    Calls Tryd.prog 14 #[.slice A s.length c, .slice B e.length d] w (RetB true w) := by
  by_cases h1 : s.length ≤ 70
  · by_cases h2 : e.length ≤ 70
    · by_cases h3 : s.length ≤ 64
      · cases ha : allR (-16777216) 16777216 s with
        | false => exact FeatureBands_n1 A B c d s e w hA hB hc hn hC hk h1 h2 h3 (Lib.hid ha)
        | true =>
          cases he : edgOk e s.length with
          | false => exact FeatureBands_n2 A B c d s e w hA hB hc hn hC hk h1 h2 h3 (Lib.hid ha) (Lib.hid he)
          | true => exact FeatureBands_ok A B c d s e w hA hB hc hn hC hk h1 h2 h3 (Lib.hid ha) (Lib.hid he)
      · exact FeatureBands_n0 A B c d s e w hA hB hc hn hC hk h1 h2 (by omega)
    · exact FeatureBands_o2 A B c d s e w hA hB hc hn hC hk h1 (by omega)
  · exact FeatureBands_o1 A B c d s e w hA hB hc hn hC hk (by omega)
end Go.Proofs.YtfapmghhmkekaaaDoor
