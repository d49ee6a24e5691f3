/- a part of TalkUnlearns -/
import Derived.Test.YtcjicjfbippmnaaGreatMTU43
import Derived.Test.YtcjicjfbippmnaaGreatMTU40
set_option maxRecDepth 100000
set_option maxHeartbeats 32000000
namespace Go.Proofs.YtcjicjfbippmnaaGreat
open Go.RowKit Ear

theorem sameDigits_any (A B : Option Addr) (c d : Nat) (a b : List Int) (w : World) (hA : Lies w A (ucs a)) (hB : Lies w B (ucs b)) (hn : a.length <= 1000000) (r : Bool) (hr : Hid (decide (a = b) = r)) :
  Calls Tryz.prog 58 #[.slice A a.length c, .slice B b.length d] w fun e w' => e = .returned (.bool r) /\ ∃ n, w' = w.drewN n := by
 by_cases hl : a.length = b.length
 ·rw [<- hl]
  have HL := zH hl
  clear hl
  go_enter Tryz.func58, Tryz.ntmps58
  go_wp2_with fail
  go_loopw [5] (fun i wr => ∃ k : Nat, k <= a.length /\ i = .int .i64 k /\ Hid (∀ j, j < k -> a[j]?.getD 0 = b[j]?.getD 0) /\ ∃ n, wr = w.drewN n) (fun i _ => a.length - (intOf i).toNat)
  case atStart => exact ⟨0, by omega, rfl, zH (fun j hj => by omega), 0, rfl⟩
  case round =>
   obtain ⟨k, hk, rfl, HE, n, hwd⟩ := hrel
   have L1 : Lies wr A (ucs a) := by rw [hwd]; exact hA.drewN n
   have L2 : Lies wr B (ucs b) := by rw [hwd]; exact hB.drewN n
   have WD := zH hwd
   clear hwd
   by_cases hlt : k < a.length
   ·obtain ⟨b1, o1, rfl, hb1, hc1⟩ := L1.uat hlt
    obtain ⟨b2, o2, rfl, hb2, hc2⟩ := L2.uat (k := k) (by rw [<- HL.out]; exact hlt)
    by_cases he : a[k]?.getD 0 = b[k]?.getD 0
    ·have HN : Hid (∀ j, j < k + 1 -> a[j]?.getD 0 = b[j]?.getD 0) := zH (fun j hj => by
      rcases Nat.lt_or_ge j k with h | h
      ·exact HE.out j h
      ·obtain rfl : j = k := by omega
       exact he)
     rw [<- he] at hc2
     clear he
     generalize a[k]?.getD 0 = x at *
     go_wp2_with fail
     go_quiet (fail)
     go_wp2_with fail
     exact ⟨⟨k + 1, by omega, by go_num, HN, by rw [WD.out]; exact drewN_ex _ _ _⟩, by simp [intOf]; omega⟩
    ·have HR : Hid (r = false) := zH (by rw [<- hr.out]; exact decide_eq_false (fun e => he (by rw [e])))
     generalize a[k]?.getD 0 = x at *
     generalize b[k]?.getD 0 = y at *
     have q : (x != y) = true := by simpa using he
     go_wp2_with fail
     go_quiet (fail)
     go_wp2_with fail
     go_ret
     exact ⟨ret_bool (by rw [HR.out]), by rw [WD.out]; exact drewN_ex _ _ _⟩
   ·obtain rfl : k = a.length := by omega
    have HR : Hid (r = true) := zH (by
     rw [<- hr.out]
     refine decide_eq_true (List.ext_getElem HL.out fun j h1 h2 => ?_)
     have := HE.out j h1
     rw [List.getElem?_eq_getElem h1, List.getElem?_eq_getElem h2] at this
     simpa using this)
    go_wp2_with fail
    go_ret
    exact ⟨ret_bool (by rw [HR.out]), n, WD.out⟩
 ·have HR : Hid (r = false) := zH (by rw [<- hr.out]; exact decide_eq_false (fun e => hl (by rw [e])))
  have q : ((a.length : Int) != (b.length : Int)) = true := by simp; omega
  go_enter Tryz.func58, Tryz.ntmps58
  go_wp2_with fail
  go_ret
  exact ⟨ret_bool (by rw [HR.out]), 0, rfl⟩
theorem den_inj {d e : Nat} (hd : d ≠ 0) (he : e ≠ 0) (h : den d = den e) : d = e := by
 unfold den at h
 split at h <;> split at h
 ·omega
 ·exact absurd (nd_nil.1 h.symm) he
 ·exact absurd (nd_nil.1 h) hd
 ·exact nd_inj h
theorem fq_same {w : World} {x y : Fr} {p q : Rat} (hx : Fq w x p) (hy : Fq w y q) : p = q ↔ x.neg = y.neg /\ x.N = y.N /\ x.D = y.D := by
 constructor
 ·rintro rfl
  exact ⟨by rw [hx.neg, hy.neg], by rw [hx.num, hy.num], by rw [hx.dn, hy.dn]⟩
 ·rintro ⟨h1, h2, h3⟩
  rw [hx.neg, hy.neg] at h1
  rw [hx.num, hy.num] at h2
  rw [hx.dn, hy.dn] at h3
  rw [<- fq_canon p, <- fq_canon q, h1, nd_inj h2, den_inj p.den_nz q.den_nz h3]
theorem rqSame_any (x y : Fr) (p q : Rat) (w : World) (hx : Fq w x p) (hy : Fq w y q) (fx : Few x 1000000) (r : Bool) (hr : Hid (decide (p = q) = r)) : Calls Tryz.prog 17 #[x.val, y.val] w fun e w' => e = .returned (.bool r) /\ Below w.heap.size w w' := by
 have HS : Hid ((p = q) ↔ x.neg = y.neg /\ x.N = y.N /\ x.D = y.D) := zH (fq_same hx hy)
 obtain ⟨W, hW⟩ : ∃ W : World, W = (w.alloc (.cells #[.bool x.neg, .slice x.A x.N.length x.c, .slice x.B x.D.length x.d] 28)).alloc (.cells #[.bool y.neg, .slice y.A y.N.length y.c, .slice y.B y.D.length y.d] 28) := ⟨_, rfl⟩
 have HB0 : Hid (Below w.heap.size w W) := zH (by rw [hW]; exact al2 w _ _)
 have HX := (hx.below HB0.out).ok
 have HY := (hy.below HB0.out).ok
 have S1 := zH (fun n => sameDigits_any x.A y.A x.c y.c x.N y.N (W.drewN n) (HX.n.below (below_drewN' _ _)).lies (HY.n.below (below_drewN' _ _)).lies fx.n (decide (x.N = y.N)) (zH rfl))
 have S2 := zH (fun n => sameDigits_any x.B y.B x.d y.d x.D y.D (W.drewN n) (HX.d.below (below_drewN' _ _)).lies (HY.d.below (below_drewN' _ _)).lies fx.d (decide (x.D = y.D)) (zH rfl))
 have HC : Hid (∀ n, ((W.drewN n).cell? ⟨w.heap.size, 2, none⟩ = some (.slice x.B x.D.length x.d) /\ (W.drewN n).cell? ⟨w.heap.size + 1, 2, none⟩ = some (.slice y.B y.D.length y.d))) := zH (fun n => by
  show W.cell? _ = _ /\ W.cell? _ = _
  rw [hW]
  simp [go_sem])
 obtain ⟨xn, xA, xc, xN, xB, xd, xD⟩ := x
 obtain ⟨yn, yA, yc, yN, yB, yd, yD⟩ := y
 simp only at HS S1 S2 HC
 clear hx hy HX HY fx
 by_cases h1 : xn = yn
 ·subst h1
  have q1 : (xn == xn) = true := by simp
  by_cases h2 : xN = yN
  ·have HR : Hid (r = decide (xD = yD)) := zH (by rw [<- hr.out, decide_eq_decide, HS.out]; simp [h2])
   have d2 : decide (xN = yN) = true := decide_eq_true h2
   rw [d2] at S1
   have Z1 := zH (S1.out 0)
   clear HS hr h2 d2 S1
   go_enter Tryz.func17, Tryz.ntmps17
   go_wp2_with fail
   rw [<- hW]
   clear hW
   refine Z1.out.mono ?_
   rintro e w' ⟨rfl, n, rfl⟩
   have Z2 := zH (S2.out n)
   obtain ⟨c1, c2⟩ := HC.out n
   have B2 : Hid (Below w.heap.size w (W.drewN n)) := zH (HB0.out.trans (below_drewN' _ _))
   clear Z1 S2 HC
   change Hid (Calls _ _ _ (W.drewN n) _) at Z2
   generalize hWn : (W.drewN 0).drewN n = Wn at *
   have e0 : Wn = W.drewN n := hWn.symm.trans (by rw [World.drewN_drewN]; simp)
   rw [<- e0] at Z2 c1 c2 B2
   clear hWn e0
   go_wp2_with fail
   refine Z2.out.mono ?_
   rintro e w' ⟨rfl, m, rfl⟩
   go_wp2_with fail
   go_ret
   exact ⟨ret_bool (by rw [HR.out]), B2.out.trans (below_drewN' _ _)⟩
  ·have HR : Hid (r = false) := zH (by rw [<- hr.out]; exact decide_eq_false (fun e => h2 (HS.out.1 e).2.1))
   have d2 : decide (xN = yN) = false := decide_eq_false h2
   rw [d2] at S1
   have Z1 := zH (S1.out 0)
   clear HS hr h2 d2 S1 S2 HC
   go_enter Tryz.func17, Tryz.ntmps17
   go_wp2_with fail
   rw [<- hW]
   clear hW
   refine Z1.out.mono ?_
   rintro e w' ⟨rfl, n, rfl⟩
   go_wp2_with fail
   go_ret
   exact ⟨ret_bool (by rw [HR.out]), HB0.out.trans (below_drewN' _ _)⟩
 ·have HR : Hid (r = false) := zH (by rw [<- hr.out]; exact decide_eq_false (fun e => h1 (HS.out.1 e).1))
  have q1 : (xn == yn) = false := by simpa using h1
  clear HS hr h1 S1 S2 HC hW
  go_enter Tryz.func17, Tryz.ntmps17
  go_wp2_with fail
  go_ret
  exact ⟨ret_bool (by rw [HR.out]), al2 w _ _⟩
theorem row4 {t : TypeId} {w : World} {k : Nat} {u0 u1 u2 u3 : Value} (h : w.heap[k]? = some (.cells #[u0, u1, u2, u3] t (0, 0))) (v0 v1 v2 v3 : Value) : ((((w.setCell ⟨k, 0, none⟩ v0).setCell ⟨k, 1, none⟩ v1).setCell ⟨k, 2, none⟩ v2).setCell ⟨k, 3, none⟩ v3).heap[k]? = some (.cells #[v0, v1, v2, v3] t (0, 0)) := by
 simp [World.setCell, Array.getElem?_modify, h]
theorem kv_quart : fq (decide ((1 : Int) < 0) != decide ((4 : Int) < 0)) (1 : Int).natAbs (4 : Int).natAbs = mkRat 1 4 := by decide +kernel
theorem kv_three : fq (decide ((3 : Int) < 0) != decide ((4 : Int) < 0)) (3 : Int).natAbs (4 : Int).natAbs = mkRat 3 4 := by decide +kernel
theorem sz_one {q : Rat} (h1 : qn q < 4294967296) (h2 : q.den < 4294967296) : Sz q 90000 :=
 ⟨Nat.le_trans (nd_len_le (k := 1) (by simpa using h1)) (by decide), Nat.le_trans (nd_len_le (k := 1) (by simpa using h2)) (by decide)⟩
theorem _root_.Go.RowKit.Below.heap_cell4 (V : World) {g : Nat} {v0 v1 v2 v3 : Value} (b k : Nat) (hb : b ≠ g) : ((((V.setCell ⟨g, 0, none⟩ v0).setCell ⟨g, 1, none⟩ v1).setCell ⟨g, 2, none⟩ v2).setCell ⟨g, 3, none⟩ v3).cell? ⟨b, k, none⟩ = V.cell? ⟨b, k, none⟩ :=
 World.cell?_of_block (a := ⟨b, k, none⟩) (by rw [Below.heap_setCell _ _ _ b hb, Below.heap_setCell _ _ _ b hb, Below.heap_setCell _ _ _ b hb, Below.heap_setCell _ _ _ b hb])
theorem lplan_any (w : World) : Calls Tryz.prog 54 #[] w fun e w' => ∃ A s, e = .returned (.agg #[.slice A 1 1, .int .i64 1, .int .i64 10, .int .i64 4]) /\ PlM w' A [s] kPs /\ s.nm = ⟨#[99, 111, 108, 111, 114]⟩ /\ s.vs = [redB, blueB] /\ Below w.heap.size w w' := by
 obtain ⟨W, hW⟩ : ∃ W : World, W = (w.alloc (.cells #[.slice none 0 0, .int .i64 0, .int .i64 0, .int .i64 0] 48)).alloc (.cells #[.string ⟨#[114, 101, 100]⟩, .string ⟨#[98, 108, 117, 101]⟩] 9) := ⟨_, rfl⟩
 have HB0 : Hid (Below w.heap.size w W) := zH (by rw [hW]; exact al2 w _ _)
 have HX0 : Hid (W.heap[w.heap.size]? = some (.cells #[.slice none 0 0, .int .i64 0, .int .i64 0, .int .i64 0] 48 (0, 0))) := zH (by rw [hW]; exact two_fst _ _ _)
 have HX1 : Hid (W.heap[w.heap.size + 1]? = some (.cells #[.string ⟨#[114, 101, 100]⟩, .string ⟨#[98, 108, 117, 101]⟩] 9 (0, 0))) := zH (by rw [hW]; exact two_snd _ _ _)
 go_enter Tryz.func54, Tryz.ntmps54
 go_wp2_with fail
 rw [<- hW]
 clear hW
 refine (rqMake_any 1 4 W (by decide) (by decide) (by decide) (by decide)).mono ?_
 rintro e w1 ⟨x, rfl, hx, hb1⟩
 rw [kv_quart] at hx
 have HB1 := zH (HB0.out.trans (hb1.mono HB0.out.size))
 have HR0 : Hid (w1.heap[w.heap.size]? = _) := zH ((hb1.block _ (Array.getElem?_eq_some_iff.1 HX0.out).1).trans HX0.out)
 have HR1 : Hid (w1.heap[w.heap.size + 1]? = _) := zH ((hb1.block _ (Array.getElem?_eq_some_iff.1 HX1.out).1).trans HX1.out)
 have HFX := zH hx
 clear hx hb1 HX0 HX1 HB0
 go_wp2_with fail
 refine (rqMake_any 3 4 w1 (by decide) (by decide) (by decide) (by decide)).mono ?_
 rintro e w2 ⟨y, rfl, hy, hb2⟩
 rw [kv_three] at hy
 have HB2 := zH (HB1.out.trans (hb2.mono HB1.out.size))
 have HS0 : Hid (w2.heap[w.heap.size]? = _) := zH ((hb2.block _ (Array.getElem?_eq_some_iff.1 HR0.out).1).trans HR0.out)
 have HS1 : Hid (w2.heap[w.heap.size + 1]? = _) := zH ((hb2.block _ (Array.getElem?_eq_some_iff.1 HR1.out).1).trans HR1.out)
 have HFX2 := zH (HFX.out.below hb2)
 have HFY := zH hy
 clear hy hb2 HR0 HR1 HB1 HFX
 obtain ⟨V, hV⟩ : ∃ V : World, V = w2.alloc (.cells #[.string ⟨#[99, 111, 108, 111, 114]⟩, .slice (some ⟨w.heap.size + 1, 0, none⟩) 2 2, .bool x.neg, .slice x.A x.N.length x.c, .slice x.B x.D.length x.d, .bool y.neg, .slice y.A y.N.length y.c, .slice y.B y.D.length y.d] 79) := ⟨_, rfl⟩
 have HBV : Hid (Below w2.heap.size w2 V) := zH (by rw [hV]; exact (Below.refl _ _).alloc (Nat.le_refl _) _)
 have HV0 : Hid (V.heap[w.heap.size]? = _) := zH ((HBV.out.block _ (Array.getElem?_eq_some_iff.1 HS0.out).1).trans HS0.out)
 have HV1 : Hid (V.heap[w.heap.size + 1]? = _) := zH ((HBV.out.block _ (Array.getElem?_eq_some_iff.1 HS1.out).1).trans HS1.out)
 have HV2 : Hid (V.heap[w2.heap.size]? = some (.cells #[.string ⟨#[99, 111, 108, 111, 114]⟩, .slice (some ⟨w.heap.size + 1, 0, none⟩) 2 2, .bool x.neg, .slice x.A x.N.length x.c, .slice x.B x.D.length x.d, .bool y.neg, .slice y.A y.N.length y.c, .slice y.B y.D.length y.d] 79 (0, 0))) := zH (by rw [hV]; exact heap_alloc_new w2 _)
 have HFX3 := zH (HFX2.out.below HBV.out)
 have HFY3 := zH (HFY.out.below HBV.out)
 have HB3 := zH (HB2.out.trans (HBV.out.mono HB2.out.size))
 have hs2 := HB2.out.size
 have hs1 : w.heap.size + 1 < w2.heap.size := (Array.getElem?_eq_some_iff.1 HS1.out).1
 clear HFX2 HFY HB2 HS0 HS1 HBV
 have f0 := rowfz HV0.out 0
 have f1 := rowfz HV0.out 1
 have f2 := rowfz HV0.out 2
 have f3 := rowfz HV0.out 3
 have c0 : V.cell? ⟨w.heap.size, 0, none⟩ = some (.slice none 0 0) := (cell_of_row _ _ 0 _ _ _ HV0.out).trans rfl
 have c1 : V.cell? ⟨w.heap.size, 1, none⟩ = some (.int .i64 0) := (cell_of_row _ _ 1 _ _ _ HV0.out).trans rfl
 have c2 : V.cell? ⟨w.heap.size, 2, none⟩ = some (.int .i64 0) := (cell_of_row _ _ 2 _ _ _ HV0.out).trans rfl
 have c3 : V.cell? ⟨w.heap.size, 3, none⟩ = some (.int .i64 0) := (cell_of_row _ _ 3 _ _ _ HV0.out).trans rfl
 rw [hV] at f0 f1 f2 f3 c0 c1 c2 c3
 go_wp2_with fail
 rw [<- hV]
 clear hV f0 f1 f2 f3 c0 c1 c2 c3
 have hr4 := row4 HV0.out (.slice (some ⟨w2.heap.size, 0, none⟩) 1 1) (.int .i64 1) (.int .i64 10) (.int .i64 4)
 have g0 := (cell_of_row _ _ 0 _ _ _ hr4).trans rfl
 have g1 := (cell_of_row _ _ 1 _ _ _ hr4).trans rfl
 have g2 := (cell_of_row _ _ 2 _ _ _ hr4).trans rfl
 have g3 := (cell_of_row _ _ 3 _ _ _ hr4).trans rfl
 refine bodyPost_ret (v := .agg #[.slice (some ⟨w2.heap.size, 0, none⟩) 1 1, .int .i64 1, .int .i64 10, .int .i64 4]) (by simp [results, Tryz.results54, go_sem, g0, g1, g2, g3]) rfl ?_
 refine ⟨some ⟨w2.heap.size, 0, none⟩, ⟨⟨#[99, 111, 108, 111, 114]⟩, some ⟨w.heap.size + 1, 0, none⟩, 2, [redB, blueB], x, y⟩, rfl, ⟨?_, rfl, ?_⟩, rfl, rfl, (((HB3.out.setCell (Nat.le_refl _) _).setCell (Nat.le_refl _) _).setCell (Nat.le_refl _) _).setCell (Nat.le_refl _) _⟩
 ·have hb : ∀ b, b ≠ w.heap.size -> (((( V.setCell ⟨w.heap.size, 0, none⟩ (.slice (some ⟨w2.heap.size, 0, none⟩) 1 1)).setCell ⟨w.heap.size, 1, none⟩ (.int .i64 1)).setCell ⟨w.heap.size, 2, none⟩ (.int .i64 10)).setCell ⟨w.heap.size, 3, none⟩ (.int .i64 4)).heap[b]? = V.heap[b]? := fun b hb => by
   rw [Below.heap_setCell _ _ _ b hb, Below.heap_setCell _ _ _ b hb, Below.heap_setCell _ _ _ b hb, Below.heap_setCell _ _ _ b hb]
  exact fun _ => ⟨w2.heap.size, 0, rfl, by simp [World.setCell]; exact (Array.getElem?_eq_some_iff.1 HV2.out).1, fun k v hk => by
   rw [Nat.zero_add, World.cell?_of_block (a := ⟨w2.heap.size, k, none⟩) (hb w2.heap.size (by omega)), cell_of_row _ _ k _ _ _ HV2.out]
   simpa [slcs, slc] using hk⟩
 ·intro k s P h1 h2
  cases k with
  | succ k => simp at h1
  | zero =>
   simp only [List.getElem?_cons_zero, Option.some.injEq, kPs] at h1 h2
   subst h1 h2
   have hku : KU V ((((V.setCell ⟨w.heap.size, 0, none⟩ (.slice (some ⟨w2.heap.size, 0, none⟩) 1 1)).setCell ⟨w.heap.size, 1, none⟩ (.int .i64 1)).setCell ⟨w.heap.size, 2, none⟩ (.int .i64 10)).setCell ⟨w.heap.size, 3, none⟩ (.int .i64 4)) :=
    KU.sets [.slice (some ⟨w2.heap.size, 0, none⟩) 1 1, .int .i64 1, .int .i64 10, .int .i64 4] 0 V (fun j hj => by
     match j, hj with
     | 0, _ => exact ⟨_, (cell_of_row _ _ 0 _ _ _ HV0.out).trans rfl, by intro n h; cases h⟩
     | 1, _ => exact ⟨_, (cell_of_row _ _ 1 _ _ _ HV0.out).trans rfl, by intro n h; cases h⟩
     | 2, _ => exact ⟨_, (cell_of_row _ _ 2 _ _ _ HV0.out).trans rfl, by intro n h; cases h⟩
     | 3, _ => exact ⟨_, (cell_of_row _ _ 3 _ _ _ HV0.out).trans rfl, by intro n h; cases h⟩)
   have hFX := HFX3.out.ku hku
   have hFY := HFY3.out.ku hku
   refine ⟨rfl, rfl, fun _ => ⟨w.heap.size + 1, 0, rfl, by simp [World.setCell]; exact (Array.getElem?_eq_some_iff.1 HV1.out).1, fun k v hk => ?_⟩, (fun e => by cases e), hFX.fv, hFY.fv, hFX.few (sz_one (by decide +kernel) (by decide +kernel)), hFY.few (sz_one (by decide +kernel) (by decide +kernel))⟩
   rw [Nat.zero_add, Below.heap_cell4 V (w.heap.size + 1) k (by omega), cell_of_row _ _ k _ _ _ HV1.out]
   simpa [redB, blueB] using hk
theorem ll_one {w : World} {S : Option Addr} {sc : Nat} {s : List Int} (h : InOk w (S, sc, s)) : LL (w.alloc (.cells #[.slice S s.length sc] 40)) (some ⟨w.heap.size, 0, none⟩) [(S, sc, s)] :=
 ⟨lies_new _ _ _, fun y hy => by
  simp at hy
  subst hy
  exact h.alloc _⟩
def senR (v : Int) (s : List Int) : Int := if 500 < s.length then 5 else if allR 1 v s = true then 0 else 2
theorem Count_bad (o v : Int) (A : Option Addr) (c : Nat) (x : Inn) (w : World) (h : LL w A [x]) (hz : sizedB o v = true) (r : Int) (hr : Hid (senR v x.2.2 = r)) (h0 : r ≠ 0) :
  Calls Tryz.prog 103 #[.int .i64 o, .int .i64 v, .slice A 1 c] w fun e w' => e = .returned (.tuple #[.agg #[.int .i64 0, .int .i64 0, .slice none 0 0], .int .i64 r]) /\ Below w.heap.size w w' := by
 obtain ⟨W0, hW0⟩ : ∃ W0 : World, W0 = (w.alloc (.cells #[.int .i64 v] 3)).alloc (.cells #[.int .i64 0, .int .i64 0, .slice none 0 0] 84) := ⟨_, rfl⟩
 have hs0 : W0.heap.size = w.heap.size + 2 := by rw [hW0]; simp
 have HB0 : Hid (Below w.heap.size w W0) := zH (by rw [hW0]; exact al2 w _ _)
 have HV : Hid (W0.heap[w.heap.size]? = some (.cells #[.int .i64 v] 3 (0, 0))) := zH (by rw [hW0]; exact (Below.heap_alloc _ _ _ (by simp)).trans (heap_alloc_new w _))
 have HT6 : Hid (W0.heap[w.heap.size + 1]? = some (.cells #[.int .i64 0, .int .i64 0, .slice none 0 0] 84 (0, 0))) := zH (by rw [hW0]; have := heap_alloc_new (w.alloc (.cells #[.int .i64 v] 3)) (.cells #[.int .i64 0, .int .i64 0, .slice none 0 0] 84); simpa using this)
 have HLL := zH (h.below HB0.out)
 clear h
 by_cases hl : 500 < x.2.2.length
 ·have e : r = 5 := by rw [<- hr.out]; unfold senR; rw [if_pos hl]
  subst e
  go_enter Tryz.func103, Tryz.ntmps103
  go_wp2_with fail
  rw [<- hW0]
  clear hW0
  refine (ContainsII_any 154 #[] _ A c [x] W0 (tooLong_pred [x] W0) HLL.out (by simp) true (zH (by simp; omega))).mono ?_
  rintro e W1 ⟨rfl, hb1⟩
  have HB1 := zH (HB0.out.trans (hb1.mono HB0.out.size))
  have HT1 : Hid (W1.heap[w.heap.size + 1]? = some (.cells #[.int .i64 0, .int .i64 0, .slice none 0 0] 84 (0, 0))) := zH ((hb1.block _ (by omega)).trans HT6.out)
  clear hb1
  have d0 := (cell_of_row _ _ 0 _ _ _ HT1.out).trans rfl
  have d1 := (cell_of_row _ _ 1 _ _ _ HT1.out).trans rfl
  have d2 := (cell_of_row _ _ 2 _ _ _ HT1.out).trans rfl
  have f0 := rowfz HT1.out 0
  have f1 := rowfz HT1.out 1
  have f2 := rowfz HT1.out 2
  go_wp2_with fail
  have hr6 := row3 HT1.out (.int .i64 0) (.int .i64 0) (.slice none 0 0)
  have g0 := (cell_of_row _ _ 0 _ _ _ hr6).trans rfl
  have g1 := (cell_of_row _ _ 1 _ _ _ hr6).trans rfl
  have g2 := (cell_of_row _ _ 2 _ _ _ hr6).trans rfl
  refine bodyPost_ret (v := .tuple #[.agg #[.int .i64 0, .int .i64 0, .slice none 0 0], .int .i64 5]) (by simp [results, Tryz.results103, go_sem, g0, g1, g2]) rfl ?_
  exact ⟨rfl, ((HB1.out.setCell (by show _ <= w.heap.size + 1; omega) _).setCell (by show _ <= w.heap.size + 1; omega) _).setCell (by show _ <= w.heap.size + 1; omega) _⟩
 ·have ha : allR 1 v x.2.2 = false := by
   cases ha : allR 1 v x.2.2 with
   | false => rfl
   | true =>
    exfalso
    apply h0
    rw [<- hr.out]
    unfold senR
    rw [if_neg hl, if_pos ha]
  have e : r = 2 := by rw [<- hr.out]; unfold senR; rw [if_neg hl, if_neg (by rw [ha]; decide)]
  subst e
  have HA := zH ha
  clear ha
  go_enter Tryz.func103, Tryz.ntmps103
  go_wp2_with fail
  rw [<- hW0]
  clear hW0
  refine (ContainsII_any 154 #[] _ A c [x] W0 (tooLong_pred [x] W0) HLL.out (by simp) false (zH (by simp; omega))).mono ?_
  rintro e W1 ⟨rfl, hb1⟩
  have HB1 := zH (HB0.out.trans (hb1.mono HB0.out.size))
  have HT1 : Hid (W1.heap[w.heap.size + 1]? = some (.cells #[.int .i64 0, .int .i64 0, .slice none 0 0] 84 (0, 0))) := zH ((hb1.block _ (by omega)).trans HT6.out)
  have HV1 : Hid (W1.heap[w.heap.size]? = some (.cells #[.int .i64 v] 3 (0, 0))) := zH ((hb1.block _ (by omega)).trans HV.out)
  have cv1 : W1.cell? ⟨w.heap.size, 0, none⟩ = some (.int .i64 v) := (cell_of_row _ _ 0 _ _ _ HV1.out).trans rfl
  have HLL1 := zH (HLL.out.below hb1)
  have hs1 : W0.heap.size <= W1.heap.size := hb1.size
  clear hb1
  go_wp2_with fail
  refine (gsized_any o v W1 true (zH hz)).mono ?_
  rintro e W1' ⟨rfl, rfl⟩
  go_wp2_with fail
  refine (ContainsII_any 155 #[.pointer (some ⟨w.heap.size, 0, none⟩)] _ A c [x] W1 (Count1_pred [x] W1 v w.heap.size (fun y hy => HLL1.out.inn y hy) cv1 (by omega)) HLL1.out (by simp) true (zH (by simp [HA.out]))).mono ?_
  rintro e W2 ⟨rfl, hb2⟩
  have HB2 := zH (HB1.out.trans (hb2.mono HB1.out.size))
  have HT2 : Hid (W2.heap[w.heap.size + 1]? = some (.cells #[.int .i64 0, .int .i64 0, .slice none 0 0] 84 (0, 0))) := zH ((hb2.block _ (by omega)).trans HT1.out)
  clear hb2 cv1
  have d0 := (cell_of_row _ _ 0 _ _ _ HT2.out).trans rfl
  have d1 := (cell_of_row _ _ 1 _ _ _ HT2.out).trans rfl
  have d2 := (cell_of_row _ _ 2 _ _ _ HT2.out).trans rfl
  have f0 := rowfz HT2.out 0
  have f1 := rowfz HT2.out 1
  have f2 := rowfz HT2.out 2
  go_wp2_with fail
  have hr6 := row3 HT2.out (.int .i64 0) (.int .i64 0) (.slice none 0 0)
  have g0 := (cell_of_row _ _ 0 _ _ _ hr6).trans rfl
  have g1 := (cell_of_row _ _ 1 _ _ _ hr6).trans rfl
  have g2 := (cell_of_row _ _ 2 _ _ _ hr6).trans rfl
  refine bodyPost_ret (v := .tuple #[.agg #[.int .i64 0, .int .i64 0, .slice none 0 0], .int .i64 2]) (by simp [results, Tryz.results103, go_sem, g0, g1, g2]) rfl ?_
  exact ⟨rfl, ((HB2.out.setCell (by show _ <= w.heap.size + 1; omega) _).setCell (by show _ <= w.heap.size + 1; omega) _).setCell (by show _ <= w.heap.size + 1; omega) _⟩
theorem Correct_bad (base p cap o : Nat) (v : Int) (B : Option Addr) (Ts : List TT) (t : TT) (S : Option Addr) (sc : Nat) (s : List Int) (n : Int) (w : World) (h : LrI w base p B cap (Ts ++ [t])) (hto : t.o = o) (htv : t.v = v) (hI : InOk w (S, sc, s)) (hT : Ts.length <= 200) (r : Int) (hr : Hid (senR v s = r)) (h0 : r ≠ 0) :
  Calls Tryz.prog 43 #[.pointer (some ⟨p, 0, none⟩), .slice S s.length sc, .int .i64 n] w fun e w' => e = .returned (.int .i64 r) /\ Below w.heap.size w w' := by
 have H := zH h
 have hlen : (Ts ++ [t]).length = Ts.length + 1 := by simp
 have hat := H.out.at_
 rw [hlen] at hat
 have HAT := zH hat
 have HT := zH (H.out.tab t (by simp))
 have HI := zH hI
 have HZ := zH (tabR_ok.1 HT.out.ok).2.1
 obtain ⟨xo, xv, xA, xc, xL⟩ := t
 simp only at hto htv
 subst hto htv
 clear h hat hI hlen
 have hf0 := fun W => table_field0 o xv xA xL.length xc W
 have hf1 := fun W => table_field1 o xv xA xL.length xc W
 have q0 : (r != 0) = true := by simp [h0]
 go_enter Tryz.func43, Tryz.ntmps43
 go_wp2_with fail
 refine (lready_any p (Ts.length + 1) cap B w HAT.out (by omega)).mono ?_
 rintro e w' ⟨rfl, rfl⟩
 go_wp2_with fail
 refine (tnow_any p cap B Ts _ w' HAT.out H.out.tts (by omega)).mono ?_
 rintro e W1 ⟨rfl, hb1⟩
 have HB1 := zH hb1
 have H1 := zH (H.out.below hb1)
 have HAT1 := zH ((hb1.cell (p := ⟨p, 0, none⟩) (cell_lt HAT.out)).trans HAT.out)
 clear hb1
 unfold TT.val
 go_wp2_with fail
 refine (tnow_any p cap B Ts _ W1 HAT1.out H1.out.tts (by omega)).mono ?_
 rintro e W2 ⟨rfl, hb2⟩
 have HB2 := zH (HB1.out.trans (hb2.mono HB1.out.size))
 have HI2 := zH (HI.out.below HB2.out)
 clear hb2
 unfold TT.val
 go_wp2_with fail
 obtain ⟨W3, hW3⟩ : ∃ W3 : World, W3 = W2.alloc (.cells #[.slice S s.length sc] 40) := ⟨_, rfl⟩
 rw [<- hW3]
 have HB3 : Hid (Below w'.heap.size w' W3) := zH (by rw [hW3]; exact HB2.out.alloc HB2.out.size _)
 have HLL : Hid (LL W3 (some ⟨W2.heap.size, 0, none⟩) [(S, sc, s)]) := zH (by rw [hW3]; exact ll_one HI2.out)
 clear hW3
 refine (Count_bad o xv (some ⟨W2.heap.size, 0, none⟩) 1 (S, sc, s) W3 HLL.out HZ.out r hr h0).mono ?_
 rintro e W4 ⟨rfl, hb4⟩
 have HB4 := zH (HB3.out.trans (hb4.mono HB3.out.size))
 clear hb4
 go_wp2_with fail
 go_ret
 exact ⟨rfl, HB4.out.alloc HB4.out.size _⟩
theorem Correct_times (base p cap o : Nat) (v : Int) (B : Option Addr) (Ts : List TT) (t : TT) (S : Option Addr) (sc : Nat) (s : List Int) (n : Int) (w : World) (h : LrI w base p B cap (Ts ++ [t])) (hto : t.o = o) (htv : t.v = v) (hI : InOk w (S, sc, s)) (hs : s.length <= 500) (ha : allR 1 v s = true) (hT : Ts.length <= 200) (hn : ¬ (1 <= n /\ n <= 1000)) :
  Calls Tryz.prog 43 #[.pointer (some ⟨p, 0, none⟩), .slice S s.length sc, .int .i64 n] w fun e w' => e = .returned (.int .i64 2) /\ Below w.heap.size w w' := by
 have H := zH h
 have hlen : (Ts ++ [t]).length = Ts.length + 1 := by simp
 have hat := H.out.at_
 rw [hlen] at hat
 have HAT := zH hat
 have HT := zH (H.out.tab t (by simp))
 have HI := zH hI
 have HZ := zH (tabR_ok.1 HT.out.ok).2.1
 obtain ⟨xo, xv, xA, xc, xL⟩ := t
 simp only at hto htv
 subst hto htv
 clear h hat hI hlen
 have hf0 := fun W => table_field0 o xv xA xL.length xc W
 have hf1 := fun W => table_field1 o xv xA xL.length xc W
 go_enter Tryz.func43, Tryz.ntmps43
 go_wp2_with fail
 refine (lready_any p (Ts.length + 1) cap B w HAT.out (by omega)).mono ?_
 rintro e w' ⟨rfl, rfl⟩
 go_wp2_with fail
 refine (tnow_any p cap B Ts _ w' HAT.out H.out.tts (by omega)).mono ?_
 rintro e W1 ⟨rfl, hb1⟩
 have HB1 := zH hb1
 have H1 := zH (H.out.below hb1)
 have HAT1 := zH ((hb1.cell (p := ⟨p, 0, none⟩) (cell_lt HAT.out)).trans HAT.out)
 clear hb1
 unfold TT.val
 go_wp2_with fail
 refine (tnow_any p cap B Ts _ W1 HAT1.out H1.out.tts (by omega)).mono ?_
 rintro e W2 ⟨rfl, hb2⟩
 have HB2 := zH (HB1.out.trans (hb2.mono HB1.out.size))
 have HI2 := zH (HI.out.below HB2.out)
 clear hb2
 unfold TT.val
 go_wp2_with fail
 obtain ⟨W3, hW3⟩ : ∃ W3 : World, W3 = W2.alloc (.cells #[.slice S s.length sc] 40) := ⟨_, rfl⟩
 rw [<- hW3]
 have HB3 : Hid (Below w'.heap.size w' W3) := zH (by rw [hW3]; exact HB2.out.alloc HB2.out.size _)
 have HLL : Hid (LL W3 (some ⟨W2.heap.size, 0, none⟩) [(S, sc, s)]) := zH (by rw [hW3]; exact ll_one HI2.out)
 have ho12 := sizedB_iff.1 HZ.out
 clear hW3
 refine (Count_one o xv (some ⟨W2.heap.size, 0, none⟩) 1 (S, sc, s) W3 HLL.out (by omega) (by omega) HZ.out hs ha).mono ?_
 rintro e W4 ⟨hb4, hret⟩
 rw [if_pos (colR_cnt o s hs)] at hret
 obtain ⟨A1, c1, L1, rfl, -, -, -⟩ := hret
 have HB4 := zH (HB3.out.trans (hb4.mono HB3.out.size))
 clear hb4 ho12
 by_cases h1 : n < 1
 ·go_wp2_with fail
  go_ret
  exact ⟨rfl, HB4.out.alloc HB4.out.size _⟩
 ·have h2 : 1000 < n := by omega
  go_wp2_with fail
  go_ret
  exact ⟨rfl, HB4.out.alloc HB4.out.size _⟩
theorem ttcs_snoc (Ts : List TT) (t : TT) : ttcs (Ts ++ [t]) = ttcs Ts ++ [.int .i64 t.o, .int .i64 t.v, .slice t.A t.L.length t.c] := by simp [ttcs]
theorem Undo_ok (base p cap : Nat) (B : Option Addr) (Ts : List TT) (t : TT) (w : World) (h : LrI w base p B cap (Ts ++ [t])) (hT : 0 < Ts.length) (hm : Ts.length <= 1000) :
  Calls Tryz.prog 45 #[.pointer (some ⟨p, 0, none⟩)] w fun e w' => e = .returned (.int .i64 0) /\ LrI w' base p B cap Ts /\ Two w w' p (blk B) := by
 have H := zH h
 have hlen : (Ts ++ [t]).length = Ts.length + 1 := by simp
 have hat := H.out.at_
 rw [hlen] at hat
 have HAT := zH hat
 have hrow := H.out.row
 rw [hlen, ttcs_snoc] at hrow
 have HROW := zH hrow
 obtain ⟨g, cap', hv, hg, hlt⟩ := hrow.form (by omega)
 injection hv with e1 e2 e3
 subst e1 e3
 have hcp : Ts.length + 1 <= cap := by
  rcases hrow.2 with ⟨h1, _⟩ | ⟨_, _, _, h1, _, _, h2, _⟩
  ·cases h1
  ·injection h1 with q1 q2 q3
   omega
 have hcell := H.out.cell
 rw [hlen] at hcell
 have HCELL := zH hcell
 have hz : w.frozen? ⟨p, 0, none⟩ = false := rowfz hcell 0
 have HZ := zH hz
 clear h hat hlen hrow hcell hz
 go_enter Tryz.func45, Tryz.ntmps45
 go_wp2_with fail
 refine (lready_any p (Ts.length + 1) cap _ w HAT.out (by omega)).mono ?_
 rintro e w' ⟨rfl, rfl⟩
 go_wp2_with fail
 refine (tCount_any p (Ts.length + 1) cap _ w' HAT.out (by omega) (by omega)).mono ?_
 rintro e w1 ⟨rfl, rfl⟩
 have hne : ¬ (((Ts.length : Int) + 1) - 1 = 0) := by omega
 have hne2 : (((Ts.length : Int) + 1) - 1 == 0) = false := by rw [beq_eq_false_iff_ne]; omega
 go_wp2_with fail
 have c0 := HAT.out
 have f0 := HZ.out
 have p1 : IntKind.i64.wrap ((Ts.length : Int) + 1 - 1) = (Ts.length : Int) := by rw [IntWalk.i64_in _ (by omega)]; omega
 have p2 : IntKind.i64.wrap (Ts.length : Int) = (Ts.length : Int) := IntWalk.i64_in _ (by omega)
 have b1 : (0 : Int) <= (Ts.length : Int) := by omega
 have b2 : Ts.length <= cap := by omega
 go_still_tail 14, (by kernel_rfl)
 go_wp2_with fail
 go_ret
 obtain ⟨W9, hW9⟩ : ∃ W9, W9 = w1.setCell ⟨p, 0, none⟩ (.slice (some ⟨g, 0, none⟩) Ts.length cap) := ⟨_, rfl⟩
 rw [<- hW9]
 have hgp : g ≠ p := (BT.of_own HROW.out rfl).ne ⟨_, _, HCELL.out⟩ (by decide)
 have hs9 : W9.heap.size = w1.heap.size := by rw [hW9]; simp [World.setCell]
 have stab : ∀ b, b ≠ p -> W9.heap[b]? = w1.heap[b]? := fun b h2 => by rw [hW9]; exact RowKit.Below.heap_setCell w1 _ _ b h2
 have keep : ∀ {A0 : Option Addr} {c0 : Nat} {L0 : List Gm} {b0 : Nat}, GLo w1 b0 A0 c0 L0 -> GLo W9.drew b0 A0 c0 L0 := fun hg => hg.block (w' := W9.drew) (by show _ <= W9.heap.size; omega) (fun b hb => by
  refine stab b ?_
  rintro rfl
  rcases hb with hb | hb
  ·exact hb.ne ⟨_, _, HCELL.out⟩ (by decide) rfl
  ·exact hb.1.ne ⟨_, _, HCELL.out⟩ (by decide) rfl)
 have glo9 : ∀ t0 ∈ Ts, GLo W9.drew base t0.A t0.c t0.L /\ tabR t0.o t0.v (tblOf t0.L) = 0 := fun t0 ht0 => ⟨keep (H.out.glo t0 (List.mem_append_left _ ht0)), (H.out.tab t0 (List.mem_append_left _ ht0)).ok⟩
 refine ⟨rfl, ⟨?_, ?_, fun t0 ht0 => ⟨(glo9 t0 ht0).1.tb, (glo9 t0 ht0).1.nilA, (glo9 t0 ht0).2⟩, fun t0 ht0 => (glo9 t0 ht0).1⟩, ?_⟩
 ·show W9.heap[p]? = _
  rw [hW9]
  exact (rowSet HCELL.out 0 _).trans rfl
 ·have h1 := ownsRow_front HROW.out (ttcs_length Ts) (Nat.le_succ _)
  have h2 := own_apart h1 (only_set (World.grownBy.refl w1 (some p)) (.inl rfl) (.slice (some ⟨g, 0, none⟩) Ts.length cap) (p := ⟨p, 0, none⟩)) (fun k9 hk9 e9 => by
   simp [Value.ownBlock] at hk9
   injection e9 with e9
   omega)
  rw [<- hW9] at h2
  exact h2
 ·exact ⟨by rw [hW9]; rfl, by rw [hW9]; rfl, by rw [hW9]; rfl, by show _ <= W9.heap.size; omega, fun b h1 h2 h3 => stab b h2⟩
end Go.Proofs.YtcjicjfbippmnaaGreat
