/- a part of TalkUnlearns -/
import Derived.Test.YtcjicjfbippmnaaGreatMTU47
import Derived.Test.YtcjicjfbippmnaaGreatMTU33
import Derived.Test.YtcjicjfbippmnaaGreatMTU2
import Derived.Test.YtcjicjfbippmnaaGreatMTU25
import Derived.ChangeArms
import Derived.Carry
import Derived.OpenShut
import Derived.ProofKit
set_option maxRecDepth 100000
set_option maxHeartbeats 32000000
namespace Go.Proofs.YtcjicjfbippmnaaGreat
open Go.RowKit Ear

structure Stp1 (o v : Int) (m : Nat) (f : K4 -> Int) (Ts : List TT) (tl : TT) : Prop where
 len : Ts.length <= m
 o : tl.o = o
 v : tl.v = v
 val : Ts.length = m -> ∀ k, tval (tblOf tl.L) k = f k
theorem Stp1.next {o v : Int} {m : Nat} {f : K4 -> Int} {Ts : List TT} {tl : TT} (h : Stp1 o v m f Ts tl) {r : Int} {Ts' : List TT} {s : List Int} {n : Int} (hc : (r ≠ 0 /\ Ts' = Ts ++ [tl]) ∨ (r = 0 /\ ∃ t2, Ts' = Ts ++ [tl] ++ [t2] /\ t2.o = tl.o /\ t2.v = tl.v /\ ∀ k, tval (tblOf t2.L) k = tval (tblOf tl.L) k + cval tl.o.toNat s n k)) :
  ∃ Us ul, Ts' = Us ++ [ul] /\ Stp1 o v (m + 1) (fun k => f k + cval o.toNat s n k) Us ul := by
 rcases hc with ⟨_, rfl⟩ | ⟨_, t2, rfl, h1, h2, h3⟩
 ·exact ⟨Ts, tl, rfl, by have := h.len; omega, h.o, h.v, fun e => by have := h.len; omega⟩
 ·refine ⟨Ts ++ [tl], t2, rfl, by have := h.len; simp; omega, h1.trans h.o, h2.trans h.v, fun e k => ?_⟩
  rw [h3 k, h.val (by simp at e; exact e) k, h.o]
theorem Pair.ok1 {w : World} {b1 p1 b2 p2 : Nat} {Ts To : List TT} {t : TT} (h : Pair w b1 p1 b2 p2 (Ts ++ [t]) To) : tabR t.o t.v (tblOf t.L) = 0 := by
 obtain ⟨B1, c1, B2, c2, h1, h2, h3⟩ := h.one
 exact (h1.tab t (by simp)).ok
theorem Pair.ok2 {w : World} {b1 p1 b2 p2 : Nat} {Ts To : List TT} {t : TT} (h : Pair w b1 p1 b2 p2 To (Ts ++ [t])) : tabR t.o t.v (tblOf t.L) = 0 := by
 obtain ⟨B1, c1, B2, c2, h1, h2, h3⟩ := h.one
 exact (h2.tab t (by simp)).ok
theorem three_box (w : World) (o1 o2 o3 : Obj) : (((w.alloc o1).alloc o2).alloc o3).heap[w.heap.size]? = some o1 /\ (((w.alloc o1).alloc o2).alloc o3).heap[w.heap.size + 1]? = some o2 /\ (((w.alloc o1).alloc o2).alloc o3).heap[w.heap.size + 2]? = some o3 := by
 refine ⟨?_, ?_, ?_⟩
 ·exact (Below.heap_alloc _ _ _ (by simp; omega)).trans ((Below.heap_alloc _ _ _ (by simp)).trans (heap_alloc_new w _))
 ·exact (Below.heap_alloc _ _ _ (by simp)).trans (by have := heap_alloc_new (w.alloc o1) o2; simpa using this)
 ·have := heap_alloc_new ((w.alloc o1).alloc o2) o3
  simpa using this
theorem tabR_len {o v : Int} {T : Tbl} (h : tabR o v T = 0) : T.length <= 20000 := (tabR_ok.1 h).1
theorem TalkUnlearns_any (o v : Int) (A : Option Addr) (c : Nat) (L : List Gm) (kx xn : Int) (XA : Option Addr) (xc : Nat) (xs : List Int) (ky yn : Int) (YA : Option Addr) (yc : Nat) (ys : List Int) (w : World)
  (h : Tb w A L) (hA : A = none -> c = 0 /\ L = []) (hn : L.length <= 9223372036854775807) (hx : InOk w (XA, xc, xs)) (hy : InOk w (YA, yc, ys)) :
  Calls Tryz.prog 11 #[.agg #[.int .i64 o, .int .i64 v, .slice A L.length c], .agg #[.int .i64 kx, .slice XA xs.length xc, .int .i64 xn], .agg #[.int .i64 ky, .slice YA ys.length yc, .int .i64 yn]] w (RetB true w) := by
 obtain ⟨W, hW⟩ : ∃ W : World, W = ((w.alloc (.cells #[.int .i64 o, .int .i64 v, .slice A L.length c] 84)).alloc (.cells #[.int .i64 kx, .slice XA xs.length xc, .int .i64 xn] 95)).alloc (.cells #[.int .i64 ky, .slice YA ys.length yc, .int .i64 yn] 95) := ⟨_, rfl⟩
 have hb3 := three_box w (.cells #[.int .i64 o, .int .i64 v, .slice A L.length c] 84) (.cells #[.int .i64 kx, .slice XA xs.length xc, .int .i64 xn] 95) (.cells #[.int .i64 ky, .slice YA ys.length yc, .int .i64 yn] 95)
 rw [<- hW] at hb3
 have HBX : Hid (∀ u, Below W.heap.size W u -> u.cell? ⟨w.heap.size, 0, none⟩ = some (.int .i64 o) /\ u.cell? ⟨w.heap.size, 1, none⟩ = some (.int .i64 v) /\ u.cell? ⟨w.heap.size, 2, none⟩ = some (.slice A L.length c) /\
   u.cell? ⟨w.heap.size + 1, 0, none⟩ = some (.int .i64 kx) /\ u.cell? ⟨w.heap.size + 1, 1, none⟩ = some (.slice XA xs.length xc) /\ u.cell? ⟨w.heap.size + 1, 2, none⟩ = some (.int .i64 xn) /\
   u.cell? ⟨w.heap.size + 2, 0, none⟩ = some (.int .i64 ky) /\ u.cell? ⟨w.heap.size + 2, 1, none⟩ = some (.slice YA ys.length yc) /\ u.cell? ⟨w.heap.size + 2, 2, none⟩ = some (.int .i64 yn)) := zH (fun u hu => by
  have g0 := (hu.block _ (Array.getElem?_eq_some_iff.1 hb3.1).1).trans hb3.1
  have g1 := (hu.block _ (Array.getElem?_eq_some_iff.1 hb3.2.1).1).trans hb3.2.1
  have g2 := (hu.block _ (Array.getElem?_eq_some_iff.1 hb3.2.2).1).trans hb3.2.2
  exact ⟨(cell_of_row _ _ 0 _ _ _ g0).trans rfl, (cell_of_row _ _ 1 _ _ _ g0).trans rfl, (cell_of_row _ _ 2 _ _ _ g0).trans rfl, (cell_of_row _ _ 0 _ _ _ g1).trans rfl, (cell_of_row _ _ 1 _ _ _ g1).trans rfl, (cell_of_row _ _ 2 _ _ _ g1).trans rfl, (cell_of_row _ _ 0 _ _ _ g2).trans rfl, (cell_of_row _ _ 1 _ _ _ g2).trans rfl, (cell_of_row _ _ 2 _ _ _ g2).trans rfl⟩)
 have HB0 : Hid (Below w.heap.size w W) := zH (by rw [hW]; exact (al2 w _ _).alloc (by simp; omega) _)
 have HT := zH (h.below HB0.out)
 have HX := zH (hx.below HB0.out)
 have HY := zH (hy.below HB0.out)
 obtain ⟨c0, c1, c2, c3, c4, c5, c6, c7, c8⟩ := HBX.out W (Below.refl _ _)
 obtain ⟨V, hV⟩ : ∃ V : World, V = W.alloc (.cells #[.int .i64 kx, .slice XA xs.length xc, .int .i64 xn, .int .i64 ky, .slice YA ys.length yc, .int .i64 yn] 95) := ⟨_, rfl⟩
 have HBV : Hid (Below W.heap.size W V) := zH (by rw [hV]; exact (Below.refl _ _).alloc (Nat.le_refl _) _)
 have HLV : Hid (Lies V (some ⟨W.heap.size, 0, none⟩) (stcs [(kx, (XA, xc, xs), xn), (ky, (YA, yc, ys), yn)])) := zH (by rw [hV]; exact (kmake (Led.nil W) _ _ _ rfl).lies 0 _ _ rfl)
 obtain ⟨sm, hsm⟩ : ∃ sm, sm = smallR L.length [xs.length, ys.length] 2 := ⟨_, rfl⟩
 have HSM := zH (small_any o v A (some ⟨W.heap.size, 0, none⟩) c L.length 2 [(kx, (XA, xc, xs), xn), (ky, (YA, yc, ys), yn)] 2 V HLV.out (by simp) hn (zH (by
  intro s hs
  simp at hs
  rcases hs with rfl | rfl
  ·exact hx.2.2.1
  ·exact hy.2.2.1)) sm (zH hsm.symm))
 simp only [List.length_cons, List.length_nil, Nat.zero_add, Nat.reduceAdd] at HSM
 have HBV0 := zH (HB0.out.trans (HBV.out.mono HB0.out.size))
 clear h hx hy hb3 HLV
 cases sm with
 | false =>
  clear hsm
  go_enter Tryz.func11, Tryz.ntmps11
  go_upto_region 1 with fail
  rw [<- hW]
  clear hW
  go_wp2_with fail
  rw [<- hV]
  clear hV
  refine HSM.out.mono ?_
  rintro e w1 ⟨rfl, hb1⟩
  have HB1 := zH (HBV0.out.trans (hb1.mono HBV0.out.size))
  clear hb1 c0 c1 c2 c3 c4 c5 c6 c7 c8
  go_wp2_with fail
  refine (known10_any w1).mono ?_
  rintro e w2 ⟨rfl, hb2⟩
  go_wp2_with fail
  go_ret
  exact ⟨rfl, HB1.out.trans (hb2.mono HB1.out.size)⟩
 | true =>
  have hl60 : L.length <= 60 := by
   unfold smallR at hsm
   simp only [Bool.true_eq, Bool.and_eq_true, decide_eq_true_eq] at hsm
   exact hsm.1.1
  clear hsm
  obtain ⟨r, hr⟩ : ∃ r, r = tabR o v (tblOf L) := ⟨_, rfl⟩
  have HR := zH hr.symm
  clear hr
  by_cases h0 : r = 0
  ·subst h0
   go_enter Tryz.func11, Tryz.ntmps11
   go_upto_region 1 with fail
   rw [<- hW]
   clear hW
   go_wp2_with fail
   rw [<- hV]
   clear hV c0 c1 c2 c3 c4 c5 c6 c7 c8
   refine HSM.out.mono ?_
   rintro e w1 ⟨rfl, hb1⟩
   have HB1 := zH (HBV.out.trans (hb1.mono HBV.out.size))
   have HT1 := zH (HT.out.below HB1.out)
   obtain ⟨c0, c1, c2, -⟩ := HBX.out w1 HB1.out
   clear hb1 HSM HBV0 HBV
   go_wp2_with fail
   refine (vCheckTable_any o v A c L w1 HT1.out hn 0 HR).mono ?_
   rintro e w2 ⟨rfl, hb2⟩
   have HB2 := zH (HB1.out.trans (hb2.mono HB1.out.size))
   have HT2 := zH (HT1.out.below hb2)
   obtain ⟨c0, c1, c2, -⟩ := HBX.out w2 HB2.out
   clear hb2 HT1 HB1
   go_wp2_with fail
   refine (Learn_any o v A c L w2 HT2.out hA (by omega) 0 HR).mono ?_
   rintro e w3 ⟨hb3, hr3⟩
   rw [if_pos rfl] at hr3
   obtain ⟨p1, B1, t1, rfl, hL1, ho1, hv1, ht1, hp1⟩ := hr3
   have HB3 := zH (HB2.out.trans (hb3.mono HB2.out.size))
   have HT3 := zH (HT2.out.below hb3)
   obtain ⟨c0, c1, c2, -⟩ := HBX.out w3 HB3.out
   have HL1 := zH hL1
   have HS23 := zH hb3.size
   clear hb3 hL1 HT2
   go_wp2_with fail
   refine (Learn_any o v A c L w3 HT3.out hA (by omega) 0 HR).mono ?_
   rintro e w4 ⟨hb4, hr4⟩
   rw [if_pos rfl] at hr4
   obtain ⟨p2, B2, t2, rfl, hL2, ho2, hv2, ht2, hp2⟩ := hr4
   have HB4 := zH (HB3.out.trans (hb4.mono HB3.out.size))
   have HPR : Hid (Pair w4 w2.heap.size p1 w3.heap.size p2 ([] ++ [t1]) ([] ++ [t2])) := zH ⟨⟨B1, 1, B2, 1, HL1.out.below hb4, hL2, fun k h1 h2 => by
    have g1 := (HL1.out.btB k h1).lt
    have g2 := hL2.geB (by simp) k h2
    omega⟩, fun e => by have := HL1.out.btp.lt; omega, hp1, HS23.out, hp2, Nat.le_trans (Nat.le_refl _) hb4.size⟩
   have HS1 : Hid (Stp1 o v 0 (tval (tblOf L)) [] t1) := zH ⟨Nat.le_refl _, ho1, hv1, fun _ k => by rw [ht1]⟩
   have HS2 : Hid (Stp1 o v 0 (tval (tblOf L)) [] t2) := zH ⟨Nat.le_refl _, ho2, hv2, fun _ k => by rw [ht2]⟩
   have HT1E := zH (show t1.o = o /\ t1.v = v /\ tblOf t1.L = tblOf L from ⟨ho1, hv1, ht1⟩)
   have HSZ := zH (show W.heap.size <= w2.heap.size from HB2.out.size)
   have HSL := zH (show w2.heap.size <= w4.heap.size from Nat.le_trans HS23.out hb4.size)
   clear hb4 hL2 HL1 HS23 ho1 hv1 ht1 hp1 ho2 hv2 ht2 hp2 HT3 HB3 HB2 c0 c1 c2
   obtain ⟨c0, c1, c2, c3, c4, c5, c6, c7, c8⟩ := HBX.out w4 HB4.out
   have HX4 := zH (HX.out.below HB4.out)
   go_upto_if 59 with fail
   refine (HPR.out.cor1 xn HX4.out (by simp)).mono ?_
   rintro e w5 ⟨r5, Ta, rfl, hp5, hb5, hc5⟩
   rw [if_pos rfl] at hp5
   have HC5 := zH hc5
   obtain ⟨Us, ul, hTa, hst⟩ := HS1.out.next hc5
   subst hTa
   have HST := zH hst
   have HP5 := zH hp5
   have HB5 := zH hb5
   clear hc5 hst hp5 hb5 c0 c1 c2 c3 c4 c5 c6 c7 c8
   go_upto_if 59 with fail
   go_cut [11, 12] from 60 (fun t11 t12 wx => ∃ Ta tl, Pair wx w2.heap.size p1 w3.heap.size p2 (Ta ++ [tl]) ([] ++ [t2]) /\ Stp1 o v 1 (fun k => tval (tblOf L) k + cval o.toNat xs xn k) Ta tl /\ Below w2.heap.size w4 wx)
   case first =>
    by_cases h5 : r5 = 0
    ·subst h5
     obtain ⟨tx, htx⟩ : ∃ tx, Us ++ [ul] = [t1] ++ [tx] := by
      rcases HC5.out with ⟨e, _⟩ | ⟨_, tx, e, _⟩
      ·exact absurd rfl e
      ·exact ⟨tx, e⟩
     have HU5 := zH (Pair.undo1 (Ts := [t1]) (t := tx) (by rw [<- htx]; exact HP5.out) (by simp) (by simp))
     clear htx
     go_wp2_with fail
     refine HU5.out.mono ?_
     rintro e w6 ⟨rfl, hp6, hb6⟩
     have HP6 := zH hp6
     have HB6 := zH (HB5.out.trans (hb6.mono (Nat.le_refl _)))
     clear hp6 hb6 HU5
     go_wp2_with fail
     refine (Pair.tab1 (Ts := []) (t := t1) HP6.out (by simp)).mono ?_
     rintro e w7 ⟨TA, Tc, TL, rfl, hgl, htb, hb7⟩
     have hb47 := HB6.out.trans (hb7.mono (by have := HB6.out.size; have := HSL.out; omega))
     have HP7 : Hid (Pair w7 w2.heap.size p1 w3.heap.size p2 ([] ++ [t1]) ([] ++ [t2])) := zH (HP6.out.below hb7)
     have HB7 := zH hb47
     have hTL : TL.length <= 60 := by have := congrArg List.length (htb.trans HT1E.out.2.2); simp at this; omega
     have HTLE := zH (htb.trans HT1E.out.2.2)
     obtain ⟨V7, hV7⟩ : ∃ V7 : World, V7 = w7.alloc (.cells #[.int .i64 t1.o, .int .i64 t1.v, .slice TA TL.length Tc] 84) := ⟨_, rfl⟩
     have HBV7 : Hid (Below w7.heap.size w7 V7) := zH (by rw [hV7]; exact (Below.refl _ _).alloc (Nat.le_refl _) _)
     have hx7 : V7.heap[w7.heap.size]? = some (.cells #[.int .i64 t1.o, .int .i64 t1.v, .slice TA TL.length Tc] 84 (0, 0)) := by rw [hV7]; exact heap_alloc_new w7 _
     have b0 := (cell_of_row _ _ 0 _ _ _ hx7).trans rfl
     have b1 := (cell_of_row _ _ 1 _ _ _ hx7).trans rfl
     have b2 := (cell_of_row _ _ 2 _ _ _ hx7).trans rfl
     have HPV := zH (HP7.out.below HBV7.out)
     have HBV := zH (HB7.out.trans (HBV7.out.mono (by have := HB7.out.size; have := HSL.out; omega)))
     have HWV : Hid (Below W.heap.size W V7) := zH (HB4.out.trans (HBV.out.mono HSZ.out))
     obtain ⟨c0, c1, c2, -⟩ := HBX.out V7 HWV.out
     have HSM7 := zH (SameTable_any t1.o t1.v o v TA A Tc c TL L V7 (hgl.tb.below HBV7.out) (HT.out.below HWV.out) (by omega) (by omega) true (zH (by rw [HT1E.out.1, HT1E.out.2.1, HTLE.out]; simp)))
     clear hgl htb hb7 hb47 HP6 HB6 HP7 HB7 hx7 HBV7
     go_upto_region 11 with fail
     rw [<- hV7]
     clear hV7
     go_wp2_with fail
     refine HSM7.out.mono ?_
     rintro e w8 ⟨rfl, hb8⟩
     have HP8 := zH (HPV.out.below hb8)
     have HB8 := zH (HBV.out.trans (hb8.mono (by have := HBV.out.size; have := HSL.out; omega)))
     have HX8 := zH (HX.out.below (HWV.out.trans (hb8.mono HWV.out.size)))
     obtain ⟨c0, c1, c2, c3, c4, c5, -⟩ := HBX.out w8 (HWV.out.trans (hb8.mono HWV.out.size))
     clear hb8 HPV HBV HWV HSM7 b0 b1 b2
     go_wp2_with fail
     refine (Pair.cnt1 (T1 := [t1]) HP8.out (by simp) (by simp)).mono ?_
     rintro e w8' ⟨rfl, rfl⟩
     simp only [List.length_cons, List.length_nil, Nat.zero_add]
     go_wp2_with fail
     refine (Pair.cor1 (Ts := []) (t := t1) HP8.out xn HX8.out (by simp)).mono ?_
     rintro e w9 ⟨r9, Tb, rfl, hp9, hb9, hc9⟩
     rw [if_pos rfl] at hp9
     obtain ⟨Us9, ul9, hTb, hst9⟩ := HS1.out.next hc9
     have HF := zH (show Pair w9 w2.heap.size p1 w3.heap.size p2 (Us9 ++ [ul9]) ([] ++ [t2]) /\ Stp1 o v 1 (fun k => tval (tblOf L) k + cval o.toNat xs xn k) Us9 ul9 /\ Below w2.heap.size w4 w9 from ⟨by rw [<- hTb]; exact hp9, hst9, HB8.out.trans hb9⟩)
     clear hp9 hb9 hc9 hTb hst9 c0 c1 c2 c3 c4 c5
     go_wp2_with fail
     go_meet
     exact ⟨Us9, ul9, HF.out⟩
    ·have q5 : (r5 == 0) = false := by simp [h5]
     go_wp2_with fail
     go_meet
     exact ⟨Us, ul, HP5.out, HST.out, HB5.out⟩
   case rest =>
    obtain ⟨Ta, tl, hpc, hsc, hbc⟩ := hcut
    have HP10 := zH hpc
    have HS10 := zH hsc
    have HW10 : Hid (Below W.heap.size W wc) := zH (HB4.out.trans (hbc.mono HSZ.out))
    have HZ10 : Hid (w2.heap.size <= wc.heap.size) := zH (Nat.le_trans HSL.out hbc.size)
    clear hpc hsc hbc HST HP5 HB5 HC5 HS1 HPR HX4 HB4 HSL HT1E
    obtain ⟨c0, c1, c2, c3, c4, c5, c6, c7, c8⟩ := HBX.out wc HW10.out
    go_wp2_with fail
    refine (Pair.cor1 HP10.out yn (HY.out.below HW10.out) (by have := HS10.out.len; omega)).mono ?_
    rintro e w11 ⟨r11, Tb, rfl, hp11, hb11, hc11⟩
    rw [if_pos rfl] at hp11
    obtain ⟨Ua, ua, hTb, hst11⟩ := HS10.out.next hc11
    subst hTb
    have HP11 := zH hp11
    have HS11 := zH hst11
    have HW11 : Hid (Below W.heap.size W w11) := zH (HW10.out.trans (hb11.mono HSZ.out))
    clear hp11 hb11 hc11 hst11 HP10 HS10 HW10 c0 c1 c2 c3 c4 c5 c6 c7 c8
    obtain ⟨c0, c1, c2, c3, c4, c5, c6, c7, c8⟩ := HBX.out w11 HW11.out
    go_wp2_with fail
    refine (Pair.cor2 (Ts := []) (t := t2) HP11.out yn (HY.out.below HW11.out) (by simp)).mono ?_
    rintro e w12 ⟨r12, Tc, rfl, hp12, hb12, hc12⟩
    rw [if_neg (by decide)] at hp12
    obtain ⟨Ub, ub, hTb, hst12⟩ := HS2.out.next hc12
    subst hTb
    have HP12 := zH hp12
    have HS12 := zH hst12
    have HW12 : Hid (Below W.heap.size W w12) := zH (HW11.out.trans (hb12.mono HSZ.out))
    clear hp12 hb12 hc12 hst12 HP11 HS2 HW11 c0 c1 c2 c3 c4 c5 c6 c7 c8
    obtain ⟨c0, c1, c2, c3, c4, c5, c6, c7, c8⟩ := HBX.out w12 HW12.out
    go_wp2_with fail
    refine (Pair.cor2 HP12.out xn (HX.out.below HW12.out) (by have := HS12.out.len; omega)).mono ?_
    rintro e w13 ⟨r13, Td, rfl, hp13, hb13, hc13⟩
    rw [if_neg (by decide)] at hp13
    obtain ⟨Uc, uc, hTb, hst13⟩ := HS12.out.next hc13
    subst hTb
    have HP13 := zH hp13
    have HS13 := zH hst13
    have HW13 : Hid (Below W.heap.size W w13) := zH (HW12.out.trans (hb13.mono HSZ.out))
    clear hp13 hb13 hc13 hst13 HP12 HS12 HW12 c0 c1 c2 c3 c4 c5 c6 c7 c8
    go_wp2_with fail
    refine (Pair.tab1 HP13.out (by have := HS11.out.len; omega)).mono ?_
    rintro e w14 ⟨TA, Tc, TL, rfl, hgl, htb, hb14⟩
    obtain ⟨V14, hV14⟩ : ∃ V14 : World, V14 = w14.alloc (.cells #[.int .i64 ua.o, .int .i64 ua.v, .slice TA TL.length Tc] 84) := ⟨_, rfl⟩
    have HBV14 : Hid (Below w14.heap.size w14 V14) := zH (by rw [hV14]; exact (Below.refl _ _).alloc (Nat.le_refl _) _)
    have HX14 : Hid (V14.heap[w14.heap.size]? = some (.cells #[.int .i64 ua.o, .int .i64 ua.v, .slice TA TL.length Tc] 84 (0, 0))) := zH (by rw [hV14]; exact heap_alloc_new w14 _)
    have HP14 := zH ((HP13.out.below hb14).below HBV14.out)
    have HW14 : Hid (Below W.heap.size W V14) := zH (HW13.out.trans ((hb14.trans (HBV14.out.mono hb14.size)).mono HW13.out.size))
    have HTA := zH (hgl.tb.below HBV14.out)
    have HTE := zH htb
    have HA0 := zH HP13.out.ok1
    have HA1 := zH HP13.out.ok2
    clear hgl htb hb14 HBV14 HP13 HW13
    go_upto_region 18 with fail
    rw [<- hV14]
    clear hV14
    go_wp2_with fail
    refine (Pair.tab2 HP14.out (by have := HS13.out.len; omega)).mono ?_
    rintro e w15 ⟨SA, Sc, SL, rfl, hgl, htb, hb15⟩
    obtain ⟨V15, hV15⟩ : ∃ V15 : World, V15 = w15.alloc (.cells #[.int .i64 uc.o, .int .i64 uc.v, .slice SA SL.length Sc] 84) := ⟨_, rfl⟩
    have HBV15 : Hid (Below w15.heap.size w15 V15) := zH (by rw [hV15]; exact (Below.refl _ _).alloc (Nat.le_refl _) _)
    have hx15 : V15.heap[w15.heap.size]? = some (.cells #[.int .i64 uc.o, .int .i64 uc.v, .slice SA SL.length Sc] 84 (0, 0)) := by rw [hV15]; exact heap_alloc_new w15 _
    have hb1415 := hb15.trans (HBV15.out.mono hb15.size)
    have hx14 := (hb1415.block _ (Array.getElem?_eq_some_iff.1 HX14.out).1).trans HX14.out
    have HP15 := zH (HP14.out.below hb1415)
    have HW15 : Hid (Below W.heap.size W V15) := zH (HW14.out.trans (hb1415.mono HW14.out.size))
    have HTA15 := zH (HTA.out.below hb1415)
    have HSA := zH (hgl.tb.below HBV15.out)
    have HSE := zH htb
    have a0 := (cell_of_row _ _ 0 _ _ _ hx14).trans rfl
    have a1 := (cell_of_row _ _ 1 _ _ _ hx14).trans rfl
    have a2 := (cell_of_row _ _ 2 _ _ _ hx14).trans rfl
    have b0 := (cell_of_row _ _ 0 _ _ _ hx15).trans rfl
    have b1 := (cell_of_row _ _ 1 _ _ _ hx15).trans rfl
    have b2 := (cell_of_row _ _ 2 _ _ _ hx15).trans rfl
    clear hgl htb hb15 HBV15 hx15 hb1415 hx14 HX14 HTA HP14 HW14
    have HFIN : Hid (∀ u u' : World, Below V15.heap.size V15 u -> Below u.heap.size u u' -> Below w.heap.size w u') := zH (fun u u' h1 h2 => HB0.out.trans ((HW15.out.trans ((h1.trans (h2.mono h1.size)).mono HW15.out.size)).mono HB0.out.size))
    have hl1 := HS11.out.len
    have hl2 := HS13.out.len
    go_upto_region 19 with fail
    rw [<- hV15]
    clear hV15
    have hc1 := zH (Pair.cnt1 HP15.out (by simp) (by simp; omega))
    have hc2 := zH (Pair.cnt2 HP15.out (by simp) (by simp; omega))
    simp only [List.length_append, List.length_cons, List.length_nil, Nat.zero_add] at hc1 hc2
    by_cases n1 : Ua.length = 2
    ·have d1 : ((((Ua.length + 1 : Nat) : Int) - 1) != 2) = false := by rw [n1]; rfl
     by_cases n2 : Uc.length = 2
     ·have hEQ : tblOf TL = tblOf SL := by
       rw [HTE.out, HSE.out]
       refine tab_eq (o := o.toNat) (v := v) (v' := v) ?_ ?_ (fun k => ?_)
       ·have h9 := HA0.out
        rw [HS11.out.o, HS11.out.v] at h9
        have := sizedB_iff.1 (tabR_ok.1 h9).2.1
        rw [show ((o.toNat : Nat) : Int) = o by omega]
        exact h9
       ·have h9 := HA1.out
        rw [HS13.out.o, HS13.out.v] at h9
        have := sizedB_iff.1 (tabR_ok.1 h9).2.1
        rw [show ((o.toNat : Nat) : Int) = o by omega]
        exact h9
       ·rw [HS11.out.val n1 k, HS13.out.val n2 k]
        omega
      have HSMT := zH (SameTable_any ua.o ua.v uc.o uc.v TA SA Tc Sc TL SL V15 HTA15.out HSA.out (by have h1 := tabR_len HA0.out; rw [<- HTE.out] at h1; simp at h1; omega) (by have h1 := tabR_len HA1.out; rw [<- HSE.out] at h1; simp at h1; omega) true (zH (by rw [hEQ, HS11.out.o, HS11.out.v, HS13.out.o, HS13.out.v]; simp)))
      clear hEQ
      rw [n1] at hc1
      rw [n2] at hc2
      clear n1 n2 d1
      go_wp2_with fail
      refine hc1.out.mono ?_
      rintro e w16 ⟨rfl, rfl⟩
      go_wp2_with fail
      refine hc2.out.mono ?_
      rintro e w17 ⟨rfl, rfl⟩
      go_wp2_with fail
      refine HSMT.out.mono ?_
      rintro e w18 ⟨rfl, hb18⟩
      have HB18 := zH hb18
      clear hb18
      go_wp2_with fail
      refine (known10_any w18).mono ?_
      rintro e w19 ⟨rfl, hb19⟩
      go_wp2_with fail
      go_ret
      exact ⟨rfl, HFIN.out _ _ HB18.out hb19⟩
     ·obtain ⟨m, hm⟩ : ∃ m : Int, m = ((Uc.length + 1 : Nat) : Int) - 1 := ⟨_, rfl⟩
      have q2 : (m != 2) = true := by simp; omega
      rw [<- hm] at hc2
      rw [n1] at hc1
      clear hm n1 n2 d1
      go_wp2_with fail
      refine hc1.out.mono ?_
      rintro e w16 ⟨rfl, rfl⟩
      go_wp2_with fail
      refine hc2.out.mono ?_
      rintro e w17 ⟨rfl, rfl⟩
      go_wp2_with fail
      refine (known10_any w17).mono ?_
      rintro e w19 ⟨rfl, hb19⟩
      go_wp2_with fail
      go_ret
      exact ⟨rfl, HFIN.out _ _ (Below.refl _ _) hb19⟩
    ·obtain ⟨m, hm⟩ : ∃ m : Int, m = ((Ua.length + 1 : Nat) : Int) - 1 := ⟨_, rfl⟩
     have q2 : (m != 2) = true := by simp; omega
     rw [<- hm] at hc1
     clear hm n1
     go_wp2_with fail
     refine hc1.out.mono ?_
     rintro e w16 ⟨rfl, rfl⟩
     go_wp2_with fail
     refine (known10_any w16).mono ?_
     rintro e w19 ⟨rfl, hb19⟩
     go_wp2_with fail
     go_ret
     exact ⟨rfl, HFIN.out _ _ (Below.refl _ _) hb19⟩
  ·have q0 : (r != 0) = true := by simp [h0]
   go_enter Tryz.func11, Tryz.ntmps11
   go_upto_region 1 with fail
   rw [<- hW]
   clear hW
   go_wp2_with fail
   rw [<- hV]
   clear hV c0 c1 c2 c3 c4 c5 c6 c7 c8
   refine HSM.out.mono ?_
   rintro e w1 ⟨rfl, hb1⟩
   have HB1 := zH (HBV.out.trans (hb1.mono HBV.out.size))
   have HT1 := zH (HT.out.below HB1.out)
   obtain ⟨c0, c1, c2, -⟩ := HBX.out w1 HB1.out
   clear hb1 HSM HBV0 HBV h0
   go_wp2_with fail
   refine (vCheckTable_any o v A c L w1 HT1.out hn r HR).mono ?_
   rintro e w2 ⟨rfl, hb2⟩
   have HB2 := zH (HB1.out.trans (hb2.mono HB1.out.size))
   clear hb2 c0 c1 c2
   go_wp2_with fail
   refine (known10_any w2).mono ?_
   rintro e w3 ⟨rfl, hb3⟩
   have HB3 := zH (HB2.out.trans (hb3.mono HB2.out.size))
   go_wp2_with fail
   go_ret
   exact ⟨rfl, HB0.out.trans (HB3.out.mono HB0.out.size)⟩
end Go.Proofs.YtcjicjfbippmnaaGreat
namespace Go.Proofs.YtcjicjfbippmnaaGreat
open Go.RowKit Go.WideShapes

def Rd {H : Type} (enc : TypeId × Value -> H) (P : Program) (w : World) (t : TypeId) (cs : List Value) : Prop :=
 ∃ fuel x, DataW.trod enc P w 0 (fun _ => true) true fuel t cs = some x

section
variable {α : Type} {H : Type} {enc : TypeId × Value -> H} {P : Program} {w : World} {t e : TypeId} {cs : List Value}

theorem Rd.of {v : Value} {d : DataW H} {p : List MemPlace} (h : DataW.Trod enc P w 0 (fun _ => true) true t v d p) : Rd enc P w t v.cells.toList := by
 obtain ⟨fuel, hf⟩ := h
 exact ⟨fuel, _, hf⟩
theorem Rd.int {k : IntKind} (ht : P.underlying t = some (.int k)) (h : Rd enc P w t cs) : ∃ n, cs = [.int k n] /\ k.min <= n /\ n <= k.max := by
 obtain ⟨fuel, x, hf⟩ := h
 cases fuel with
 | zero => simp [DataW.trod] at hf
 | succ f =>
  unfold DataW.trod at hf
  rw [ht] at hf
  split at hf <;> simp_all
  rename_i h1
  obtain ⟨⟨rfl, hw⟩, _⟩ := hf
  subst h1
  simpa [Lit.wf] using hw
theorem Rd.struct {fs : Array Field} (ht : P.underlying t = some (.struct fs)) (h : Rd enc P w t cs) :
  cs.length = P.cellsOf t /\ ∀ (i : Nat) (f : Field), fs[i]? = some f -> Rd enc P w f.type ((cs.drop f.offset).take (P.cellsOf f.type)) := by
 obtain ⟨fuel, x, hf⟩ := h
 obtain ⟨xs, n, _, _, hl, hlen, hall⟩ := DataW.trod_struct ht hf
 refine ⟨hl, fun i f hi => ?_⟩
 have h1 : i < xs.length := by rw [hlen]; exact (Array.getElem?_eq_some_iff.1 hi).1
 exact ⟨n, xs[i], (hall i f hi).trans (List.getElem?_eq_getElem h1)⟩
theorem chunk {elem : α -> List Value} {S : Nat} : ∀ (l : List α) (a : Addr), (∀ i x, l[i]? = some x -> (elem x).length = S /\ ∀ j, j < S -> w.cell? (a.add (i * S + j)) = (elem x)[j]?) ->
  ∀ k u, (l.flatMap elem)[k]? = some u -> w.cell? (a.add k) = some u := by
 intro l
 induction l with
 | nil => intro a _ k u h; simp at h
 | cons x xs ih =>
  intro a h k u hk
  obtain ⟨h1, h2⟩ := h 0 x rfl
  rw [List.flatMap_cons, List.getElem?_append] at hk
  split at hk <;> rename_i hlt
  ·rw [h1] at hlt
   have := h2 k hlt
   rw [Nat.zero_mul, Nat.zero_add, hk] at this
   exact this
  ·rw [h1] at hk hlt
   have h3 := ih (a.add S) (fun i y hy => by
    obtain ⟨g1, g2⟩ := h (i + 1) y (by simpa using hy)
    refine ⟨g1, fun j hj => ?_⟩
    rw [Addr.add_add, <- g2 j hj]
    congr 2
    rw [Nat.succ_mul]; omega) (k - S) u hk
   rw [Addr.add_add] at h3
   rwa [show S + (k - S) = k by omega] at h3

theorem Rd.slice {α : Type} {S : Nat} (ht : P.underlying t = some (.slice e)) (hS : P.cellsOf e = S) (elem : α -> List Value) (Pr : α -> Prop)
  (he : ∀ cs, Rd enc P w e cs -> ∃ a, cs = elem a /\ Pr a) (h : Rd enc P w t cs) :
  ∃ A c, ∃ l : List α, cs = [.slice A l.length c] /\ Lies w A (l.flatMap elem) /\ (A = none -> c = 0 /\ l = []) /\ l.length <= 9223372036854775807 /\ l.length <= c /\ (∀ a ∈ l, Pr a) := by
 obtain ⟨fuel, x, hf⟩ := h
 rcases DataW.trod_slice ht hf with ⟨rfl, _⟩ | ⟨a, len, cap, elems, rest, n, _, rfl, _, _, hl, hm, hlen, hel, _, _⟩
 ·exact ⟨none, 0, [], rfl, Lies.nil _ _, fun _ => ⟨rfl, rfl⟩, by simp, by simp, by simp⟩
 ·have key : ∀ i, i < len -> ∃ y, Pr y /\ (elem y).length = S /\ ∀ j, j < S -> w.cell? (a.add (i * S + j)) = (elem y)[j]? := by
   intro i hi
   have h1 := hel i hi
   rw [List.getElem?_eq_getElem (by omega)] at h1
   obtain ⟨es, h2, h3⟩ := Option.bind_eq_some_iff.1 h1
   obtain ⟨y, rfl, hy⟩ := he es ⟨n, _, h3⟩
   obtain ⟨_, h4, h5⟩ := World.cells?_some h2
   rw [hS] at h4 h5
   refine ⟨y, hy, h4, fun j hj => ?_⟩
   rw [<- h5 j hj, Addr.add_add]
  have pick : ∀ m, m <= len -> ∃ l : List α, l.length = m /\ ∀ i y, l[i]? = some y -> Pr y /\ (elem y).length = S /\ ∀ j, j < S -> w.cell? (a.add (i * S + j)) = (elem y)[j]? := by
   intro m
   induction m with
   | zero => intro _; exact ⟨[], rfl, fun i y hy => by simp at hy⟩
   | succ m ih =>
    intro hm'
    obtain ⟨l, hl1, hl2⟩ := ih (by omega)
    obtain ⟨y, hy⟩ := key m (by omega)
    refine ⟨l ++ [y], by simp [hl1], fun i z hz => ?_⟩
    rw [List.getElem?_append] at hz
    split at hz
    ·exact hl2 i z hz
    ·rename_i hge
     have hi : i = m := by
      have := (List.getElem?_eq_some_iff.1 hz).1
      simp at this; omega
     subst hi
     rw [hl1, Nat.sub_self] at hz
     simp at hz
     subst hz
     exact hy
  obtain ⟨l, hll, hg⟩ := pick len (Nat.le_refl _)
  refine ⟨some a, cap, l, by rw [hll], fun h0 => ?_, fun h => by simp at h, ?_, by omega, fun y hy => ?_⟩
  ·have hc := chunk (w := w) l a (fun i x hx => (hg i x hx).2)
   obtain ⟨u, hu⟩ : ∃ u, (l.flatMap elem)[0]? = some u := ⟨_, List.getElem?_eq_getElem h0⟩
   have h1 := hc 0 u hu
   obtain ⟨b, off, sp⟩ := a
   have hsp : sp = none := by
    cases sp with
    | none => rfl
    | some q =>
     exfalso
     simp [Addr.add, World.cell?] at h1
     split at h1 <;> simp_all
   subst hsp
   refine ⟨b, off, rfl, ?_, fun k u hk => ?_⟩
   ·apply Decidable.byContradiction
    intro hb
    simp [Addr.add, World.cell?, hb] at h1
   ·have := hc k u hk
    rwa [Addr.add_lit] at this
  ·rw [hll]; unfold maxLen at hm; omega
  ·obtain ⟨i, hi, rfl⟩ := List.getElem_of_mem hy
   exact (hg i _ (List.getElem?_eq_getElem hi)).1
theorem Rd.ints (ht : P.underlying t = some (.slice e)) (he : P.underlying e = some (.int .i64)) (hc : P.cellsOf e = 1) (h : Rd enc P w t cs) :
  ∃ A c l, cs = [.slice A l.length c] /\ Lies w A (ics l) /\ (A = none -> c = 0 /\ l = []) /\ l.length <= 9223372036854775807 /\ l.length <= c /\ (∀ x ∈ l, -9223372036854775808 <= x /\ x <= 9223372036854775807) := by
 obtain ⟨A, c, l, h1, h2, h3⟩ := h.slice ht hc (fun n => [Value.int .i64 n]) (fun n => -9223372036854775808 <= n /\ n <= 9223372036854775807) (fun cs hcs => hcs.int he)
 refine ⟨A, c, l, h1, ?_, h3⟩
 have : (l.flatMap fun n => [Value.int .i64 n]) = ics l := by
  clear h1 h2 h3
  induction l with
  | nil => rfl
  | cons x xs ih => rw [List.flatMap_cons, ih]; rfl
 rwa [this] at h2
variable {v : Value} {d : DataW H} {p : List MemPlace} {r : Reach} {b0 : Nat}
theorem op_struct {fs : Array Field} {n : Nat} (ht : P.underlying t = some (.struct fs)) (hC : P.cellsOf t = n) (hv : Value.okWide P w r b0 t v) (h : DataW.Trod enc P w 0 (fun _ => true) true t v d p) :
  ∃ cs : List Value, v = .agg cs.toArray /\ cs.length = n /\ ∀ (i : Nat) (f : Field), fs[i]? = some f -> Rd enc P w f.type ((cs.drop f.offset).take (P.cellsOf f.type)) := by
 obtain ⟨cs, rfl, hs⟩ := okWide_struct ht hv
 have h1 := (Rd.of h).struct ht
 refine ⟨cs.toList, by simp, by rw [<- hC, <- hs]; simp, ?_⟩
 simpa [Value.cells] using h1.2
end
end Go.Proofs.YtcjicjfbippmnaaGreat
namespace Go.Proofs.YtcjicjfbippmnaaGreat
open Go.RowKit Go.WideShapes Ear

section
variable {H : Type} {enc : TypeId × Value -> H} {P : Program} {w : World} {t e eg : TypeId} {cs : List Value} {v : Value} {d : DataW H} {p : List MemPlace} {r : Reach} {b0 : Nat}
theorem Rd.gm {f0 f1 : Field} (ht : P.underlying t = some (.struct #[f0, f1])) (hC : P.cellsOf t = 2) (o0 : f0.offset = 0) (o1 : f1.offset = 1) (u0 : P.underlying f0.type = some (.slice e)) (k0 : P.cellsOf f0.type = 1) (he : P.underlying e = some (.int .i64)) (ke : P.cellsOf e = 1)
  (u1 : P.underlying f1.type = some (.int .i64)) (k1 : P.cellsOf f1.type = 1) (h : Rd enc P w t cs) :
  ∃ g : Gm, cs = [Value.slice g.1.1 g.1.2.2.length g.1.2.1, Value.int .i64 g.2] /\ (InOk w g.1 /\ -9223372036854775808 <= g.2 /\ g.2 <= 9223372036854775807) := by
 obtain ⟨hl, hf⟩ := h.struct ht
 rw [hC] at hl
 match cs, hl with
 | [a, b], _ =>
  have g0 := hf 0 f0 rfl
  have g1 := hf 1 f1 rfl
  rw [o0, k0] at g0
  rw [o1, k1] at g1
  obtain ⟨A, c, l, e0, hr⟩ := g0.ints u0 he ke
  obtain ⟨n, e1, hn⟩ := g1.int u1
  simp at e0 e1
  subst e0 e1
  exact ⟨((A, c, l), n), rfl, hr, hn⟩
theorem op_tab {f0 f1 f2 g0 g1 : Field} (ht : P.underlying t = some (.struct #[f0, f1, f2])) (hC : P.cellsOf t = 3) (o0 : f0.offset = 0) (o1 : f1.offset = 1) (o2 : f2.offset = 2) (u0 : P.underlying f0.type = some (.int .i64)) (k0 : P.cellsOf f0.type = 1)
  (u1 : P.underlying f1.type = some (.int .i64)) (k1 : P.cellsOf f1.type = 1) (u2 : P.underlying f2.type = some (.slice eg)) (k2 : P.cellsOf f2.type = 1)
  (hg : P.underlying eg = some (.struct #[g0, g1])) (gC : P.cellsOf eg = 2) (p0 : g0.offset = 0) (p1 : g1.offset = 1) (v0 : P.underlying g0.type = some (.slice e)) (l0 : P.cellsOf g0.type = 1) (he : P.underlying e = some (.int .i64)) (ke : P.cellsOf e = 1)
  (v1 : P.underlying g1.type = some (.int .i64)) (l1 : P.cellsOf g1.type = 1) (hv : Value.okWide P w r b0 t v) (h : DataW.Trod enc P w 0 (fun _ => true) true t v d p) :
  ∃ o n A c, ∃ L : List Gm, v = .agg #[.int .i64 o, .int .i64 n, .slice A L.length c] /\ (-9223372036854775808 <= o /\ o <= 9223372036854775807) /\ (-9223372036854775808 <= n /\ n <= 9223372036854775807) /\ Tb w A L /\ (A = none -> c = 0 /\ L = []) /\ L.length <= 9223372036854775807 := by
 obtain ⟨cs, rfl, hl, hf⟩ := op_struct ht hC hv h
 match cs, hl with
 | [a, b, c], _ =>
  have q0 := hf 0 f0 rfl
  have q1 := hf 1 f1 rfl
  have q2 := hf 2 f2 rfl
  rw [o0, k0] at q0
  rw [o1, k1] at q1
  rw [o2, k2] at q2
  obtain ⟨o, e0, ho⟩ := q0.int u0
  obtain ⟨n, e1, hn⟩ := q1.int u1
  obtain ⟨A, c', L, e2, hL, hA, hm, _, hx⟩ := q2.slice u2 gC (fun g : Gm => [Value.slice g.1.1 g.1.2.2.length g.1.2.1, Value.int .i64 g.2]) (fun g => InOk w g.1 /\ -9223372036854775808 <= g.2 /\ g.2 <= 9223372036854775807) (fun cs hcs => hcs.gm hg gC p0 p1 v0 l0 he ke v1 l1)
  simp at e0 e1 e2
  subst e0 e1 e2
  exact ⟨o, n, A, c', L, rfl, ho, hn, ⟨hL, fun g hg => (hx g hg).1, fun g hg => (hx g hg).2⟩, hA, hm⟩
theorem op_step {f0 f1 f2 : Field} (ht : P.underlying t = some (.struct #[f0, f1, f2])) (hC : P.cellsOf t = 3) (o0 : f0.offset = 0) (o1 : f1.offset = 1) (o2 : f2.offset = 2) (u0 : P.underlying f0.type = some (.int .i64)) (k0 : P.cellsOf f0.type = 1)
  (u1 : P.underlying f1.type = some (.slice e)) (k1 : P.cellsOf f1.type = 1) (he : P.underlying e = some (.int .i64)) (ke : P.cellsOf e = 1) (u2 : P.underlying f2.type = some (.int .i64)) (k2 : P.cellsOf f2.type = 1)
  (hv : Value.okWide P w r b0 t v) (h : DataW.Trod enc P w 0 (fun _ => true) true t v d p) :
  ∃ k A c, ∃ s : List Int, ∃ n, v = .agg #[.int .i64 k, .slice A s.length c, .int .i64 n] /\ InOk w (A, c, s) /\ (-9223372036854775808 <= n /\ n <= 9223372036854775807) := by
 obtain ⟨cs, rfl, hl, hf⟩ := op_struct ht hC hv h
 match cs, hl with
 | [a, b, c], _ =>
  have q0 := hf 0 f0 rfl
  have q1 := hf 1 f1 rfl
  have q2 := hf 2 f2 rfl
  rw [o0, k0] at q0
  rw [o1, k1] at q1
  rw [o2, k2] at q2
  obtain ⟨k, e0, _⟩ := q0.int u0
  obtain ⟨A, c', s, e1, hr⟩ := q1.ints u1 he ke
  obtain ⟨n, e2, hn⟩ := q2.int u2
  simp at e0 e1 e2
  subst e0 e1 e2
  exact ⟨k, A, c', s, n, rfl, hr, hn⟩
end
end Go.Proofs.YtcjicjfbippmnaaGreat
