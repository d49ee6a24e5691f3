/- a part of TalkUnlearns -/
import Derived.Test.YtcjicjfbippmnaaGreatMTU25
import Derived.Test.YtcjicjfbippmnaaGreatMTU14
set_option maxRecDepth 100000
set_option maxHeartbeats 32000000
namespace Go.Proofs.YtcjicjfbippmnaaGreat
open Go.RowKit Ear

theorem drewN_exN (w : World) (n m : Nat) : ∃ k, (w.drewN n).drewN m = w.drewN k := ⟨_, World.drewN_drewN _ _ _⟩
theorem vorder_any (A B : Option Addr) (c d : Nat) (a b : List Int) (w : World) (hA : Lies w A (ics a)) (hB : Lies w B (ics b)) (hl : a.length = b.length) (hn : a.length <= 9223372036854775807) (r : Int) (hr : Hid (cmpL a b = r)) :
  Calls Tryz.prog 101 #[.slice A a.length c, .slice B b.length d] w fun e w' => e = .returned (.int .i64 r) /\ ∃ n, w' = w.drewN n := by
 rw [<- hl]
 have HL := zH hl
 clear hl
 go_enter Tryz.func101, Tryz.ntmps101
 go_wp2_with fail
 go_loopw [5] (fun i wr => ∃ k : Nat, k <= a.length /\ i = .int .i64 k /\ Hid (a.take k = b.take k) /\ ∃ n, wr = w.drewN n) (fun i _ => a.length - (intOf i).toNat)
 case atStart => exact ⟨0, by omega, rfl, zH (by simp), 0, rfl⟩
 case round =>
  obtain ⟨k, hk, rfl, HE, n, hwd⟩ := hrel
  have L1 : Lies wr A (ics a) := by rw [hwd]; exact hA.drewN n
  have L2 : Lies wr B (ics b) := by rw [hwd]; exact hB.drewN n
  have WD := zH hwd
  clear hwd
  by_cases hlt : k < a.length
  ·have hlb : k < b.length := by rw [<- HL.out]; exact hlt
   obtain ⟨b1, o1, rfl, hb1, hc1⟩ := L1.at_ hlt
   obtain ⟨b2, o2, rfl, hb2, hc2⟩ := L2.at_ hlb
   have HAT := zH (fun hne => cmpL_at (k := k) HE.out hlt hlb hne)
   have HSU := zH (fun he => take_eq_succ (k := k) HE.out hlt hlb he)
   have e1 : a[k]?.getD 0 = a[k] := by rw [List.getElem?_eq_getElem hlt]; rfl
   have e2 : b[k]?.getD 0 = b[k] := by rw [List.getElem?_eq_getElem hlb]; rfl
   rw [e1] at hc1
   rw [e2] at hc2
   clear e1 e2
   generalize a[k] = x at *
   generalize b[k] = y at *
   by_cases he : x = y
   ·subst he
    have HN := zH (HSU.out rfl)
    clear HAT HSU
    go_wp2_with fail
    go_quiet (fail)
    go_wp2_with fail
    exact ⟨⟨k + 1, by omega, by go_num, HN, by rw [WD.out]; exact drewN_ex _ _ _⟩, by simp [intOf]; omega⟩
   ·have q : (x != y) = true := by simpa using he
    have hne : cmpI x y ≠ 0 := fun h => he (cmpI_zero.1 h)
    have hz : cmpI x y = r := by rw [<- hr.out, HAT.out hne]
    have hne' := zH hne
    clear HAT HSU hne he
    by_cases hlt2 : x < y
    ·have hz1 : r = -1 := by rw [<- hz]; unfold cmpI; rw [if_pos hlt2]
     subst hz1
     clear hz hne'
     go_wp2_with fail
     go_quiet (fail)
     go_wp2_with fail
     go_quiet (fail)
     go_wp2_with fail
     go_ret
     exact ⟨rfl, by rw [WD.out]; exact ⟨_, by rw [World.drewN_drewN, World.drewN_drewN]⟩⟩
    ·have hz1 : r = 1 := by
      have h2 := hne'.out
      rw [<- hz]; unfold cmpI at h2 ⊢; rw [if_neg hlt2] at h2 ⊢
      split at h2
      ·rename_i h3; rw [if_pos h3]
      ·exact absurd rfl h2
     subst hz1
     clear hz hne'
     go_wp2_with fail
     go_quiet (fail)
     go_wp2_with fail
     go_quiet (fail)
     go_wp2_with fail
     go_ret
     exact ⟨rfl, by rw [WD.out]; exact ⟨_, by rw [World.drewN_drewN, World.drewN_drewN]⟩⟩
  ·obtain rfl : k = a.length := by omega
   have hz : r = 0 := by
    rw [<- hr.out, cmpL_end (by have := HE.out; simpa using this) (by rw [HL.out]; exact Nat.le_refl _), if_neg (by rw [HL.out]; exact Nat.lt_irrefl _)]
   subst hz
   go_wp2_with fail
   go_ret
   exact ⟨rfl, n, WD.out⟩
theorem vorder_quiet (A B : Option Addr) (c d : Nat) (a b : List Int) (w : World) (hA : Lies w A (ics a)) (hB : Lies w B (ics b)) (hl : a.length = b.length) (hn : a.length <= 9223372036854775807) (r : Int) (hr : Hid (cmpL a b = r)) (m : Nat) :
  Calls Tryz.prog 101 #[.slice A a.length c, .slice B b.length d] (w.drewN m) fun e w' => e = .returned (.int .i64 r) /\ ∃ k, w' = (w.drewN m).drewN k :=
 vorder_any A B c d a b (w.drewN m) (hA.drewN m) (hB.drewN m) hl hn r hr
theorem vfits_any (A : Option Addr) (c : Nat) (l : List Int) (hi : Int) (w : World) (h : Lies w A (ics l)) (hn : l.length <= 9223372036854775807) (b : Bool) (hb' : Hid (allR 0 hi l = b)) :
  Calls Tryz.prog 100 #[.slice A l.length c, .int .i64 hi] w fun e w' => e = .returned (.bool b) /\ w = w' := by
 go_enter Tryz.func100, Tryz.ntmps100
 go_wp2
 go_loop [5] (fun i => ∃ k : Nat, k <= l.length /\ i = .int .i64 k /\ (l.take k).all (inR 0 hi) = true) (fun i => l.length - (intOf i).toNat)
 case atStart => exact ⟨0, Nat.zero_le _, rfl, rfl⟩
 case round =>
  obtain ⟨k, hk, rfl, hp⟩ := hrel
  by_cases hlt : k < l.length
  ·obtain ⟨bk, off, rfl, hb, hc⟩ := h.at_ hlt
   have HP := zH hp
   clear hp
   go_wp2
   ·go_ret
    exact ⟨ret_bool (by rw [<- hb'.out]; exact (all_false_at hlt (by simp [inR]; omega)).symm), rfl⟩
   ·exact ⟨⟨k + 1, by omega, by go_num, all_take_succ hlt HP.out (by simp [inR]; omega)⟩, by simp [intOf]; omega⟩
   ·go_ret
    exact ⟨ret_bool (by rw [<- hb'.out]; exact (all_false_at hlt (by simp [inR]; omega)).symm), rfl⟩
  ·have HP := zH hp
   clear hp
   go_wp2
   go_ret
   exact ⟨ret_bool (by rw [<- hb'.out]; have hh := HP.out; rw [List.take_of_length_le (by omega)] at hh; exact hh.symm), rfl⟩
theorem vfits_quiet (A : Option Addr) (c : Nat) (l : List Int) (hi : Int) (w : World) (h : Lies w A (ics l)) (hn : l.length <= 9223372036854775807) (b : Bool) (hb' : Hid (allR 0 hi l = b)) (m : Nat) :
  Calls Tryz.prog 100 #[.slice A l.length c, .int .i64 hi] (w.drewN m) fun e w' => e = .returned (.bool b) /\ ∃ k, w' = (w.drewN m).drewN k :=
 (vfits_any A c l hi (w.drewN m) (h.drewN m) hn b hb').mono fun _ _ ⟨h1, h2⟩ => ⟨h1, 0, h2.symm⟩
theorem Sizes_any (o v : Int) (w : World) (r : Bool) (hr : Hid ((decide (1 <= o) && decide (o <= 4) && decide (1 <= v) && decide (v <= 2000)) = r)) : Calls Tryz.prog 99 #[.int .i64 o, .int .i64 v] w fun e w' => e = .returned (.bool r) /\ w = w' := by
 have hr0 := hr.out
 clear hr
 rcases (show ¬ 1 <= o ∨ (1 <= o /\ ¬ o <= 4) ∨ (1 <= o /\ o <= 4 /\ ¬ 1 <= v) ∨ (1 <= o /\ o <= 4 /\ 1 <= v /\ ¬ v <= 2000) ∨ (1 <= o /\ o <= 4 /\ 1 <= v /\ v <= 2000) by omega) with h1 | ⟨h1, h2⟩ | ⟨h1, h2, h3⟩ | ⟨h1, h2, h3, h4⟩ | ⟨h1, h2, h3, h4⟩
 all_goals
  simp only [h1, decide_true, decide_false, Bool.true_and, Bool.false_and] at hr0
  try simp only [h2, decide_true, decide_false, Bool.true_and, Bool.false_and] at hr0
  try simp only [h3, decide_true, decide_false, Bool.true_and, Bool.false_and] at hr0
  try simp only [h4, decide_true, decide_false] at hr0
  subst hr0
  go_enter Tryz.func99, Tryz.ntmps99
  go_wp2_with fail
  go_ret
  exact ⟨ret_bool (by simp; try omega), rfl⟩
theorem vCheckTable_any (o v : Int) (A : Option Addr) (c : Nat) (L : List Gm) (w : World) (h : Tb w A L) (hn : L.length <= 9223372036854775807) (r : Int) (hr : Hid (tabR o v (tblOf L) = r)) :
  Calls Tryz.prog 42 #[.agg #[.int .i64 o, .int .i64 v, .slice A L.length c]] w (RetIB r w) := by
 obtain ⟨W, hW⟩ : ∃ W : World, W = w.alloc (.cells #[.int .i64 o, .int .i64 v, .slice A L.length c] 84) := ⟨_, rfl⟩
 have HTL : Hid ((tblOf L).length = L.length) := zH (by simp)
 have HB0 : Hid (Below w.heap.size w W) := zH (by rw [hW]; exact (Below.refl _ _).alloc (Nat.le_refl _) _)
 have hWs : w.heap.size < W.heap.size := by rw [hW]; simp
 have HC : Hid (∀ u, Below W.heap.size W u -> u.cell? ⟨w.heap.size, 0, none⟩ = some (.int .i64 o) /\ u.cell? ⟨w.heap.size, 1, none⟩ = some (.int .i64 v) /\ u.cell? ⟨w.heap.size, 2, none⟩ = some (.slice A L.length c)) := zH (fun u hu => by
  have hs : w.heap.size < W.heap.size := by rw [hW]; simp
  rw [hu.cell (p := ⟨w.heap.size, 0, none⟩) hs, hu.cell (p := ⟨w.heap.size, 1, none⟩) hs, hu.cell (p := ⟨w.heap.size, 2, none⟩) hs, hW]
  simp [go_sem])
 have HT := zH (h.below HB0.out)
 have hr0 := hr.out
 unfold tabR at hr0
 rw [HTL.out] at hr0
 have HRW := zH (Below.refl W.heap.size W)
 clear h hr
 obtain ⟨c0, c1, c2⟩ := HC.out W HRW.out
 by_cases h1 : 20000 < L.length
 ·rw [if_pos h1] at hr0
  subst hr0
  go_enter Tryz.func42, Tryz.ntmps42
  go_wp2_with fail
  go_ret
  exact ⟨rfl, by rw [<- hW]; exact HB0.out⟩
 ·rw [if_neg h1] at hr0
  cases hs : sizedB o v with
  | false =>
   rw [hs, if_neg (by decide)] at hr0
   subst hr0
   have HS := zH hs
   clear hs
   go_enter Tryz.func42, Tryz.ntmps42
   go_wp2_with (go_at_call 99; refine (Sizes_any o v _ false HS).mono ?_; rintro e w' ⟨rfl, rfl⟩)
   go_ret
   exact ⟨rfl, by rw [<- hW]; exact HB0.out⟩
  | true =>
   rw [hs, if_pos rfl] at hr0
   have HS := zH hs
   have HR := zH hr0
   clear hs hr0
   go_enter Tryz.func42, Tryz.ntmps42
   go_wp2_with (go_at_call 99; refine (Sizes_any o v _ true HS).mono ?_; rintro e w' ⟨rfl, rfl⟩)
   rw [<- hW]
   clear hW c0 c1 c2
   go_loopw [3] (fun i wr => ∃ k : Nat, k <= L.length /\ i = .int .i64 k /\ Hid (∀ j, j < k -> rowOk o v (tblOf L) j = true) /\ Hid (Below W.heap.size W wr)) (fun i _ => L.length - (intOf i).toNat)
   case atStart => exact ⟨0, by omega, rfl, zH (fun j hj => by omega), HRW⟩
   case round =>
    obtain ⟨k, hk, rfl, HOK, HW⟩ := hrel
    by_cases hlt : k < L.length
    ·obtain ⟨bk, off, rfl, hbk, hcw, hcn⟩ := (HT.out.below HW.out).at_ hlt
     obtain ⟨c0, c1, c2⟩ := HC.out _ HW.out
     have HX := zH ((HT.out.below HW.out).inn _ (List.getElem_mem hlt))
     have hgk : gmAt (tblOf L) k = (L[k].1.2.2, L[k].2) := by rw [gmAt_get (by rw [HTL.out]; exact hlt)]; simp
     have hws : W.heap.size <= wr.heap.size := HW.out.size
     have hws2 : w.heap.size < wr.heap.size := by omega
     have HPRE : Hid (∀ j, j < k -> wr.cell? ⟨bk, off + j * 2, none⟩ = some (.slice (L[j]?.getD ((none, 0, []), 0)).1.1 (L[j]?.getD ((none, 0, []), 0)).1.2.2.length (L[j]?.getD ((none, 0, []), 0)).1.2.1)) := zH (fun j hj => by
      obtain ⟨b2, o2, e2, _, h2, _⟩ := (HT.out.below HW.out).at_ (k := j) (by omega)
      cases e2
      rw [List.getElem?_eq_getElem (show j < L.length by omega)]; exact h2)
     have HXJ : Hid (∀ j, j < k -> InOk wr (L[j]?.getD ((none, 0, []), 0)).1 /\ gmAt (tblOf L) j = ((L[j]?.getD ((none, 0, []), 0)).1.2.2, (L[j]?.getD ((none, 0, []), 0)).2) /\ ((L[j]?.getD ((none, 0, []), 0)).1.2.2.length : Int) = o) := zH (fun j hj => by
      have hj' : j < L.length := by omega
      have hro := HOK.out j hj
      rw [List.getElem?_eq_getElem hj']
      have hg2 : gmAt (tblOf L) j = (L[j].1.2.2, L[j].2) := by rw [gmAt_get (by rw [HTL.out]; exact hj')]; simp
      refine ⟨(HT.out.below HW.out).inn _ (List.getElem_mem hj'), by simpa using hg2, ?_⟩
      unfold rowOk at hro
      rw [Bool.and_eq_true] at hro
      have := (gmOk_iff.1 hro.1).1
      rw [hg2] at this
      simpa using this)
     have HNO : Hid (rowOk o v (tblOf L) k = false -> r = 2) := zH (fun hb => by rw [<- HR.out, if_neg (by rw [tab_no (k := k) (by rw [HTL.out]; exact hlt) hb]; decide)])
     have HYES : Hid (rowOk o v (tblOf L) k = true -> ∀ j, j < k + 1 -> rowOk o v (tblOf L) j = true) := zH (fun hb j hj => by
      by_cases e : j = k
      ·rw [e]; exact hb
      ·exact HOK.out j (by omega))
     have HG := zH hgk
     clear hgk HOK
     generalize L[k] = g at *
     obtain ⟨⟨XA, Xc, xl⟩, xn⟩ := g
     simp only at *
     obtain ⟨V, hV⟩ : ∃ V : World, V = wr.alloc (.cells #[.slice XA xl.length Xc, .int .i64 xn] 114) := ⟨_, rfl⟩
     have HVB : Hid (Below wr.heap.size wr V) := zH (by rw [hV]; exact (Below.refl _ _).alloc (Nat.le_refl _) _)
     have hVs : wr.heap.size < V.heap.size := by rw [hV]; simp
     have HVC : Hid (V.cell? ⟨wr.heap.size, 0, none⟩ = some (.slice XA xl.length Xc) /\ V.cell? ⟨wr.heap.size, 1, none⟩ = some (.int .i64 xn) /\ V.cell? ⟨w.heap.size, 0, none⟩ = some (.int .i64 o) /\ V.cell? ⟨w.heap.size, 1, none⟩ = some (.int .i64 v) /\ V.cell? ⟨w.heap.size, 2, none⟩ = some (.slice (some ⟨bk, off, none⟩) L.length c)) := zH (by
      obtain ⟨a0, a1, a2⟩ := HC.out V (HW.out.trans (HVB.out.mono HW.out.size))
      rw [hV] at a0 a1 a2 ⊢
      exact ⟨by simp [go_sem], by simp [go_sem], a0, a1, a2⟩)
     have HWV := zH (HW.out.trans (HVB.out.mono HW.out.size))
     have HXV := zH (HX.out.1.below HVB.out)
     have hxn := HX.out.2.2.1
     have HBF := zH (HB0.out.trans (HWV.out.mono HB0.out.size))
     obtain ⟨d0, d1, d2, d3, d4⟩ := HVC.out
     by_cases a1 : (xl.length : Int) = o
     ·have q1 : ((xl.length : Int) != o) = false := by simp [a1]
      cases ha2 : allR 0 v xl with
      | false =>
       have HA2 := zH ha2
       have hz := HNO.out (by unfold rowOk; rw [HG.out]; simp [gmOk, ha2])
       subst hz
       have HF := zH (fun m => vfits_quiet XA Xc xl v V HXV.out hxn false HA2 m)
       clear ha2 HNO HYES HR a1 HPRE HXJ
       go_wp2_with fail
       rw [<- hV]
       clear hV
       go_quiet ((go_at_call 100; with_reducible exact Calls.quiet_of (HF.out _)))
       go_wp2_with fail
       go_ret
       exact ⟨rfl, HBF.out.drw _⟩
      | true =>
       have HA2 := zH ha2
       have HF := zH (fun m => vfits_quiet XA Xc xl v V HXV.out hxn true HA2 m)
       clear ha2
       by_cases a3 : 1 <= xn
       ·have g3 : decide (xn < 1) = false := by simp; omega
        by_cases a4 : xn <= 1073741824
        ·have g4 : decide (1073741824 < xn) = false := by simp; omega
         have HGM : Hid (gmOk o v (xl, xn) = true) := zH (gmOk_iff.2 ⟨a1, HA2.out, a3, a4⟩)
         by_cases hk0 : k = 0
         ·have HOK2 := zH (HYES.out (by unfold rowOk; rw [HG.out, HGM.out, hk0]; rfl))
          have qk : decide ((0 : Int) < (k : Int)) = false := by simp [hk0]
          have qk2 : decide (0 < k) = false := by simp [hk0]
          clear HNO HYES HR a1 HPRE HXJ hk0
          go_wp2_with fail
          rw [<- hV]
          clear hV
          go_quiet ((go_at_call 100; with_reducible exact Calls.quiet_of (HF.out _)))
          go_wp2_with fail
          exact ⟨⟨k + 1, by omega, by go_num, HOK2, zH (HWV.out.drw _)⟩, by simp [intOf]; omega⟩
         ·have hpj := HPRE.out (k - 1) (by omega)
          obtain ⟨hxj, hgj, hoj⟩ := HXJ.out (k - 1) (by omega)
          generalize L[k - 1]?.getD ((none, 0, []), 0) = gp at *
          obtain ⟨⟨PA, Pc, pl⟩, pn⟩ := gp
          simp only at *
          have HPV := zH (hxj.1.below HVB.out)
          have hpn := hxj.2.2.1
          have qk : decide ((0 : Int) < (k : Int)) = true := by simp; omega
          have qk2 : decide (0 < k) = true := by simp; omega
          have p1 : IntKind.i64.wrap ((k : Int) - 1) = (k : Int) - 1 := IntWalk.i64_in _ (by omega)
          have p2 : (0 : Int) <= (k : Int) - 1 := by omega
          have p3 : ((k : Int) - 1).toNat = k - 1 := by omega
          have p4 : (k : Int) - 1 < (L.length : Int) := by omega
          have p5 : 1 <= k := by omega
          have p6 : (1 : Int) <= (k : Int) := by omega
          have p7 : 0 < k := by omega
          have p8 : ¬ (L.length : Int) <= (k : Int) - 1 := by omega
          have p9 : ¬ ((k : Int) - 1 < 0) := by omega
          obtain ⟨s, hs⟩ : ∃ s, s = cmpL pl xl := ⟨_, rfl⟩
          have HS2 := zH hs.symm
          have HROW : Hid (rowOk o v (tblOf L) k = decide (s < 0)) := zH (by unfold rowOk; rw [HG.out, HGM.out, hgj, hs]; simp [hk0])
          have e0 : V.cell? ⟨bk, off + (k - 1) * 2, none⟩ = some (.slice PA pl.length Pc) := by
           rw [HVB.out.cell (p := ⟨bk, off + (k - 1) * 2, none⟩) hbk]
           exact hpj
          rw [hV] at e0
          have HQ := zH (fun m => vorder_quiet PA XA Pc Xc pl xl V HPV.out HXV.out (by omega) hpn s HS2 m)
          by_cases hlt0 : s < 0
          ·have g5 : decide (0 <= s) = false := by simp; omega
           have HOK2 := zH (HYES.out (by rw [HROW.out]; simp [hlt0]))
           clear HNO HYES HR a1 HPRE HXJ hk0 hs hgj hxj hpj hoj
           rw [<- hV] at e0
           go_wp2_with fail
           rw [<- hV]
           clear hV
           go_quiet (first | (go_at_call 100; with_reducible exact Calls.quiet_of (HF.out _)) | (go_at_call 101; with_reducible exact Calls.quiet_of (HQ.out _)))
           go_wp2_with fail
           exact ⟨⟨k + 1, by omega, by go_num, HOK2, zH (HWV.out.drw _)⟩, by simp [intOf]; omega⟩
          ·have g5 : decide (0 <= s) = true := by simp; omega
           have hz := HNO.out (by rw [HROW.out]; simp [hlt0])
           subst hz
           have hge : 0 <= s := by omega
           clear HNO HYES HR a1 HPRE HXJ hk0 hs hgj hxj hpj hoj
           rw [<- hV] at e0
           go_wp2_with fail
           rw [<- hV]
           clear hV
           go_quiet (first | (go_at_call 100; with_reducible exact Calls.quiet_of (HF.out _)) | (go_at_call 101; with_reducible exact Calls.quiet_of (HQ.out _)))
           go_wp2_with fail
           go_ret
           exact ⟨rfl, HBF.out.drw _⟩
        ·have g4 : decide (1073741824 < xn) = true := by simp; omega
         have hz := HNO.out (by unfold rowOk; rw [HG.out, Bool.eq_false_iff]; intro ht; rw [Bool.and_eq_true] at ht; exact a4 (gmOk_iff.1 ht.1).2.2.2)
         subst hz
         clear HNO HYES HR a1 HPRE HXJ
         go_wp2_with fail
         rw [<- hV]
         clear hV
         go_quiet ((go_at_call 100; with_reducible exact Calls.quiet_of (HF.out _)))
         go_wp2_with fail
         go_ret
         exact ⟨rfl, HBF.out.drw _⟩
       ·have g3 : decide (xn < 1) = true := by simp; omega
        have hz := HNO.out (by unfold rowOk; rw [HG.out, Bool.eq_false_iff]; intro ht; rw [Bool.and_eq_true] at ht; exact a3 (gmOk_iff.1 ht.1).2.2.1)
        subst hz
        clear HNO HYES HR a1 HPRE HXJ
        go_wp2_with fail
        rw [<- hV]
        clear hV
        go_quiet ((go_at_call 100; with_reducible exact Calls.quiet_of (HF.out _)))
        go_wp2_with fail
        go_ret
        exact ⟨rfl, HBF.out.drw _⟩
     ·have q1 : ((xl.length : Int) != o) = true := by simp [a1]
      have hz := HNO.out (by unfold rowOk; rw [HG.out, Bool.eq_false_iff]; intro ht; rw [Bool.and_eq_true] at ht; exact a1 (gmOk_iff.1 ht.1).1)
      subst hz
      clear HNO HYES HR HPRE HXJ
      go_wp2_with fail
      rw [<- hV]
      clear hV
      go_quiet (fail)
      go_wp2_with fail
      go_ret
      exact ⟨rfl, HBF.out.drw _⟩
    ·obtain rfl : k = L.length := by omega
     obtain ⟨c0, c1, c2⟩ := HC.out _ HW.out
     have hz : r = 0 := by rw [<- HR.out, if_pos (tab_yes fun j hj => HOK.out j (by rw [HTL.out] at hj; exact hj))]
     subst hz
     have HBF := zH (HB0.out.trans (HW.out.mono HB0.out.size))
     clear HR HOK
     go_wp2_with fail
     go_ret
     exact ⟨rfl, HBF.out⟩
theorem below_drew1 {B : Nat} {w w' : World} (h : Below B w w') : Below B w w'.drew := ⟨h.os, h.tape, h.output, h.size, h.block⟩
theorem two_fst (w : World) (o1 o2 : Obj) : ((w.alloc o1).alloc o2).drew.heap[w.heap.size]? = some o1 := (Below.heap_alloc _ _ _ (by simp)).trans (heap_alloc_new w _)
theorem two_snd (w : World) (o1 o2 : Obj) : ((w.alloc o1).alloc o2).drew.heap[w.heap.size + 1]? = some o2 := by
 have h := heap_alloc_new (w.alloc o1) o2
 rw [show (w.alloc o1).heap.size = w.heap.size + 1 by simp] at h
 exact h
theorem SameTable_any (o v o2 v2 : Int) (A B : Option Addr) (c d : Nat) (L M : List Gm) (w : World) (hL : Tb w A L) (hM : Tb w B M) (hn : L.length <= 1000000) (_hm : M.length <= 1000000) (r : Bool) (hr : Hid (decide (o = o2 /\ v = v2 /\ tblOf L = tblOf M) = r)) :
  Calls Tryz.prog 49 #[.agg #[.int .i64 o, .int .i64 v, .slice A L.length c], .agg #[.int .i64 o2, .int .i64 v2, .slice B M.length d]] w (RetB r w) := by
 obtain ⟨W, hW⟩ : ∃ W : World, W = (w.alloc (.cells #[.int .i64 o, .int .i64 v, .slice A L.length c] 84)).alloc (.cells #[.int .i64 o2, .int .i64 v2, .slice B M.length d] 84) := ⟨_, rfl⟩
 have HB0 : Hid (Below w.heap.size w W) := zH (by rw [hW]; exact al2 w _ _)
 have hWs : W.heap.size = w.heap.size + 2 := by rw [hW]; simp
 have HC : Hid (∀ u, Below W.heap.size W u -> u.cell? ⟨w.heap.size, 0, none⟩ = some (.int .i64 o) /\ u.cell? ⟨w.heap.size, 1, none⟩ = some (.int .i64 v) /\ u.cell? ⟨w.heap.size, 2, none⟩ = some (.slice A L.length c) /\
   u.cell? ⟨w.heap.size + 1, 0, none⟩ = some (.int .i64 o2) /\ u.cell? ⟨w.heap.size + 1, 1, none⟩ = some (.int .i64 v2) /\ u.cell? ⟨w.heap.size + 1, 2, none⟩ = some (.slice B M.length d)) := zH (fun u hu => by
  have hs : w.heap.size < W.heap.size := by omega
  have hs2 : w.heap.size + 1 < W.heap.size := by omega
  rw [hu.cell (p := ⟨w.heap.size, 0, none⟩) hs, hu.cell (p := ⟨w.heap.size, 1, none⟩) hs, hu.cell (p := ⟨w.heap.size, 2, none⟩) hs, hu.cell (p := ⟨w.heap.size + 1, 0, none⟩) hs2, hu.cell (p := ⟨w.heap.size + 1, 1, none⟩) hs2, hu.cell (p := ⟨w.heap.size + 1, 2, none⟩) hs2, hW]
  simp [go_sem])
 have HTL : Hid ((tblOf L).length = L.length /\ (tblOf M).length = M.length) := zH (by simp)
 have HL := zH (hL.below HB0.out)
 have HM := zH (hM.below HB0.out)
 have HRW := zH (Below.refl W.heap.size W)
 obtain ⟨c0, c1, c2, c3, c4, c5⟩ := HC.out W HRW.out
 have HWS := zH hWs
 clear hL hM hWs
 by_cases e1 : o = o2
 ·by_cases e2 : v = v2
  ·by_cases e3 : L.length = M.length
   ·subst e1 e2
    have E3 := zH e3
    have HR : Hid (decide (tblOf L = tblOf M) = r) := zH (by rw [<- hr.out]; simp)
    rw [<- e3] at c5 HC hW
    have q3 : ((L.length : Int) != (M.length : Int)) = false := by simp [e3]
    have q3' : ((L.length : Int) != (L.length : Int)) = false := by simp
    go_enter Tryz.func49, Tryz.ntmps49
    rw [<- e3]
    clear e3 hr q3
    go_wp2_with fail
    rw [<- hW]
    clear hW c0 c1 c2 c3 c4 c5
    go_loopw [5] (fun i wr => ∃ k : Nat, k <= L.length /\ i = .int .i64 k /\ Hid ((tblOf L).take k = (tblOf M).take k) /\ Hid (Below W.heap.size W wr)) (fun i _ => L.length - (intOf i).toNat)
    case atStart => exact ⟨0, by omega, rfl, zH (by simp), HRW⟩
    case round =>
     obtain ⟨k, hk, rfl, HOK, HW⟩ := hrel
     obtain ⟨c0, c1, c2, c3, c4, c5⟩ := HC.out _ HW.out
     by_cases hlt : k < L.length
     ·have hlm : k < M.length := by rw [<- E3.out]; exact hlt
      obtain ⟨bk, off, rfl, hbk, hcw, hcn⟩ := (HL.out.below HW.out).at_ hlt
      obtain ⟨bm, ofm, rfl, hbm, hdw, hdn⟩ := (HM.out.below HW.out).at_ hlm
      have HX := zH ((HL.out.below HW.out).inn _ (List.getElem_mem hlt))
      have HY := zH ((HM.out.below HW.out).inn _ (List.getElem_mem hlm))
      have HT : Hid ((tblOf L).take (k + 1) = (tblOf L).take k ++ [(L[k].1.2.2, L[k].2)] /\ (tblOf M).take (k + 1) = (tblOf M).take k ++ [(M[k].1.2.2, M[k].2)]) := zH ⟨by rw [List.take_succ_eq_append_getElem (by rw [HTL.out.1]; exact hlt)]; simp, by rw [List.take_succ_eq_append_getElem (by rw [HTL.out.2]; exact hlm)]; simp⟩
      have HNO : Hid ((L[k].1.2.2, L[k].2) ≠ (M[k].1.2.2, M[k].2) -> r = false) := zH (fun hne => by
       rw [<- HR.out]
       refine decide_eq_false fun e => hne ?_
       have h1 : (tblOf L)[k]? = (tblOf M)[k]? := by rw [e]
       rw [List.getElem?_map, List.getElem?_map, List.getElem?_eq_getElem hlt, List.getElem?_eq_getElem hlm] at h1
       simpa using h1)
      have hws : w.heap.size < wr.heap.size := by have := HW.out.size; have := HWS.out; omega
      have hws2 : w.heap.size + 1 < wr.heap.size := by have := HW.out.size; have := HWS.out; omega

      generalize L[k] = g at *
      generalize M[k] = g' at *
      obtain ⟨⟨XA, Xc, xl⟩, xn⟩ := g
      obtain ⟨⟨YA, Yc, yl⟩, yn⟩ := g'
      simp only at *
      go_upto_region 6 with fail
      go_cut [6, 7] from 29 to 67 (fun t6 t7 wx => ∃ k6 k7, t6 = .pointer (some ⟨k6, 0, none⟩) /\ t7 = .pointer (some ⟨k7, 0, none⟩) /\ wx.heap[k6]? = some (.cells #[.slice XA xl.length Xc, .int .i64 xn] 114 (0, 0)) /\ wx.heap[k7]? = some (.cells #[.slice YA yl.length Yc, .int .i64 yn] 114 (0, 0)) /\ Below wr.heap.size wr wx)
      case first =>
       go_region
       all_goals (go_wp2_with fail; go_meet)
       ·exact ⟨_, _, rfl, rfl, two_fst _ _ _, two_snd _ _ _, below_drew1 (al2 _ _ _)⟩
       ·exact ⟨_, _, rfl, rfl, two_snd _ _ _, two_fst _ _ _, below_drew1 (al2 _ _ _)⟩
      case rest =>
       obtain ⟨k6, k7, rfl, rfl, h6, h7, hbx⟩ := hcut
       have HBX := zH hbx
       have HWX := zH (HW.out.trans (hbx.mono HW.out.size))
       have HBF := zH (HB0.out.trans (HWX.out.mono HB0.out.size))
       have HX1 : Hid (Lies wc XA (ics xl)) := zH (HX.out.1.below hbx)
       have HY1 : Hid (Lies wc YA (ics yl)) := zH (HY.out.1.below hbx)
       have d0 : wc.cell? ⟨k6, 0, none⟩ = some (.slice XA xl.length Xc) := (cell_of_row _ _ 0 _ _ _ h6).trans rfl
       have d1 : wc.cell? ⟨k6, 1, none⟩ = some (.int .i64 xn) := (cell_of_row _ _ 1 _ _ _ h6).trans rfl
       have d2 : wc.cell? ⟨k7, 0, none⟩ = some (.slice YA yl.length Yc) := (cell_of_row _ _ 0 _ _ _ h7).trans rfl
       have d3 : wc.cell? ⟨k7, 1, none⟩ = some (.int .i64 yn) := (cell_of_row _ _ 1 _ _ _ h7).trans rfl
       have hxn : xl.length <= 9223372036854775807 := HX.out.2.2.1
       have hyn : yl.length <= 9223372036854775807 := HY.out.2.2.1
       clear h6 h7 hbx c0 c1 c2 c3 c4 c5 hcw hcn hdw hdn
       by_cases a1 : xn = yn
       ·have q1 : (xn != yn) = false := by simp [a1]
        by_cases a2 : xl.length = yl.length
        ·have q2 : ((xl.length : Int) != (yl.length : Int)) = false := by simp [a2]
         obtain ⟨s, hs⟩ : ∃ s, s = cmpL xl yl := ⟨_, rfl⟩
         have HC0 := zH (vorder_any XA YA Xc Yc xl yl wc HX1.out HY1.out a2 hxn s (zH hs.symm))
         by_cases a3 : s = 0
         ·have HOK2 : Hid ((tblOf L).take (k + 1) = (tblOf M).take (k + 1)) := zH (by rw [HT.out.1, HT.out.2, HOK.out, a1, cmpL_zero.1 (hs.symm.trans a3)])
          have q3 : (s != 0) = false := by simp [a3]
          clear hs a3 HNO HT HOK a1 a2
          go_wp2_with fail
          refine HC0.out.mono ?_
          rintro e w2 ⟨rfl, n, rfl⟩
          go_wp2_with fail
          exact ⟨⟨k + 1, by omega, by go_num, HOK2, zH (HWX.out.drw _)⟩, by simp [intOf]; omega⟩
         ·have hz := HNO.out (fun e => a3 (hs.trans (cmpL_zero.2 (congrArg Prod.fst e))))
          subst hz
          have q3 : (s != 0) = true := by simp [a3]
          clear hs a3 HNO HT HOK a1 a2
          go_wp2_with fail
          refine HC0.out.mono ?_
          rintro e w2 ⟨rfl, n, rfl⟩
          go_wp2_with fail
          go_ret
          exact ⟨rfl, HBF.out.drw _⟩
        ·have hz := HNO.out (fun e => a2 (congrArg (fun z : List Int × Int => z.1.length) e))
         subst hz
         have q2 : ((xl.length : Int) != (yl.length : Int)) = true := by simp; omega
         clear HNO HT HOK a1
         go_wp2_with fail
         go_ret
         exact ⟨rfl, HBF.out⟩
       ·have hz := HNO.out (fun e => a1 (congrArg Prod.snd e))
        subst hz
        have q1 : (xn != yn) = true := by simp [a1]
        clear HNO HT HOK
        go_wp2_with fail
        go_ret
        exact ⟨rfl, HBF.out⟩
     ·obtain rfl : k = L.length := by omega
      have hz : r = true := by
       rw [<- HR.out]
       refine decide_eq_true ?_
       have := HOK.out
       rwa [List.take_of_length_le (by rw [HTL.out.1]; exact Nat.le_refl _), List.take_of_length_le (by rw [HTL.out.2, E3.out]; exact Nat.le_refl _)] at this
      subst hz
      go_wp2_with fail
      go_ret
      exact ⟨rfl, HB0.out.trans (HW.out.mono HB0.out.size)⟩
   ·have hz : r = false := by
     rw [<- hr.out]
     refine decide_eq_false fun e => e3 ?_
     rw [<- HTL.out.1, <- HTL.out.2, e.2.2]
    subst hz
    have q3 : ((L.length : Int) != (M.length : Int)) = true := by simp; omega
    subst e1 e2
    go_enter Tryz.func49, Tryz.ntmps49
    go_wp2_with fail
    go_ret
    exact ⟨rfl, by rw [<- hW]; exact HB0.out⟩
  ·have hz : r = false := by rw [<- hr.out]; exact decide_eq_false fun e => e2 e.2.1
   subst hz
   have q2 : (v != v2) = true := by simp [e2]
   subst e1
   go_enter Tryz.func49, Tryz.ntmps49
   go_wp2_with fail
   go_ret
   exact ⟨rfl, by rw [<- hW]; exact HB0.out⟩
 ·have hz : r = false := by rw [<- hr.out]; exact decide_eq_false fun e => e1 e.1
  subst hz
  have q1 : (o != o2) = true := by simp [e1]
  go_enter Tryz.func49, Tryz.ntmps49
  go_wp2_with fail
  go_ret
  exact ⟨rfl, by rw [<- hW]; exact HB0.out⟩
abbrev Stp := Int × Inn × Int
abbrev stcs (L : List Stp) : List Value := L.flatMap fun s => [Value.int .i64 s.1, Value.slice s.2.1.1 s.2.1.2.2.length s.2.1.2.1, Value.int .i64 s.2.2]
theorem stcs_length (L : List Stp) : (stcs L).length = L.length * 3 := by
 induction L with
 | nil => rfl
 | cons g L ih => simp [stcs] at ih ⊢; omega
theorem stcs_get : ∀ (L : List Stp) {k : Nat} (hk : k < L.length), (stcs L)[k * 3]? = some (.int .i64 L[k].1) /\ (stcs L)[k * 3 + 1]? = some (.slice L[k].2.1.1 L[k].2.1.2.2.length L[k].2.1.2.1) /\ (stcs L)[k * 3 + 2]? = some (.int .i64 L[k].2.2)
 | [], k, hk => by simp at hk
 | g :: L, 0, _ => by simp [stcs]
 | g :: L, k + 1, hk => by
  have := stcs_get L (k := k) (by simpa using hk)
  rw [show (k + 1) * 3 = k * 3 + 1 + 1 + 1 by omega]
  simpa [stcs] using this
theorem Lies.stp {w : World} {A : Option Addr} {L : List Stp} (h : Lies w A (stcs L)) {k : Nat} (hk : k < L.length) :
  ∃ b off, A = some ⟨b, off, none⟩ /\ b < w.heap.size /\ w.cell? ⟨b, off + k * 3, none⟩ = some (.int .i64 L[k].1) /\ w.cell? ⟨b, off + k * 3 + 1, none⟩ = some (.slice L[k].2.1.1 L[k].2.1.2.2.length L[k].2.1.2.1) /\ w.cell? ⟨b, off + k * 3 + 2, none⟩ = some (.int .i64 L[k].2.2) := by
 obtain ⟨b, off, e, hlt, hc⟩ := h (by rw [stcs_length]; omega)
 obtain ⟨h1, h2, h3⟩ := stcs_get L hk
 exact ⟨b, off, e, hlt, hc _ _ h1, by rw [Nat.add_assoc]; exact hc _ _ h2, by rw [Nat.add_assoc]; exact hc _ _ h3⟩
def midB (n : Nat) : Bool := (decide (8 < n) && decide (n <= 500)) || decide (600 < n)
def smallR (n : Nat) (ns : List Nat) (m : Int) : Bool := decide (n <= 60) && decide ((ns.length : Int) <= m) && ns.all (fun k => !midB k)
theorem small_any (o v : Int) (TA A : Option Addr) (tc n c : Nat) (L : List Stp) (m : Int) (w : World) (h : Lies w A (stcs L)) (hn : L.length <= 9223372036854775807) (hnn : n <= 9223372036854775807) (hln : Hid (∀ s ∈ L, s.2.1.2.2.length <= 9223372036854775807)) (r : Bool) (hr : Hid (smallR n (L.map fun s => s.2.1.2.2.length) m = r)) :
  Calls Tryz.prog 40 #[.agg #[.int .i64 o, .int .i64 v, .slice TA n tc], .slice A L.length c, .int .i64 m] w (RetB r w) := by
 obtain ⟨W, hW⟩ : ∃ W : World, W = w.alloc (.cells #[.int .i64 o, .int .i64 v, .slice TA n tc] 84) := ⟨_, rfl⟩
 have HB0 : Hid (Below w.heap.size w W) := zH (by rw [hW]; exact (Below.refl _ _).alloc (Nat.le_refl _) _)
 have HL := zH (h.below HB0.out)
 clear h
 by_cases h1 : 60 < n
 ·have hz : r = false := by rw [<- hr.out]; unfold smallR; rw [decide_eq_false (by omega : ¬ n <= 60)]; rfl
  subst hz
  go_enter Tryz.func40, Tryz.ntmps40
  go_wp2_with fail
  go_ret
  exact ⟨rfl, by rw [<- hW]; exact HB0.out⟩
 ·by_cases h2 : m < (L.length : Int)
  ·have hz : r = false := by rw [<- hr.out]; unfold smallR; rw [List.length_map, decide_eq_false (by omega : ¬ (L.length : Int) <= m)]; simp
   subst hz
   go_enter Tryz.func40, Tryz.ntmps40
   go_wp2_with fail
   go_ret
   exact ⟨rfl, by rw [<- hW]; exact HB0.out⟩
  ·have HR : Hid ((L.map fun s => s.2.1.2.2.length).all (fun k => !midB k) = r) := zH (by
    rw [<- hr.out]; unfold smallR; rw [List.length_map, decide_eq_true (by omega : n <= 60), decide_eq_true (by omega : (L.length : Int) <= m)]; simp)
   clear hr
   go_enter Tryz.func40, Tryz.ntmps40
   go_wp2_with fail
   rw [<- hW]
   clear hW
   go_loop [7] (fun i => ∃ k : Nat, k <= L.length /\ i = .int .i64 k /\ Hid (((L.map fun s => s.2.1.2.2.length).take k).all (fun k => !midB k) = true)) (fun i => L.length - (intOf i).toNat)
   case atStart => exact ⟨0, by omega, rfl, zH (by simp)⟩
   case round =>
    obtain ⟨k, hk, rfl, HOK⟩ := hrel
    by_cases hlt : k < L.length
    ·obtain ⟨b, off, rfl, hb, hc0, hc1, hc2⟩ := HL.out.stp hlt
     have hxn := hln.out _ (List.getElem_mem hlt)
     have HT : Hid (((L.map fun s => s.2.1.2.2.length).take (k + 1)) = ((L.map fun s => s.2.1.2.2.length).take k) ++ [L[k].2.1.2.2.length]) := zH (by rw [List.take_succ_eq_append_getElem (by simpa using hlt)]; simp)
     have HF : Hid (midB L[k].2.1.2.2.length = true -> r = false) := zH (fun hb => by
      rw [<- HR.out, List.all_eq_false]
      exact ⟨_, List.mem_map_of_mem (f := fun s : Stp => s.2.1.2.2.length) (List.getElem_mem hlt), by simp [hb]⟩)
     generalize L[k] = g at *
     obtain ⟨sk, ⟨SA, Sc, sl⟩, st⟩ := g
     simp only at *
     generalize sl.length = N at *
     by_cases hm : midB N = true
     ·have hz := HF.out hm
      subst hz
      unfold midB at hm
      simp only [Bool.or_eq_true, Bool.and_eq_true, decide_eq_true_eq] at hm
      rcases (show (8 < N /\ N <= 500) ∨ (8 < N /\ ¬ N <= 500 /\ 600 < N) by omega) with ⟨m1, m2⟩ | ⟨m1, m2, m3⟩
      ·clear hm HF HT HOK HR
       go_wp2_with fail
       go_ret
       exact ⟨rfl, HB0.out⟩
      ·clear hm HF HT HOK HR
       go_wp2_with fail
       go_ret
       exact ⟨rfl, HB0.out⟩
     ·have HOK2 : Hid (((L.map fun s => s.2.1.2.2.length).take (k + 1)).all (fun k => !midB k) = true) := zH (by rw [HT.out, List.all_append, HOK.out]; simpa using hm)
      unfold midB at hm
      simp only [Bool.or_eq_true, Bool.and_eq_true, decide_eq_true_eq] at hm
      rcases (show (¬ 8 < N) ∨ (8 < N /\ ¬ N <= 500 /\ ¬ 600 < N) by omega) with m1 | ⟨m1, m2, m3⟩
      ·have m4 : ¬ 600 < N := by omega
       clear hm HF HT HOK HR
       go_wp2_with fail
       exact ⟨⟨k + 1, by omega, by go_num, HOK2⟩, by simp [intOf]; omega⟩
      ·clear hm HF HT HOK HR
       go_wp2_with fail
       exact ⟨⟨k + 1, by omega, by go_num, HOK2⟩, by simp [intOf]; omega⟩
    ·obtain rfl : k = L.length := by omega
     have hz : r = true := by
      rw [<- HR.out]
      have := HOK.out
      rwa [List.take_of_length_le (by simp)] at this
     subst hz
     go_wp2_with fail
     go_ret
     exact ⟨rfl, HB0.out⟩
end Go.Proofs.YtcjicjfbippmnaaGreat
