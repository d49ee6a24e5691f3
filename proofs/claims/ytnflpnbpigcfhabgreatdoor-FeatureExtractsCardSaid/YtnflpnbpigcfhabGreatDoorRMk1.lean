/- the reference's make1 where the denominator is 1 -/
import Derived.Test.YtnflpnbpigcfhabGreatDoorRFrc
import Derived.Test.YtnflpnbpigcfhabGreatDoorMc
namespace Go.Proofs.YtnflpnbpigcfhabGreatDoor
open Go.RowKit Ear

/-- three cells stored one after the other, read again -/
theorem box3 {W : World} {k : Nat} {u0 u1 u2 : Value} (v0 v1 v2 : Value) (h0 : W.cell? ⟨k, 0, none⟩ = some u0) (h1 : W.cell? ⟨k, 1, none⟩ = some u1) (h2 : W.cell? ⟨k, 2, none⟩ = some u2) :
    (((W.setCell ⟨k, 0, none⟩ v0).setCell ⟨k, 1, none⟩ v1).setCell ⟨k, 2, none⟩ v2).cell? ⟨k, 0, none⟩ = some v0 ∧ (((W.setCell ⟨k, 0, none⟩ v0).setCell ⟨k, 1, none⟩ v1).setCell ⟨k, 2, none⟩ v2).cell? ⟨k, 1, none⟩ = some v1 ∧ (((W.setCell ⟨k, 0, none⟩ v0).setCell ⟨k, 1, none⟩ v1).setCell ⟨k, 2, none⟩ v2).cell? ⟨k, 2, none⟩ = some v2 := by
  simp [go_sem, h0, h1, h2]
theorem box3_alloc {W : World} {k : Nat} {u0 u1 u2 : Value} (v0 v1 v2 : Value) (o : Obj) (h0 : W.cell? ⟨k, 0, none⟩ = some u0) (h1 : W.cell? ⟨k, 1, none⟩ = some u1) (h2 : W.cell? ⟨k, 2, none⟩ = some u2) (hk : k < W.heap.size) :
    ((((W.setCell ⟨k, 0, none⟩ v0).setCell ⟨k, 1, none⟩ v1).setCell ⟨k, 2, none⟩ v2).alloc o).cell? ⟨k, 0, none⟩ = some v0 ∧ ((((W.setCell ⟨k, 0, none⟩ v0).setCell ⟨k, 1, none⟩ v1).setCell ⟨k, 2, none⟩ v2).alloc o).cell? ⟨k, 1, none⟩ = some v1 ∧ ((((W.setCell ⟨k, 0, none⟩ v0).setCell ⟨k, 1, none⟩ v1).setCell ⟨k, 2, none⟩ v2).alloc o).cell? ⟨k, 2, none⟩ = some v2 := by
  obtain ⟨e0, e1, e2⟩ := box3 v0 v1 v2 h0 h1 h2
  have hs : k < (((W.setCell ⟨k, 0, none⟩ v0).setCell ⟨k, 1, none⟩ v1).setCell ⟨k, 2, none⟩ v2).heap.size := by simpa using hk
  exact ⟨(World.cell?_alloc_lt _ o ⟨k, 0, none⟩ hs).trans e0, (World.cell?_alloc_lt _ o ⟨k, 1, none⟩ hs).trans e1, (World.cell?_alloc_lt _ o ⟨k, 2, none⟩ hs).trans e2⟩
theorem one_lit (A : Option Addr) (c : Nat) (w : World) (h : Lies w A (ucs [1])) : Calls Tryz.prog 102 #[.slice A 1 c] w fun e w' => e = .returned (.bool true) ∧ w = w' := by
  have h1 := one_any A c 1 w (by rw [nd_one]; exact h) (by rw [nd_one]; simp) true (Lib.hid (by simp))
  rw [nd_one] at h1
  simpa using h1
theorem own_dg {w : World} {base c : Nat} {A : Option Addr} {l : List Int} (h : w.ownsRow base 87 1 (.slice A l.length c) l.length (ucs l)) (hd : dgs l) : Dg w A c l :=
  ⟨Lies.of_own h, hd, (own_capn h).1, (own_capn h).2⟩
set_option maxRecDepth 100000 in
set_option maxHeartbeats 1000000 in
theorem make1_zero (neg : Bool) (A B : Option Addr) (c d : Nat) (a b : List Int) (w : World) (hA : Dg w A c a) (hB : Dg w B d b) (hn : a.length ≤ 1000000) (hm : b.length ≤ 1000000) (hx : Hid (vl a = 0)) :
    Calls Tryz.prog 88 #[.bool neg, .slice A a.length c, .slice B b.length d] w (RetFr false 0 1 w) := by
  have DA := Lib.hid hA.dig
  have DB := Lib.hid hB.dig
  have ca := hA.cap
  have cb := hB.cap
  have LA := Lib.hid (fun o => hA.lies.alloc (w := w) o)
  have LB := Lib.hid (fun o => hB.lies.alloc (w := w) o)
  have hvb := vl_nonneg DB.out
  have HV : Hid (vl b = ((vl b).toNat : Nat)) := Lib.hid (by omega)
  have HX : Hid (vl a = (0 : Nat)) := Lib.hid (by rw [hx.out]; rfl)
  have HZ : Hid ((nd 0).length = 0) := Lib.hid (by rw [nd_zero]; rfl)
  clear hvb hA hB
  generalize (vl b).toNat = v at *
  go_enter Tryz.func88, Tryz.ntmps88
  go_wp2_with fail
  refine (trim_any A c a _ (LA.out _) DA ca (by omega) 0 HX).mono ?_
  rintro e w' ⟨rfl, rfl⟩
  rw [HZ.out]
  go_wp2_with fail
  refine (trim_any B d b _ (LB.out _) DB cb (by omega) v HV).mono ?_
  rintro e w' ⟨rfl, rfl⟩
  go_wp2_with fail
  refine bodyPost_ret (v := .agg #[.bool false, .slice none 0 0, .slice none 0 0]) (by simp [results, Tryz.results88, go_sem]) rfl ?_
  refine ⟨⟨false, none, 0, [], none, 0, []⟩, rfl, ⟨Dg.none _, Dg.none _⟩, rfl, nd_zero.symm, rfl, ?_⟩
  first
    | exact (Below.refl _ _).alloc (Nat.le_refl _) _
    | exact ((((Below.refl _ _).alloc (Nat.le_refl _) _).setCell (by simp) _).setCell (by simp) _).setCell (by simp) _
set_option maxRecDepth 100000 in
set_option maxHeartbeats 2000000 in
theorem make1_d0 (neg : Bool) (A B : Option Addr) (c d : Nat) (a b : List Int) (w : World) (hA : Dg w A c a) (hB : Dg w B d b) (hn : a.length ≤ 1000000) (hm : b.length ≤ 1000000) (x : Nat) (hx : Hid (vl a = x)) (h0 : x ≠ 0) (hb0 : Hid (vl b = 0)) :
    Calls Tryz.prog 88 #[.bool neg, .slice A a.length c, .slice B b.length d] w (RetFr neg x 1 w) := by
  obtain ⟨j0, hj0, ky0, ky1, ky2⟩ := info_parts u32_info
  have KI := Lib.hid hj0; have KZ0 := Lib.hid ky0; have KZ1 := Lib.hid ky1; have KZ2 := Lib.hid ky2
  clear hj0 ky0 ky1 ky2
  have DA := Lib.hid hA.dig
  have DB := Lib.hid hB.dig
  have ca := hA.cap
  have cb := hB.cap
  have NA := Lib.hid hA.nil
  have LA := Lib.hid (fun o => hA.lies.alloc (w := w) o)
  have LB := Lib.hid (fun o => hB.lies.alloc (w := w) o)
  have hB0 : Hid (vl b = (0 : Nat)) := Lib.hid (by rw [hb0.out]; rfl)
  have HZ : Hid ((nd 0).length = 0) := Lib.hid (by rw [nd_zero]; rfl)
  have DX := Lib.hid (hA.nd hx.out)
  have hlx := nd_le_len DA.out hx.out
  have hne : (nd x).length ≠ 0 := fun h => h0 (nd_len_zero.1 h)
  have q0 : (((nd x).length : Int) == 0) = false := beq_eq_false_iff_ne.2 (by omega)
  clear hA hB
  go_enter Tryz.func88, Tryz.ntmps88
  go_wp2_with fail
  refine (trim_any A c a _ (LA.out _) DA ca (by omega) x hx).mono ?_
  rintro e w' ⟨rfl, rfl⟩
  go_wp2_with fail
  refine (trim_any B d b _ (LB.out _) DB cb (by omega) 0 hB0).mono ?_
  rintro e w' ⟨rfl, rfl⟩
  rw [HZ.out]
  go_wp2_with fail
  obtain ⟨W2, hW2⟩ : ∃ W2 : World, W2 = (((w.alloc (.cells #[.bool false, .slice none 0 0, .slice none 0 0] 80)).alloc (.cells #[.int .u32 1] 87)).alloc (.cells #[.int .u32 1] 87)) := ⟨_, rfl⟩
  have D2 := Lib.hid ((((Led.nil w).make #[.bool false, .slice none 0 0, .slice none 0 0] 80 w.heap.size rfl).make #[.int .u32 1] 87 (w.heap.size + 1) (by simp)).make #[.int .u32 1] 87 (w.heap.size + 2) (by simp))
  rw [← hW2] at D2 ⊢
  have L2 : Hid (Dg W2 A c (nd x)) := Lib.hid (by rw [hW2]; exact (DX.out.below ((((Below.refl _ _).alloc (Nat.le_refl _) _).alloc (by simp) _).alloc (by simp; omega) _)))
  have hs2 : w.heap.size + 3 = W2.heap.size := by rw [hW2]; simp
  have f2 : W2.frozen? ⟨w.heap.size, 0, none⟩ = false ∧ W2.frozen? ⟨w.heap.size, 1, none⟩ = false ∧ W2.frozen? ⟨w.heap.size, 2, none⟩ = false := by rw [hW2]; simp [go_sem]
  have HF2 := Lib.hid f2
  clear hW2 f2 LA LB DX
  refine (one_lit (some ⟨w.heap.size + 1, 0, none⟩) 1 W2 (D2.out.lies 1 _ _ rfl)).mono ?_
  rintro e w' ⟨rfl, rfl⟩
  go_wp2_with fail
  refine (one_lit (some ⟨w.heap.size + 2, 0, none⟩) 1 W2 (D2.out.lies 2 _ _ rfl)).mono ?_
  rintro e w' ⟨rfl, rfl⟩
  generalize hxs : nd x = xs at *
  have HXS := Lib.hid hxs
  clear hxs
  have L2' := L2.out
  go_wp2_with (at_builtin; refine wpList_append_srcG _ rfl (.const (.slice none 0 0)) (.tmp 49) _ rfl W2.heap.size 87 j0 _ 1 4 Tryz.underlying78 KI.out KZ0.out KZ1.out KZ2.out rfl (by omega) (.slice none 0 0) 0 [] rfl (World.ownsRow_nil _ _ _ _) A xs.length c (ucs xs) rfl NA.out L2'.lies (by simp) (ucs_one _) (by unfold maxLen; omega) (by omega) (Nat.le_refl _) xs.length (Nat.zero_add _) ?_; intro A4 c4 w4 ho4 hg4 _)
  have hb4 : Below W2.heap.size W2 w4 := below_none hg4
  have D4 := Lib.hid (D2.out.below hb4)
  obtain ⟨-, hf4⟩ := bcell' hb4
  have r0 := D4.out.cell 0 rfl 0 rfl
  have r1 := D4.out.cell 0 rfl 1 rfl
  have r2 := D4.out.cell 0 rfl 2 rfl
  have s0 : w4.frozen? ⟨w.heap.size, 0, none⟩ = false := by rw [hf4 _ _ (by omega)]; exact HF2.out.1
  have s1 : w4.frozen? ⟨w.heap.size, 1, none⟩ = false := by rw [hf4 _ _ (by omega)]; exact HF2.out.2.1
  have s2 : w4.frozen? ⟨w.heap.size, 2, none⟩ = false := by rw [hf4 _ _ (by omega)]; exact HF2.out.2.2
  have hs4 : w.heap.size + 3 ≤ w4.heap.size := by have := hb4.size; omega
  have hlt4 : w.heap.size < w4.heap.size := by omega
  have L4 := Lib.hid (D4.out.lies 1 _ _ rfl)
  have HO4 := Lib.hid ho4
  simp only [Nat.add_zero, Nat.zero_add] at r0 r1 r2
  clear hb4 hf4 ho4 hg4 L2'
  go_wp2_with fail
  refine (one_lit (some ⟨w.heap.size + 1, 0, none⟩) 1 _ (L4.out.alloc _)).mono ?_
  rintro e w' ⟨rfl, rfl⟩
  go_wp2_with fail
  obtain ⟨e0, e1, e2⟩ := box3_alloc (.bool neg) (.slice A4 xs.length c4) (.slice none 0 0) (.cells #[.bool neg, .slice A4 xs.length c4, .slice none 0 0] 80) r0 r1 r2 hlt4
  refine bodyPost_ret (v := .agg #[.bool neg, .slice A4 xs.length c4, .slice none 0 0]) (by simp [results, Tryz.results88, go_sem, e0, e1, e2]) rfl ?_
  refine ⟨⟨neg, A4, c4, xs, none, 0, []⟩, rfl, ⟨own_dg ((ownsRow_far (ownsRow_far (ownsRow_far HO4.out (by simp; omega) _) (by simp; omega) _) (by simp; omega) _).alloc _) (by rw [← HXS.out]; exact dgs_nd _), Dg.none _⟩, rfl, HXS.out.symm, rfl, ?_⟩
  exact ((((D4.out.bel).setCell (Nat.le_refl _) _).setCell (Nat.le_refl _) _).setCell (Nat.le_refl _) _).alloc (by simp; omega) _
set_option maxRecDepth 100000 in
set_option maxHeartbeats 2000000 in
theorem make1_d1 (neg : Bool) (A B : Option Addr) (c d : Nat) (a b : List Int) (w : World) (hA : Dg w A c a) (hB : Dg w B d b) (hn : a.length ≤ 1000000) (hm : b.length ≤ 1000000) (x : Nat) (hx : Hid (vl a = x)) (h0 : x ≠ 0) (hb0 : Hid (vl b = 1)) :
    Calls Tryz.prog 88 #[.bool neg, .slice A a.length c, .slice B b.length d] w (RetFr neg x 1 w) := by
  obtain ⟨j0, hj0, ky0, ky1, ky2⟩ := info_parts u32_info
  have KI := Lib.hid hj0; have KZ0 := Lib.hid ky0; have KZ1 := Lib.hid ky1; have KZ2 := Lib.hid ky2
  clear hj0 ky0 ky1 ky2
  have DA := Lib.hid hA.dig
  have DB := Lib.hid hB.dig
  have ca := hA.cap
  have cb := hB.cap
  have NA := Lib.hid hA.nil
  have LA := Lib.hid (fun o => hA.lies.alloc (w := w) o)
  have LB := Lib.hid (fun o => hB.lies.alloc (w := w) o)
  have hB0 : Hid (vl b = (1 : Nat)) := Lib.hid (by rw [hb0.out]; rfl)
  have HZ : Hid ((nd 1).length = 1) := Lib.hid (by rw [nd_one]; rfl)
  have LB1 : Hid (Dg w B d [1]) := Lib.hid (by have := hB.nd hB0.out; rwa [nd_one] at this)
  have DX := Lib.hid (hA.nd hx.out)
  have hlx := nd_le_len DA.out hx.out
  have hne : (nd x).length ≠ 0 := fun h => h0 (nd_len_zero.1 h)
  have q0 : (((nd x).length : Int) == 0) = false := beq_eq_false_iff_ne.2 (by omega)
  clear hA hB
  go_enter Tryz.func88, Tryz.ntmps88
  go_wp2_with fail
  refine (trim_any A c a _ (LA.out _) DA ca (by omega) x hx).mono ?_
  rintro e w' ⟨rfl, rfl⟩
  go_wp2_with fail
  refine (trim_any B d b _ (LB.out _) DB cb (by omega) 1 hB0).mono ?_
  rintro e w' ⟨rfl, rfl⟩
  rw [HZ.out]
  go_wp2_with fail
  obtain ⟨W2, hW2⟩ : ∃ W2 : World, W2 = ((w.alloc (.cells #[.bool false, .slice none 0 0, .slice none 0 0] 80)).alloc (.cells #[.int .u32 1] 87)) := ⟨_, rfl⟩
  have D2 := Lib.hid ((((Led.nil w).add LB1.out.lies).make #[.bool false, .slice none 0 0, .slice none 0 0] 80 w.heap.size rfl).make #[.int .u32 1] 87 (w.heap.size + 1) (by simp))
  rw [← hW2] at D2 ⊢
  have L2 : Hid (Dg W2 A c (nd x)) := Lib.hid (by rw [hW2]; exact (DX.out.below (((Below.refl _ _).alloc (Nat.le_refl _) _).alloc (by simp) _)))
  have hs2 : w.heap.size + 2 = W2.heap.size := by rw [hW2]; simp
  have f2 : W2.frozen? ⟨w.heap.size, 0, none⟩ = false ∧ W2.frozen? ⟨w.heap.size, 1, none⟩ = false ∧ W2.frozen? ⟨w.heap.size, 2, none⟩ = false := by rw [hW2]; simp [go_sem]
  have HF2 := Lib.hid f2
  clear hW2 f2 LA LB DX
  refine (one_lit B d W2 (D2.out.lies 0 _ _ rfl)).mono ?_
  rintro e w' ⟨rfl, rfl⟩
  go_wp2_with fail
  refine (one_lit (some ⟨w.heap.size + 1, 0, none⟩) 1 W2 (D2.out.lies 2 _ _ rfl)).mono ?_
  rintro e w' ⟨rfl, rfl⟩
  generalize hxs : nd x = xs at *
  have HXS := Lib.hid hxs
  clear hxs
  have L2' := L2.out
  go_wp2_with (at_builtin; refine wpList_append_srcG _ rfl (.const (.slice none 0 0)) (.tmp 49) _ rfl W2.heap.size 87 j0 _ 1 4 Tryz.underlying78 KI.out KZ0.out KZ1.out KZ2.out rfl (by omega) (.slice none 0 0) 0 [] rfl (World.ownsRow_nil _ _ _ _) A xs.length c (ucs xs) rfl NA.out L2'.lies (by simp) (ucs_one _) (by unfold maxLen; omega) (by omega) (Nat.le_refl _) xs.length (Nat.zero_add _) ?_; intro A4 c4 w4 ho4 hg4 _)
  have hb4 : Below W2.heap.size W2 w4 := below_none hg4
  have D4 := Lib.hid (D2.out.below hb4)
  obtain ⟨-, hf4⟩ := bcell' hb4
  have r0 := D4.out.cell 1 rfl 0 rfl
  have r1 := D4.out.cell 1 rfl 1 rfl
  have r2 := D4.out.cell 1 rfl 2 rfl
  have s0 : w4.frozen? ⟨w.heap.size, 0, none⟩ = false := by rw [hf4 _ _ (by omega)]; exact HF2.out.1
  have s1 : w4.frozen? ⟨w.heap.size, 1, none⟩ = false := by rw [hf4 _ _ (by omega)]; exact HF2.out.2.1
  have s2 : w4.frozen? ⟨w.heap.size, 2, none⟩ = false := by rw [hf4 _ _ (by omega)]; exact HF2.out.2.2
  have hs4 : w.heap.size + 2 ≤ w4.heap.size := by have := hb4.size; omega
  have hlt4 : w.heap.size < w4.heap.size := by omega
  have L4 := Lib.hid (D4.out.lies 0 _ _ rfl)
  have HO4 := Lib.hid ho4
  simp only [Nat.add_zero, Nat.zero_add] at r0 r1 r2
  clear hb4 hf4 ho4 hg4 L2'
  go_wp2_with fail
  refine (one_lit B d _ (L4.out.alloc _)).mono ?_
  rintro e w' ⟨rfl, rfl⟩
  go_wp2_with fail
  obtain ⟨e0, e1, e2⟩ := box3_alloc (.bool neg) (.slice A4 xs.length c4) (.slice none 0 0) (.cells #[.bool neg, .slice A4 xs.length c4, .slice none 0 0] 80) r0 r1 r2 hlt4
  refine bodyPost_ret (v := .agg #[.bool neg, .slice A4 xs.length c4, .slice none 0 0]) (by simp [results, Tryz.results88, go_sem, e0, e1, e2]) rfl ?_
  refine ⟨⟨neg, A4, c4, xs, none, 0, []⟩, rfl, ⟨own_dg ((ownsRow_far (ownsRow_far (ownsRow_far HO4.out (by simp; omega) _) (by simp; omega) _) (by simp; omega) _).alloc _) (by rw [← HXS.out]; exact dgs_nd _), Dg.none _⟩, rfl, HXS.out.symm, rfl, ?_⟩
  exact ((((D4.out.bel).setCell (Nat.le_refl _) _).setCell (Nat.le_refl _) _).setCell (Nat.le_refl _) _).alloc (by simp; omega) _
theorem make1_one (neg : Bool) (A B : Option Addr) (c d : Nat) (a b : List Int) (w : World) (hA : Dg w A c a) (hB : Dg w B d b) (hn : a.length ≤ 1000000) (hm : b.length ≤ 1000000) (x : Nat) (hx : Hid (vl a = x)) (hb0 : Hid (vl b = 0 ∨ vl b = 1)) :
    Calls Tryz.prog 88 #[.bool neg, .slice A a.length c, .slice B b.length d] w (RetFr (neg && decide (x ≠ 0)) x 1 w) := by
  by_cases h0 : x = 0
  · subst h0
    simpa using make1_zero neg A B c d a b w hA hB hn hm (Lib.hid (by rw [hx.out]; rfl))
  · have e : (neg && decide (x ≠ 0)) = neg := by simp [h0]
    rw [e]
    rcases hb0.out with h | h
    · exact make1_d0 neg A B c d a b w hA hB hn hm x hx h0 (Lib.hid h)
    · exact make1_d1 neg A B c d a b w hA hB hn hm x hx h0 (Lib.hid h)
end Go.Proofs.YtnflpnbpigcfhabGreatDoor
