/- the reference's Neg, Sub, Sign, Cmp of integers -/
import Derived.Test.YtfapmghhmkekaaaDoorRAdd
namespace Go.Proofs.YtfapmghhmkekaaaDoor
open Go.RowKit Ear

/-- the box of a variable -/
def BxV (w : World) (k : Nat) (x : Fr) : Prop := w.heap[k]? = some (.cells #[.bool x.neg, .slice x.A x.N.length x.c, .slice x.B x.D.length x.d] 87 (0, 0))
theorem BxV.new (w : World) (x : Fr) : BxV (w.alloc (.cells #[.bool x.neg, .slice x.A x.N.length x.c, .slice x.B x.D.length x.d] 87)) w.heap.size x := heap_alloc_new w _
theorem BxV.lt {w : World} {k : Nat} {x : Fr} (h : BxV w k x) : k < w.heap.size := (Array.getElem?_eq_some_iff.1 h).1
theorem BxV.below {w w' : World} {k : Nat} {x : Fr} (h : BxV w k x) (hb : Below w.heap.size w w') : BxV w' k x := (hb.block k h.lt).trans h
theorem BxV.facts {w : World} {k : Nat} {x : Fr} (h : BxV w k x) : w.cell? ⟨k, 0, none⟩ = some (.bool x.neg) ∧ w.cell? ⟨k, 1, none⟩ = some (.slice x.A x.N.length x.c) ∧ w.cell? ⟨k, 2, none⟩ = some (.slice x.B x.D.length x.d) ∧ w.frozen? ⟨k, 0, none⟩ = false ∧ w.frozen? ⟨k, 1, none⟩ = false ∧ w.frozen? ⟨k, 2, none⟩ = false :=
  ⟨by rw [cell_of_row w k 0 _ _ _ h]; rfl, by rw [cell_of_row w k 1 _ _ _ h]; rfl, by rw [cell_of_row w k 2 _ _ _ h]; rfl, by simp [World.frozen?, show w.heap[k]? = _ from h], by simp [World.frozen?, show w.heap[k]? = _ from h], by simp [World.frozen?, show w.heap[k]? = _ from h]⟩
theorem Lies.apartV {w w' : World} {A : Option Addr} {l : List Int} {k : Nat} {x : Fr} (h : Lies w A (ucs l)) (hb : BxV w k x) (hs : w.heap.size ≤ w'.heap.size) (hk : ∀ b, b ≠ k → b < w.heap.size → w'.heap[b]? = w.heap[b]?) : Lies w' A (ucs l) := fun h0 => by
  obtain ⟨b, off, e, hlt, hc⟩ := h h0
  have hne : b ≠ k := by
    rintro rfl
    have hl : 0 < l.length := by simpa using h0
    have := hc 0 (.int .u32 l[0]) (by simp [List.getElem?_eq_getElem hl])
    rw [cell_of_row w b _ _ _ _ hb] at this
    rcases (show off + 0 = 0 ∨ off + 0 = 1 ∨ off + 0 = 2 ∨ 3 ≤ off + 0 by omega) with e | e | e | e
    · rw [e] at this; simp at this
    · rw [e] at this; simp at this
    · rw [e] at this; simp at this
    · rw [Array.getElem?_eq_none (by simpa using e)] at this; cases this
  exact ⟨b, off, e, by omega, fun j u hu => by
    rw [← hc j u hu]
    exact World.cell?_of_block (a := ⟨b, off + j, none⟩) (hk b hne hlt)⟩
theorem FrOk.boxedV {w : World} {x y : Fr} {k : Nat} (h : FrOk w x) (hb : BxV w k y) (v0 v1 v2 : Value) : FrOk (((w.setCell ⟨k, 0, none⟩ v0).setCell ⟨k, 1, none⟩ v1).setCell ⟨k, 2, none⟩ v2) x := by
  have hk : ∀ b, b ≠ k → b < w.heap.size → (((w.setCell ⟨k, 0, none⟩ v0).setCell ⟨k, 1, none⟩ v1).setCell ⟨k, 2, none⟩ v2).heap[b]? = w.heap[b]? := fun b hne _ =>
    (Below.heap_setCell _ ⟨k, 2, none⟩ v2 b hne).trans ((Below.heap_setCell _ ⟨k, 1, none⟩ v1 b hne).trans (Below.heap_setCell _ ⟨k, 0, none⟩ v0 b hne))
  exact ⟨⟨h.n.lies.apartV hb (by simp) hk, h.n.dig, h.n.cap, h.n.nil⟩, ⟨h.d.lies.apartV hb (by simp) hk, h.d.dig, h.d.cap, h.d.nil⟩⟩
theorem Fz.boxedV {w : World} {x y : Fr} {z : Int} {k : Nat} (h : Fz w x z) (hb : BxV w k y) (v0 v1 v2 : Value) : Fz (((w.setCell ⟨k, 0, none⟩ v0).setCell ⟨k, 1, none⟩ v1).setCell ⟨k, 2, none⟩ v2) x z := ⟨h.ok.boxedV hb v0 v1 v2, h.neg, h.num, h.den⟩
theorem BxV.set {w : World} {k : Nat} {y : Fr} (hb : BxV w k y) (x : Fr) : BxV (((w.setCell ⟨k, 0, none⟩ (.bool x.neg)).setCell ⟨k, 1, none⟩ (.slice x.A x.N.length x.c)).setCell ⟨k, 2, none⟩ (.slice x.B x.D.length x.d)) k x := by
  have hb' : w.heap[k]? = _ := hb
  unfold BxV
  simp [World.setCell, Array.getElem?_modify, hb']
theorem BxV.other {w : World} {k h : Nat} {x : Fr} (hb : BxV w k x) (hne : k ≠ h) {v0 v1 v2 : Value} : BxV (((w.setCell ⟨h, 0, none⟩ v0).setCell ⟨h, 1, none⟩ v1).setCell ⟨h, 2, none⟩ v2) k x :=
  (Below.heap_setCell _ ⟨h, 2, none⟩ v2 k hne).trans ((Below.heap_setCell _ ⟨h, 1, none⟩ v1 k hne).trans ((Below.heap_setCell _ ⟨h, 0, none⟩ v0 k hne).trans hb))
theorem Dg.alloc {w : World} {A : Option Addr} {c : Nat} {l : List Int} (h : Dg w A c l) (o : Obj) : Dg (w.alloc o) A c l := h.below ((Below.refl _ w).alloc (Nat.le_refl _) o)
theorem Fz.alloc {w : World} {x : Fr} {z : Int} (h : Fz w x z) (o : Obj) : Fz (w.alloc o) x z := h.below ((Below.refl _ w).alloc (Nat.le_refl _) o)
set_option maxRecDepth 100000 in
set_option maxHeartbeats 1000000 in
theorem rNeg_z (x : Fr) (a : Int) (w : World) (hx : Fz w x a) (ha : (nd a.natAbs).length ≤ 400000) : Calls Tryd.prog 139 #[x.val] w (RetFz (-a) w) := by
  have HX := Lib.hid hx
  have NX := Lib.hid hx.num
  obtain ⟨xn, xA, xc, xN, xB, xd, xD⟩ := x
  simp only at NX
  clear hx
  have XN : Hid (xn = decide (a < 0)) := Lib.hid HX.out.neg
  have XD : Hid (xD = []) := Lib.hid HX.out.den
  have SG : Hid (((!xn) && decide (a.natAbs ≠ 0)) = decide (-a < 0)) := Lib.hid (by rw [XN.out, Bool.eq_iff_iff]; simp only [Bool.and_eq_true, decide_eq_true_eq, Bool.not_eq_true', decide_eq_false_iff_not]; omega)
  have HM := Lib.hid (fun W (hW : Fz W ⟨xn, xA, xc, xN, xB, xd, xD⟩ a) => make1_one (!xn) xA xB xc xd xN xD W hW.ok.n hW.ok.d (by rw [NX.out]; omega) (by rw [XD.out]; simp) a.natAbs (Lib.hid (by rw [NX.out]; exact vl_nd _)) (Lib.hid (.inl (by rw [XD.out]; rfl))))
  go_enter Tryd.func139, Tryd.ntmps139
  go_wp2_with fail
  refine (HM.out _ ((HX.out.alloc _).alloc _)).mono ?_
  intro e w2 hR
  obtain ⟨r, rfl, hr, hb⟩ := hR.fz SG.out (Int.natAbs_neg a).symm
  have BX0 : Bx ((w.alloc (.cells #[.bool xn, .slice xA xN.length xc, .slice xB xD.length xd] 87)).alloc (.cells #[.bool false, .slice none 0 0, .slice none 0 0] 87)) (w.heap.size + 1) := by
    have := Bx.new (w.alloc (.cells #[.bool xn, .slice xA xN.length xc, .slice xB xD.length xd] 87)); simpa using this
  have BX2 := BX0.below hb
  obtain ⟨c0, c1, c2, f0, f1, f2⟩ := BX2.facts
  have BXH := Lib.hid BX2
  have HR := Lib.hid hr
  have HB2 : Hid (Below w.heap.size w w2) := Lib.hid ((((Below.refl _ _).alloc (Nat.le_refl _) _).alloc (by simp) _).trans (hb.mono (by simp; omega)))
  clear hR BX0 BX2 hr hb HM
  obtain ⟨rn, rA, rc, rN, rB, rd, rD⟩ := r
  go_wp2_with fail
  obtain ⟨g0, g1, g2⟩ := box3 (.bool rn) (.slice rA rN.length rc) (.slice rB rD.length rd) c0 c1 c2
  refine bodyPost_ret (v := .agg #[.bool rn, .slice rA rN.length rc, .slice rB rD.length rd]) (by simp [results, Tryd.results139, go_sem, g0, g1, g2]) rfl ?_
  exact ⟨⟨rn, rA, rc, rN, rB, rd, rD⟩, rfl, HR.out.boxed BXH.out _ _ _, ((HB2.out.setCell (by simp) _).setCell (by simp) _).setCell (by simp) _⟩
def subG (x y : Fr) (a b : Int) : Nat → Value → World → Prop
  | 0, v, _ => v = x.val
  | 1, v, _ => v = y.val
  | 2, v, w => ∃ r : Fr, v = r.val ∧ Fz w r (-b)
  | 3, v, w => ∃ r : Fr, v = r.val ∧ Fz w r (a - b)
  | _, _, _ => True
theorem subG_keep {x y : Fr} {a b : Int} : ∀ j v w w', subG x y a b j v w → Below w.heap.size w w' → subG x y a b j v w' := by
  intro j v w w' h hb
  unfold subG at *
  split at h <;> first
    | exact h
    | (obtain ⟨r, h1, h2⟩ := h; exact ⟨r, h1, h2.below hb⟩)
set_option maxRecDepth 100000 in
set_option maxHeartbeats 2000000 in
theorem rSub_pos (x y : Fr) (a b : Int) (w : World) (hx : Fz w x a) (hy : Fz w y b) (ha : (nd a.natAbs).length ≤ 400000) (hb : (nd b.natAbs).length ≤ 400000) (h1 : 0 < a) (h2 : 0 < b) :
    Calls Tryd.prog 121 #[x.val, y.val] w (RetFz (a - b) w) := by
  have HX := Lib.hid hx
  have HY := Lib.hid hy
  obtain ⟨xn, xA, xc, xN, xB, xd, xD⟩ := x
  obtain ⟨yn, yA, yc, yN, yB, yd, yD⟩ := y
  clear hx hy
  have OPP : Hid (decide (a < 0) ≠ decide (-b < 0)) := Lib.hid (by rw [ne_eq, decide_eq_decide]; omega)
  go_enter Tryd.func121, Tryd.ntmps121
  go_wp2_with fail
  obtain ⟨W, hW⟩ : ∃ W : World, W = ((w.alloc (.cells #[.bool xn, .slice xA xN.length xc, .slice xB xD.length xd] 87)).alloc (.cells #[.bool yn, .slice yA yN.length yc, .slice yB yD.length yd] 87)).alloc (.cells #[.bool false, .slice none 0 0, .slice none 0 0] 87) := ⟨_, rfl⟩
  rw [← hW]
  have hs : W.heap.size = w.heap.size + 3 := by rw [hW]; simp
  have HB0 : Hid (Below w.heap.size w W) := Lib.hid (by rw [hW]; exact ((((Below.refl _ _).alloc (Nat.le_refl _) _).alloc (by simp) _).alloc (by simp; omega) _))
  have HBX : Hid (Bx W (w.heap.size + 1 + 1)) := Lib.hid (by rw [hW]; have := Bx.new ((w.alloc (.cells #[.bool xn, .slice xA xN.length xc, .slice xB xD.length xd] 87)).alloc (.cells #[.bool yn, .slice yA yN.length yc, .slice yB yD.length yd] 87)); simpa using this)
  have HC : Hid (∀ u, Below W.heap.size W u → (u.cell? ⟨w.heap.size, 0, none⟩ = some (.bool xn) ∧ u.cell? ⟨w.heap.size, 1, none⟩ = some (.slice xA xN.length xc) ∧ u.cell? ⟨w.heap.size, 2, none⟩ = some (.slice xB xD.length xd)) ∧ u.cell? ⟨w.heap.size + 1, 0, none⟩ = some (.bool yn) ∧ u.cell? ⟨w.heap.size + 1, 1, none⟩ = some (.slice yA yN.length yc) ∧ u.cell? ⟨w.heap.size + 1, 2, none⟩ = some (.slice yB yD.length yd)) := Lib.hid (fun u hu => by
    rw [hu.cell (p := ⟨w.heap.size, 0, none⟩) (by simp; omega), hu.cell (p := ⟨w.heap.size, 1, none⟩) (by simp; omega), hu.cell (p := ⟨w.heap.size, 2, none⟩) (by simp; omega), hu.cell (p := ⟨w.heap.size + 1, 0, none⟩) (by simp; omega), hu.cell (p := ⟨w.heap.size + 1, 1, none⟩) (by simp; omega), hu.cell (p := ⟨w.heap.size + 1, 2, none⟩) (by simp; omega), hW]
    simp [go_sem])
  clear hW
  refine wp_region_slots_pop 4 9 rfl (by kernel_rfl) (by kernel_rfl) (by kernel_rfl) (by kernel_rfl) (fun u => Below W.heap.size W u) (fun u u' => Below u.heap.size u u') (subG ⟨xn, xA, xc, xN, xB, xd, xD⟩ ⟨yn, yA, yc, yN, yB, yd, yD⟩ a b) subG_keep ?_ ?_ ?_
  · exact (Below.refl _ W).drew
  · simp only [List.pop_toArray, List.dropLast, StepsFrom]
    refine ⟨?_, ?_, ?_, ?_, trivial⟩
    · intro bb u hSu hdep hkept K hK
      have e2 : bb.tmps.getD 2 undef = .pointer (some ⟨w.heap.size, 0, none⟩) := hkept 2 (by kernel_rfl)
      obtain ⟨⟨c0, c1, c2⟩, c3, c4, c5⟩ := HC.out u hSu
      go_simp
      exact hK _ _ hSu (Below.refl _ _) rfl
    · intro bb u hSu hdep hkept K hK
      have e3 : bb.tmps.getD 3 undef = .pointer (some ⟨w.heap.size + 1, 0, none⟩) := hkept 3 (by kernel_rfl)
      obtain ⟨⟨c0, c1, c2⟩, c3, c4, c5⟩ := HC.out u hSu
      go_simp
      exact hK _ _ hSu (Below.refl _ _) rfl
    · intro bb u hSu hdep hkept K hK
      have e6 : bb.tmps.getD 6 undef = Fr.val ⟨yn, yA, yc, yN, yB, yd, yD⟩ := hdep 1 _ rfl (by kernel_rfl)
      go_simp
      refine (rNeg_z _ b u (HY.out.below' hSu HB0.out) hb).mono ?_
      rintro e w' ⟨r, rfl, hr, h4⟩
      go_simp
      exact hK _ _ (hSu.trans (h4.mono hSu.size)) h4 ⟨r, rfl, hr⟩
    · intro bb u hSu hdep hkept K hK
      have e5 : bb.tmps.getD 5 undef = Fr.val ⟨xn, xA, xc, xN, xB, xd, xD⟩ := hdep 0 _ rfl (by kernel_rfl)
      obtain ⟨r, e7, hr⟩ : ∃ r : Fr, bb.tmps.getD 7 undef = r.val ∧ Fz u r (-b) := hdep 2 _ rfl (by kernel_rfl)
      go_simp
      refine (rAdd_opp _ r a (-b) u (HX.out.below' hSu HB0.out) hr ha (by rw [Int.natAbs_neg]; exact hb) OPP).mono ?_
      rintro e w' ⟨r', rfl, hr', h4⟩
      go_simp
      exact hK _ _ (hSu.trans (h4.mono hSu.size)) h4 ⟨r', rfl, by rw [Int.sub_eq_add_neg]; exact hr'⟩
  · intro bb u hN hdf hSu hG hsame
    obtain ⟨r, e8, hr⟩ : ∃ r : Fr, bb.tmps.getD 8 undef = r.val ∧ Fz u r (a - b) := hG 3 _ rfl
    have e4 : bb.tmps.getD 4 undef = .pointer (some ⟨w.heap.size + 1 + 1, 0, none⟩) := hsame 4 (by kernel_rfl)
    have BX2 := HBX.out.below hSu
    obtain ⟨c0, c1, c2, f0, f1, f2⟩ := BX2.facts
    have BXH := Lib.hid BX2
    have HR := Lib.hid hr
    have HB2 := Lib.hid (HB0.out.trans (hSu.mono HB0.out.size))
    clear BX2 hr hSu hG hsame
    rw [frame_lit bb 9 hN]
    simp only [show List.range 9 = [0, 1, 2, 3, 4, 5, 6, 7, 8] from rfl, List.map_cons, List.map_nil, e4, e8, hdf]
    obtain ⟨rn, rA, rc, rN, rB, rd, rD⟩ := r
    refine PopQ.last rfl rfl (fun K hK => ?_)
    go_simp
    refine hK _ _ ?_
    clear hK K
    go_wp2_with fail
    obtain ⟨g0, g1, g2⟩ := box3 (.bool rn) (.slice rA rN.length rc) (.slice rB rD.length rd) c0 c1 c2
    refine bodyPost_ret (v := .agg #[.bool rn, .slice rA rN.length rc, .slice rB rD.length rd]) (by simp [results, Tryd.results121, go_sem, g0, g1, g2]) rfl ?_
    exact ⟨⟨rn, rA, rc, rN, rB, rd, rD⟩, rfl, HR.out.boxed BXH.out _ _ _, ((HB2.out.setCell (by simp; omega) _).setCell (by simp; omega) _).setCell (by simp; omega) _⟩
set_option maxRecDepth 100000 in
set_option maxHeartbeats 1000000 in
theorem rSign_z (x : Fr) (a : Int) (w : World) (hx : Fz w x a) (ha : (nd a.natAbs).length ≤ 400000) : Calls Tryd.prog 120 #[x.val] w (RetIB (if a < 0 then -1 else if a = 0 then 0 else 1) w) := by
  have HX := Lib.hid hx
  have NX := Lib.hid hx.num
  obtain ⟨xn, xA, xc, xN, xB, xd, xD⟩ := x
  simp only at NX
  clear hx
  have XN : Hid (xn = decide (a < 0)) := Lib.hid HX.out.neg
  have HT := Lib.hid (fun W (hW : Fz W ⟨xn, xA, xc, xN, xB, xd, xD⟩ a) => trim_any xA xc xN W hW.ok.n.lies (Lib.hid hW.ok.n.dig) hW.ok.n.cap (by rw [NX.out]; omega) a.natAbs (Lib.hid (by rw [NX.out]; exact vl_nd _)))
  have HZ : Hid ((nd a.natAbs).length = 0 ↔ a = 0) := Lib.hid (by rw [nd_len_zero]; omega)
  by_cases h0 : a = 0
  · have h1 := HZ.out.2 h0
    have HR : Hid ((if a < 0 then -1 else if a = 0 then 0 else 1 : Int) = 0) := Lib.hid (by rw [if_neg (by omega), if_pos h0])
    rw [h1] at HT
    clear h0 h1
    rw [HR.out]
    clear HR
    go_enter Tryd.func120, Tryd.ntmps120
    go_wp2_with fail
    refine (HT.out _ (HX.out.alloc _)).mono ?_
    rintro e w' ⟨rfl, rfl⟩
    go_wp2_with fail
    go_ret
    exact ⟨rfl, (Below.refl _ _).alloc (Nat.le_refl _) _⟩
  · have q : (((nd a.natAbs).length : Int) == 0) = false := beq_eq_false_iff_ne.2 (fun h => h0 (HZ.out.1 (by omega)))
    by_cases hneg : a < 0
    · have hx : xn = true := by rw [XN.out]; simpa using hneg
      have HR : Hid ((if a < 0 then -1 else if a = 0 then 0 else 1 : Int) = -1) := Lib.hid (by rw [if_pos hneg])
      rw [HR.out]
      subst hx
      clear HR h0 hneg
      go_enter Tryd.func120, Tryd.ntmps120
      go_wp2_with fail
      refine (HT.out _ (HX.out.alloc _)).mono ?_
      rintro e w' ⟨rfl, rfl⟩
      go_wp2_with fail
      go_ret
      exact ⟨rfl, (Below.refl _ _).alloc (Nat.le_refl _) _⟩
    · have hx : xn = false := by rw [XN.out]; simpa using hneg
      have HR : Hid ((if a < 0 then -1 else if a = 0 then 0 else 1 : Int) = 1) := Lib.hid (by rw [if_neg hneg, if_neg h0])
      rw [HR.out]
      subst hx
      clear HR h0 hneg
      go_enter Tryd.func120, Tryd.ntmps120
      go_wp2_with fail
      refine (HT.out _ (HX.out.alloc _)).mono ?_
      rintro e w' ⟨rfl, rfl⟩
      go_wp2_with fail
      go_ret
      exact ⟨rfl, (Below.refl _ _).alloc (Nat.le_refl _) _⟩
set_option maxRecDepth 100000 in
set_option maxHeartbeats 1000000 in
theorem rCmp_pos (x y : Fr) (a b : Int) (w : World) (hx : Fz w x a) (hy : Fz w y b) (ha : (nd a.natAbs).length ≤ 300000) (hb : (nd b.natAbs).length ≤ 300000) (h1 : 0 < a) (h2 : 0 < b) :
    Calls Tryd.prog 80 #[x.val, y.val] w (RetIB (if a - b < 0 then -1 else if a - b = 0 then 0 else 1) w) := by
  have hl : (nd (a - b).natAbs).length ≤ 400000 := by
    rcases Int.le_total a b with h | h
    · have := nd_len_mono (show (a - b).natAbs ≤ b.natAbs by omega); omega
    · have := nd_len_mono (show (a - b).natAbs ≤ a.natAbs by omega); omega
  have HS := Lib.hid (fun W (hX : Fz W x a) (hY : Fz W y b) => rSub_pos x y a b W hX hY (by omega) (by omega) h1 h2)
  have HG := Lib.hid (fun W r (hR : Fz W r (a - b)) => rSign_z r (a - b) W hR hl)
  have HX := Lib.hid hx
  have HY := Lib.hid hy
  generalize (if a - b < 0 then -1 else if a - b = 0 then 0 else 1 : Int) = s at *
  clear hl
  obtain ⟨xn, xA, xc, xN, xB, xd, xD⟩ := x
  obtain ⟨yn, yA, yc, yN, yB, yd, yD⟩ := y
  clear hx hy
  go_enter Tryd.func80, Tryd.ntmps80
  go_wp2_with fail
  refine (HS.out _ ((HX.out.alloc _).alloc _) ((HY.out.alloc _).alloc _)).mono ?_
  rintro e w2 ⟨r, rfl, hr, hb2⟩
  have HB2 : Hid (Below w.heap.size w w2) := Lib.hid ((((Below.refl _ _).alloc (Nat.le_refl _) _).alloc (by simp) _).trans (hb2.mono (by simp; omega)))
  have HR := Lib.hid hr
  clear hr hb2
  go_wp2_with fail
  refine (HG.out _ r HR.out).mono ?_
  rintro e w3 ⟨rfl, hb3⟩
  go_wp2_with fail
  go_ret
  exact ⟨rfl, HB2.out.trans (hb3.mono HB2.out.size)⟩
end Go.Proofs.YtfapmghhmkekaaaDoor
