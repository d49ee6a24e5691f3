/- the reference's integers as rational numbers: Of, Neg, Mul, Add, Sub, Sign, Cmp -/
import Derived.Test.YtfapmghhmkekaaaDoorRMk1
import Derived.Test.YtfapmghhmkekaaaDoorRgs
namespace Go.Proofs.YtfapmghhmkekaaaDoor
open Go.RowKit Ear

/-- a rational number that is an integer -/
structure Fz (w : World) (x : Fr) (z : Int) : Prop where
  ok : FrOk w x
  neg : x.neg = decide (z < 0)
  num : x.N = nd z.natAbs
  den : x.D = []
theorem Fz.below {w w' : World} {x : Fr} {z : Int} (h : Fz w x z) (hb : Below w.heap.size w w') : Fz w' x z := ⟨h.ok.below hb, h.neg, h.num, h.den⟩
theorem Fz.boxed {w : World} {x : Fr} {z : Int} {k : Nat} (h : Fz w x z) (hb : Bx w k) (v0 v1 v2 : Value) : Fz (((w.setCell ⟨k, 0, none⟩ v0).setCell ⟨k, 1, none⟩ v1).setCell ⟨k, 2, none⟩ v2) x z := ⟨h.ok.boxed hb v0 v1 v2, h.neg, h.num, h.den⟩
def RetFz (z : Int) (w : World) (e : Ending) (w' : World) : Prop := ∃ x : Fr, e = .returned x.val ∧ Fz w' x z ∧ Below w.heap.size w w'
theorem RetFr.fz {b : Bool} {n : Nat} {z : Int} {w w' : World} {e : Ending} (h : RetFr b n 1 w e w') (hb : b = decide (z < 0)) (hn : n = z.natAbs) : RetFz z w e w' := by
  obtain ⟨x, he, hx, h1, h2, h3, h4⟩ := h
  exact ⟨x, he, ⟨hx, h1.trans hb, by rw [h2, hn], by rw [h3]; rfl⟩, h4⟩
set_option maxRecDepth 100000 in
set_option maxHeartbeats 1000000 in
theorem rOf_any (z : Int) (w : World) (h1 : -9223372036854775808 ≤ z) (h2 : z ≤ 9223372036854775807) : Calls Tryd.prog 78 #[.int .i64 z] w (RetFz z w) := by
  have b1 : z.natAbs ≤ 9223372036854775808 := by omega
  have HL : Hid ((nd z.natAbs).length ≤ 1000000) := Lib.hid (Nat.le_trans (nd_len_le (k := 2) (by simp; omega)) (by decide))
  have HV := Lib.hid (vl_nd z.natAbs)
  have HD := Lib.hid (dgs_nd z.natAbs)
  have HS := Lib.hid (fun W => size_any z W h1 h2)
  have HE : Hid (decide (z < 0) && decide (z.natAbs ≠ 0)) = Hid (decide (z < 0)) := by
    by_cases h : z < 0
    · have : z.natAbs ≠ 0 := by omega
      simp [h, this]
    · simp [h]
  have HE' := Lib.hid HE
  have HB : Hid ((decide (z < 0) && decide (z.natAbs ≠ 0)) = decide (z < 0)) := Lib.hid (by
    by_cases h : z < 0
    · have : z.natAbs ≠ 0 := by omega
      simp [h, this]
    · simp [h])
  clear HE HE'
  go_enter Tryd.func78, Tryd.ntmps78
  go_wp2_with fail
  refine (HS.out _).mono ?_
  rintro e w' ⟨rfl, rfl⟩
  generalize hn : z.natAbs = n at *
  have HN := Lib.hid hn
  clear hn
  go_wp2_with fail
  refine (natural_any n _ (by omega)).mono ?_
  rintro e w1 ⟨A, c, rfl, hA, hc, hnil, hb⟩
  generalize hd : nd n = ds at *
  have HDS := Lib.hid hd
  clear hd
  have hs1 : w.heap.size < w1.heap.size := by have := hb.size; simp at this; omega
  have hb0 := Lib.hid (((Below.refl _ w).alloc (Nat.le_refl _) _).trans (hb.mono (by simp)))
  have BX := Lib.hid ((Bx.new w).below hb)
  have HM := Lib.hid (make1_one (decide (z < 0)) A none c 0 ds [] w1 ⟨hA, HD.out, hc, hnil⟩ (Dg.none _) HL.out (by simp) n HV (Lib.hid (.inl rfl)))
  clear hb hA hnil
  go_wp2_with fail
  refine HM.out.mono ?_
  clear HM
  intro e w2 hR
  obtain ⟨x, rfl, hx, hb2⟩ := hR.fz HB.out HN.out.symm
  have BX2 := BX.out.below hb2
  obtain ⟨c0, c1, c2, f0, f1, f2⟩ := BX2.facts
  have HX := Lib.hid hx
  have HB2 := Lib.hid (hb0.out.trans (hb2.mono hb0.out.size))
  have BXH := Lib.hid BX2
  clear hx hb2 hR BX2 HB
  obtain ⟨xn, xA, xc, xN, xB, xd, xD⟩ := x
  go_wp2_with fail
  obtain ⟨e0, e1, e2⟩ := box3 (.bool xn) (.slice xA xN.length xc) (.slice xB xD.length xd) c0 c1 c2
  refine bodyPost_ret (v := .agg #[.bool xn, .slice xA xN.length xc, .slice xB xD.length xd]) (by simp [results, Tryd.results78, go_sem, e0, e1, e2]) rfl ?_
  exact ⟨⟨xn, xA, xc, xN, xB, xd, xD⟩, rfl, HX.out.boxed BXH.out _ _ _, ((HB2.out.setCell (Nat.le_refl _) _).setCell (Nat.le_refl _) _).setCell (Nat.le_refl _) _⟩
end Go.Proofs.YtfapmghhmkekaaaDoor
