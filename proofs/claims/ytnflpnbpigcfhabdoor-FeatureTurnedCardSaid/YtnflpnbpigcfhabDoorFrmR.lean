/- a recipe, as it comes in (printed by mk_frmr.py) -/
import Derived.Test.YtnflpnbpigcfhabDoorFrm
import Derived.Test.YtnflpnbpigcfhabDoorRcpV
namespace Go.Proofs.YtnflpnbpigcfhabDoor
open Go.RowKit Go.WideShapes Ear
section
variable {α : Type} {H : Type} {enc : TypeId × Value → H} {P : Program} {w : World} {t e : TypeId} {cs : List Value}
variable {v : Value} {d : DataW H} {p : List MemPlace} {r : Reach} {b0 : Nat}

theorem op_rcp {f0 f1 f2 f3 f4 f5 f6 f7 f8 f9 : Field} (ht : P.underlying t = some (.struct #[f0, f1, f2, f3, f4, f5, f6, f7, f8, f9])) (hC : P.cellsOf t = 10) (o0 : f0.offset = 0) (o1 : f1.offset = 1) (o2 : f2.offset = 2) (o3 : f3.offset = 3) (o4 : f4.offset = 4) (o5 : f5.offset = 5) (o6 : f6.offset = 6) (o7 : f7.offset = 7) (o8 : f8.offset = 8) (o9 : f9.offset = 9)
    (u0 : P.underlying f0.type = some (.int .i64)) (u1 : P.underlying f1.type = some (.int .i64)) (u2 : P.underlying f2.type = some (.int .i64)) (u3 : P.underlying f3.type = some (.int .i64)) (u4 : P.underlying f4.type = some (.int .i64)) (u5 : P.underlying f5.type = some (.int .i64)) (u6 : P.underlying f6.type = some (.slice e)) (u7 : P.underlying f7.type = some (.int .i64)) (u8 : P.underlying f8.type = some .bool) (u9 : P.underlying f9.type = some .bool) (he : P.underlying e = some (.int .i64)) (ke : P.cellsOf e = 1)
    (k : P.cellsOf f0.type = 1 ∧ P.cellsOf f1.type = 1 ∧ P.cellsOf f2.type = 1 ∧ P.cellsOf f3.type = 1 ∧ P.cellsOf f4.type = 1 ∧ P.cellsOf f5.type = 1 ∧ P.cellsOf f6.type = 1 ∧ P.cellsOf f7.type = 1 ∧ P.cellsOf f8.type = 1 ∧ P.cellsOf f9.type = 1)
    (hv : Value.okWide P w r b0 t v) (h : DataW.Trod enc P w 0 (fun _ => true) true t v d p) :
    ∃ x : Rcp, v = x.val ∧ Lies w x.E (ics x.edges) ∧ x.points ≤ 9223372036854775807 ∧ x.edges.length ≤ 9223372036854775807 := by
  obtain ⟨cs, rfl, hl, hf⟩ := op_struct ht hC hv h
  obtain ⟨k0, k1, k2, k3, k4, k5, k6, k7, k8, k9⟩ := k
  match cs, hl with
  | [a0, a1, a2, a3, a4, a5, a6, a7, a8, a9], _ =>
    have g0 := hf 0 f0 rfl
    rw [o0, k0] at g0
    obtain ⟨n0, e0, hn0⟩ := g0.int u0
    simp at e0
    subst e0
    have g1 := hf 1 f1 rfl
    rw [o1, k1] at g1
    obtain ⟨n1, e1, hn1⟩ := g1.int u1
    simp at e1
    subst e1
    have g2 := hf 2 f2 rfl
    rw [o2, k2] at g2
    obtain ⟨n2, e2, hn2⟩ := g2.int u2
    simp at e2
    subst e2
    have g3 := hf 3 f3 rfl
    rw [o3, k3] at g3
    obtain ⟨n3, e3, hn3⟩ := g3.int u3
    simp at e3
    subst e3
    have g4 := hf 4 f4 rfl
    rw [o4, k4] at g4
    obtain ⟨n4, e4, hn4⟩ := g4.int u4
    simp at e4
    subst e4
    have g5 := hf 5 f5 rfl
    rw [o5, k5] at g5
    obtain ⟨n5, e5, hn5⟩ := g5.int u5
    simp at e5
    subst e5
    have g6 := hf 6 f6 rfl
    rw [o6, k6] at g6
    obtain ⟨A, c, l, e6, hr⟩ := g6.ints u6 he ke
    simp at e6
    subst e6
    have g7 := hf 7 f7 rfl
    rw [o7, k7] at g7
    obtain ⟨n7, e7, hn7⟩ := g7.int u7
    simp at e7
    subst e7
    have g8 := hf 8 f8 rfl
    rw [o8, k8] at g8
    obtain ⟨n8, e8⟩ := g8.bool u8
    simp at e8
    subst e8
    have g9 := hf 9 f9 rfl
    rw [o9, k9] at g9
    obtain ⟨n9, e9⟩ := g9.bool u9
    simp at e9
    subst e9
    exact ⟨⟨n0, n1, n2, n3, n4, n5, A, c, l, n7, n8, n9⟩, rfl, hr.1, hn5.2, hr.2.2.1⟩
end
end Go.Proofs.YtnflpnbpigcfhabDoor
