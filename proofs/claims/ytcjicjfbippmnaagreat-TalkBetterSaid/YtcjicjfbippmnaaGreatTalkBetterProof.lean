/- TalkBetter returns true for any table, any amount and any step, and leaves what was in memory as it was. No condition. -/
import Derived.Test.YtcjicjfbippmnaaGreatMTBett50
import Derived.ShutString
namespace Go.Proofs.YtcjicjfbippmnaaGreat.talkBetter
open Go.ChangeShapes Go.WideShapes Go.ChangeAt Go.RowKit
set_option linter.unusedVariables false

theorem own : ownKnob Tryz.prog.godebug = none := by kernel_rfl
theorem laidOut : laidOutB Tryz.prog = true := by kernel_rfl

set_option maxRecDepth 100000 in
theorem lifted (os : Os) (started : os.Started) (H : Type) (enc : TypeId × Value → H) :
    ReturnsInHanded {} Tryz.checked os 12 .any (Rows.talkBetterSpec.pre6 enc Tryz.prog Tryz.f12 Rows.talkBetterRow.domain false) (Rows.talkBetterSpec.post enc Tryz.prog Tryz.f12 false true false false) := by
  refine returnsInHanded_of_change (C := Tryz.checked) own started (by kernel_rfl) Tryz.func12
    (ChangeSpec.witness6 (enc := enc) (C := Tryz.checked) false ⟨#[], #[.agg #[.int .i64 0, .int .i64 0, .slice none 0 0], .agg #[.bool false, .slice none 0 0, .slice none 0 0], .agg #[.int .i64 0, .slice none 0 0, .int .i64 0]], []⟩ 8 (by kernel_rfl) (by kernel_rfl) (by kernel_rfl) (by kernel_rfl)) ?_
  intro W base args ds gs before hval0 hW hcnd _
  have hval : ∀ (j : Nat) t v, Tryz.f12.params[j]? = some t → args[j]? = some v → Value.okWide Tryz.prog W .any base t v := hval0
  have hW' := hW
  obtain ⟨p, q, hA0, hV, rfl, hfz, hnd⟩ := hW
  have hA : DataW.TrodAll enc Tryz.prog W 0 (fun _ => true) true Tryz.f12.params.toList args.toList ds p := hA0
  rw [Tryz.params12] at hA hval
  obtain ⟨v0, vs0, d0, ds0, p0, q0, hargs, rfl, rfl, h0, rr0⟩ := trodAll_cons hA
  obtain ⟨v1, vs1, d1, ds1, p1, q1, rfl, rfl, rfl, h1, rr1⟩ := trodAll_cons rr0
  obtain ⟨v2, vs2, d2, ds2, p2, q2, rfl, rfl, rfl, h2, rr2⟩ := trodAll_cons rr1
  obtain ⟨rfl, rfl, rfl⟩ := trodAll_nil rr2
  obtain rfl : args = #[v0, v1, v2] := by cases args; simp_all
  obtain ⟨rfl, rfl⟩ := trodVars_none hV
  have lt0 : ∀ x ∈ p0, x.block < W.heap.size := by obtain ⟨m, hm⟩ := h0; exact DataW.trod_lt m _ _ _ hm
  have lt1 : ∀ x ∈ p1, x.block < W.heap.size := by obtain ⟨m, hm⟩ := h1; exact DataW.trod_lt m _ _ _ hm
  have lt2 : ∀ x ∈ p2, x.block < W.heap.size := by obtain ⟨m, hm⟩ := h2; exact DataW.trod_lt m _ _ _ hm
  obtain ⟨o0, n0, A0, c0, L0, rfl, O0, N0, T0, Z0, M0⟩ := Zjx Tryz.underlying84 (by kernel_rfl) rfl rfl rfl Tryz.underlying3 (by kernel_rfl) Tryz.underlying3 (by kernel_rfl) Tryz.underlying82 (by kernel_rfl) Tryz.underlying114 (by kernel_rfl) rfl rfl Tryz.underlying40 (by kernel_rfl) Tryz.underlying3 (by kernel_rfl) Tryz.underlying3 (by kernel_rfl) (hval 0 84 v0 rfl rfl) h0
  obtain ⟨x1, rfl, F1, N1, D1⟩ := Zif Tryz.underlying28 (by kernel_rfl) rfl rfl rfl Tryz.underlying4 (by kernel_rfl) Tryz.underlying26 (by kernel_rfl) Tryz.underlying173 (by kernel_rfl) Tryz.underlying26 (by kernel_rfl) (hval 1 28 v1 rfl rfl) h1
  obtain ⟨k2, A2, c2, s2, n2, rfl, I2, R2⟩ := Zie Tryz.underlying95 (by kernel_rfl) rfl rfl rfl Tryz.underlying3 (by kernel_rfl) Tryz.underlying40 (by kernel_rfl) Tryz.underlying3 (by kernel_rfl) Tryz.underlying3 (by kernel_rfl) (hval 2 95 v2 rfl rfl) h2
  clear hA0 hval0
  refine (Qy o0 n0 A0 c0 L0 x1 k2 A2 c2 s2 n2 _ W T0 Z0 M0 ⟨F1.n, F1.d, rfl⟩ N1 D1 I2).mono fun e W' ⟨he, bel⟩ => ?_
  subst he
  exact ⟨_, rfl, _, _, _, [], _, [], hW', trodAll_mk1 (shut_bool Tryz.underlying4 _), (trodAll_cons_mk (Below.trod laidOut (by kernel_rfl) (of_decide_eq_true (by kernel_rfl)) h0 bel lt0) (trodAll_cons_mk (Below.trod laidOut (by kernel_rfl) (of_decide_eq_true (by kernel_rfl)) h1 bel lt1) (trodAll_cons_mk (Below.trod laidOut (by kernel_rfl) (of_decide_eq_true (by kernel_rfl)) h2 bel lt2) trodAll_mk0))), rfl, bel.frame _, fun h => by cases h⟩

theorem over : Rows.talkBetterRow.holds Tryz.pinned (OpenSpec.ofChange Rows.talkBetterSpec) :=
  OpenClaim.holds_of_wide 12 Tryz.f12 rfl rfl rfl rfl rfl rfl rfl ⟨rfl, rfl, rfl, rfl, rfl⟩ rfl rfl rfl rfl rfl (by kernel_rfl) Tryz.func12 (by kernel_rfl)
    (of_decide_eq_true (by kernel_rfl)) (by unfold Func.isWrapper; first | (rw [if_pos (by decide +kernel)]; kernel_rfl) | (rw [if_neg (by decide +kernel)]; exact ⟨rfl, rfl⟩))
    (fun os started H enc _ => lifted os started H enc)

theorem proved : Rows.TalkBetterSaid := over
#print axioms proved
end Go.Proofs.YtcjicjfbippmnaaGreat.talkBetter
