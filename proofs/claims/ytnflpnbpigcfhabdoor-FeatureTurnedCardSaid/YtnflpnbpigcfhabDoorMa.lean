/- Ma: the texts Pop, Pop2, Base, PRnd, Rnd, PWave, RefA, Lst, Rec, Same, PRes, Res, ResW, Emph, PWin, Win, PEmph, EmphW, WinW, WeighW, PSeg, Enr, Proc, Proc2, LsnA, PFeed, Src, Led, Lls, Bits in one. -/
import Derived.Test.YtnflpnbpigcfhabDoorRows
import Derived.OrdersHeld
import Derived.Deep.RegionHeld3
import Derived.Deep.AppendLies
import Derived.WalkKit
import Derived.WalkSpells
import Derived.WalkLawsBesides
import Derived.BigQuiet
import Derived.Deep.QuietTactic
import Derived.Deep.DeepCutAuto
import Derived.Deep.LoopGhost
import Derived.StillTailTactics
import Derived.Lib.Hide
import Derived.IntWalk
import Derived.KernelRfl
import Derived.Deep.Slices
import Derived.Deep.RegionLaw
import Derived.Maps.AppendAt
import Derived.Deep.DeepFit
import Derived.Laws.CopyOwn
import Derived.Deep.DrawnRows
import Derived.Shelf.Abstract
import Init.Data.Int.DivMod.Lemmas
import Derived.Laws.AppendOwnNone
import Derived.ArgAppend
import Derived.Laws.BitsAllLaws
/-
  A region that draws its order and whose last operation waits for all others: the last one is carried out at the end.
-/
namespace Go

/-- The post of the region without its last operation: that operation comes next. -/
def PopQ (P : Program) (ops : Array Oper) (n : Nat) (Q : Exit → Act → World → Prop) : Exit → Act → World → Prop
  | .normal, a, w => wpOp P ops Q n (fun a w => Q .normal a w) a w
  | e, a, w => Q e a w

theorem PopQ.other {P : Program} {ops : Array Oper} {n : Nat} {Q : Exit → Act → World → Prop} {e : Exit} {a : Act} {w : World} (he : e ≠ .normal) (h : PopQ P ops n Q e a w) : Q e a w := by
  cases e <;> first | exact h | exact absurd rfl he

theorem Oper.wp_other {P : Program} {o : Oper} {a : Act} {w : World} {K : Act → World → Prop} {Q Q' : Exit → Act → World → Prop} (h : ∀ e a w, e ≠ Exit.normal → Q' e a w → Q e a w) (hh : o.wp P a w K Q') : o.wp P a w K Q := by
  unfold Oper.wp at *
  generalize (execOp a.eval o).run P w = r at *
  cases r with
  | ok n w' =>
    cases n <;> simp only [Oper.upon] at hh ⊢ <;>
      first
        | exact hh
        | exact Calls.mono hh (fun e w'' he => by
            cases e with
            | returned v => exact he
            | panicked c => exact h _ _ _ (by simp) he
            | outgrown => obtain ⟨a, w, hq⟩ := he; exact ⟨a, w, h _ _ _ (by simp) hq⟩)
  | halt x w' => cases x <;> simp only [Oper.upon] at hh ⊢ <;> first | exact hh | exact h _ _ _ (by simp) hh

/-- no edge leads forward; guards look back; the last operation waits for every other one -/
def Region.popB (md : Region.Mode) (ops : Array Oper) (n : Nat) : Bool :=
  (ops.size == n + 1) &&
  (List.range (n + 1)).all (fun i => match ops[i]? with
    | some o => o.after.all (fun e => decide (e.on < i)) && (match o.guard with | some (j, _) => decide (j < i) | none => true)
    | none => false) &&
  (List.range n).all (fun i => match ops[n]? with
    | some o => o.after.any (fun e => Region.binds md e && e.on == i)
    | none => false)

section
variable {P : Program} {ops : Array Oper} {Q : Exit → Act → World → Prop} {md : Region.Mode} {n : Nat}

theorem Region.popB_size (h : Region.popB md ops n = true) : ops.size = n + 1 := by
  simp only [Region.popB, Bool.and_eq_true, beq_iff_eq] at h; exact h.1.1
theorem Region.popB_back (h : Region.popB md ops n = true) {i : Nat} {o : Oper} (ho : ops[i]? = some o) : (∀ e ∈ o.after, e.on < i) ∧ ∀ j b, o.guard = some (j, b) → j < i := by
  have hs := Region.popB_size h
  simp only [Region.popB, Bool.and_eq_true] at h
  have hi : i < n + 1 := by rw [← hs]; exact (Array.getElem?_eq_some_iff.1 ho).1
  have h1 := List.all_eq_true.1 h.1.2 i (List.mem_range.2 hi)
  simp only [ho, Bool.and_eq_true] at h1
  refine ⟨fun e he => by simpa using Array.all_eq_true'.1 h1.1 e he, fun j b hg => ?_⟩
  have := h1.2
  simp only [hg] at this
  simpa using this
theorem Region.popB_last (h : Region.popB md ops n = true) {i : Nat} (hi : i < n) {o : Oper} (ho : ops[n]? = some o) : ∃ e ∈ o.after, Region.binds md e = true ∧ e.on = i := by
  simp only [Region.popB, Bool.and_eq_true] at h
  have h1 := List.all_eq_true.1 h.2 i (List.mem_range.2 hi)
  simp only [ho] at h1
  obtain ⟨e, he, hb⟩ := Array.any_eq_true'.1 h1
  simp only [Bool.and_eq_true, beq_iff_eq] at hb
  exact ⟨e, he, hb.1, hb.2⟩

theorem pop_get {i : Nat} (hs : ops.size = n + 1) (hi : i < n) : ops.pop[i]? = ops[i]? := by
  rw [Array.getElem?_pop]; split
  · rfl
  · omega
theorem push_getD_lt {l : Array Bool} {i : Nat} {d : Bool} (hl : l.size = n) (hi : i < n) : (l.push false).getD i d = l.getD i d := by
  simp only [Array.getD_eq_getD_getElem?]
  rw [Array.getElem?_push, if_neg (by omega)]
theorem push_getD_last {l : Array Bool} {d : Bool} (hl : l.size = n) : (l.push false).getD n d = false := by
  simp only [Array.getD_eq_getD_getElem?]
  rw [Array.getElem?_push, if_pos (by omega)]; rfl

/-- What may come up is the same with and without the last operation. -/
theorem mem_ready_pop (h : Region.popB md ops n = true) {l : Array Bool} (hl : l.size = n) {i : Nat} (hi : i < n) : i ∈ Region.ready md ops (l.push false) ↔ i ∈ Region.ready md ops.pop l := by
  have hs := Region.popB_size h
  rw [mem_ready, mem_ready, push_getD_lt hl hi, pop_get hs hi]
  constructor
  · rintro ⟨h1, o, ho, h2⟩
    refine ⟨h1, o, ho, fun e he hb => ?_⟩
    have := h2 e he hb
    rwa [push_getD_lt hl (by have := (Region.popB_back h ho).1 e he; omega)] at this
  · rintro ⟨h1, o, ho, h2⟩
    refine ⟨h1, o, ho, fun e he hb => ?_⟩
    rw [push_getD_lt hl (by have := (Region.popB_back h ho).1 e he; omega)]
    exact h2 e he hb

theorem getD_flip {l : Array Bool} {i : Nat} (h : ¬ l.getD i false = true) (hi : i < l.size) : l.getD i true = false := by
  simp only [Array.getD_eq_getD_getElem?, Array.getElem?_eq_getElem hi, Option.getD_some] at *
  simpa using h

/-- Where something has not come up, something may come up. -/
theorem ready_of_unlisted (h : Region.popB md ops n = true) {l : Array Bool} (hl : l.size = n + 1) : ∀ (k i : Nat), i ≤ k → i < n + 1 → l.getD i false = false → ∃ j, j ≤ i ∧ j ∈ Region.ready md ops l := by
  intro k
  induction k with
  | zero =>
    intro i hk hi hu
    have hs := Region.popB_size h
    obtain rfl : i = 0 := by omega
    refine ⟨0, by omega, mem_ready.2 ⟨getD_flip (by rw [hu]; simp) (by omega), ops[0]'(by omega), Array.getElem?_eq_getElem _, fun e he _ => ?_⟩⟩
    have := (Region.popB_back h (Array.getElem?_eq_getElem (by omega))).1 e he
    omega
  | succ k ih =>
    intro i hk hi hu
    have hs := Region.popB_size h
    by_cases hall : ∀ e ∈ (ops[i]'(by omega)).after, Region.binds md e = true → l.getD e.on false = true
    · exact ⟨i, by omega, mem_ready.2 ⟨getD_flip (by rw [hu]; simp) (by omega), ops[i]'(by omega), Array.getElem?_eq_getElem _, hall⟩⟩
    · simp only [Classical.not_forall] at hall
      obtain ⟨e, he, hb, hne⟩ := hall
      have hlt := (Region.popB_back h (Array.getElem?_eq_getElem (by omega))).1 e he
      obtain ⟨j, hj, hr⟩ := ih e.on (by omega) (by omega) (by simpa using hne)
      exact ⟨j, by omega, hr⟩

theorem yielded_pop (hs : ops.size = n + 1) {j : Nat} (hj : j < n) (t : Array Value) : yielded ops.pop t j = yielded ops t j := by
  unfold yielded; rw [pop_get hs hj]
theorem wanted_pop (h : Region.popB md ops n = true) {i : Nat} {o : Oper} (hi : i < n) (ho : ops[i]? = some o) (t : Array Value) : Region.wanted o (yielded ops.pop t) = Region.wanted o (yielded ops t) := by
  unfold Region.wanted
  cases hg : o.guard with
  | none => rfl
  | some g =>
    obtain ⟨j, b⟩ := g
    have := (Region.popB_back h ho).2 j b hg
    simp only
    rw [yielded_pop (Region.popB_size h) (by omega)]

theorem wpOp_pop (h : Region.popB md ops n = true) {i : Nat} (hi : i < n) {K : Act → World → Prop} {a : Act} {w : World} (hh : wpOp P ops.pop (PopQ P ops n Q) i K a w) : wpOp P ops Q i K a w := by
  have hs := Region.popB_size h
  have ho : ops[i]? = some (ops[i]'(by omega)) := Array.getElem?_eq_getElem _
  unfold wpOp at *
  rw [pop_get hs hi] at hh
  have hwp := wanted_pop h hi ho a.tmps
  simp only [ho] at hh ⊢
  rw [hwp] at hh
  split
  · rename_i hw
    simp only [hw, if_true] at hh
    rcases hh with hh | ⟨h1, a', w', hq⟩
    · exact .inl (Oper.wp_other (fun e a w he hq => PopQ.other he hq) hh)
    · exact .inr ⟨h1, a', w', hq⟩
  · rename_i hw
    simp only [hw] at hh
    exact hh

theorem all_listed_ready (h : Region.popB md ops n = true) {l : Array Bool} (hl : l.size = n) (hr : n ∈ Region.ready md ops (l.push false)) : ∀ i, i < n → l.getD i false = true := by
  intro i hi
  have hs := Region.popB_size h
  obtain ⟨_, o, ho, hall⟩ := mem_ready.1 hr
  obtain ⟨e, he, hb, hon⟩ := Region.popB_last h hi ho
  have := hall e he hb
  rw [hon, push_getD_lt hl hi] at this
  exact this

theorem ready_nil_of_all {l : Array Bool} (hl : l.size = ops.size) (h : ∀ i, i < ops.size → l.getD i false = true) : Region.ready md ops l = [] := by
  rw [List.eq_nil_iff_forall_not_mem]
  intro i hi
  obtain ⟨h1, o, ho, _⟩ := mem_ready.1 hi
  have hlt := (Array.getElem?_eq_some_iff.1 ho).1
  have := h i hlt
  simp only [Array.getD_eq_getD_getElem?, Array.getElem?_eq_getElem (show i < l.size by omega), Option.getD_some] at *
  rw [this] at h1; cases h1

theorem wpAny_last (h : Region.popB md ops n = true) {l : Array Bool} (hl : l.size = n) {a : Act} {w : World} (hr : ∀ i, i < n → l.getD i false = true) (hq : PopQ P ops n Q .normal a w) (f : Nat) : wpOp P ops Q n (wpAny P md ops Q f ((l.push false).setIfInBounds n true)) a w := by
  have hs := Region.popB_size h
  refine wpOp_mono (fun a' w' hq' => ?_) hq
  have hnil : Region.ready md ops ((l.push false).setIfInBounds n true) = [] := by
    refine ready_nil_of_all (by simp; omega) fun i hi => ?_
    by_cases hin : i = n
    · subst hin; simp only [Array.getD_eq_getD_getElem?]; rw [Array.getElem?_setIfInBounds, if_pos rfl, if_pos (by rw [Array.size_push, hl]; omega)]; rfl
    · have := hr i (by omega)
      rw [← push_getD_lt hl (by omega)] at this
      simp only [Array.getD_eq_getD_getElem?] at *
      rw [Array.getElem?_setIfInBounds, if_neg (by omega)]
      exact this
  cases f with
  | zero => exact ⟨hnil, hq'⟩
  | succ f => exact ⟨fun _ => hq', fun i hi => by rw [hnil] at hi; cases hi⟩

theorem push_set {l : Array Bool} {i : Nat} (hl : l.size = n) (hi : i < n) : (l.push false).setIfInBounds i true = (l.setIfInBounds i true).push false := by
  apply Array.ext_getElem?
  intro k
  simp only [Array.getElem?_setIfInBounds, Array.getElem?_push, Array.size_push, Array.size_setIfInBounds]
  by_cases hik : i = k
  · subst hik; simp [show i < l.size + 1 by omega, show i < l.size by omega, show i ≠ l.size by omega]
  · simp [hik]

theorem wpAny_pop (h : Region.popB md ops n = true) : ∀ (f : Nat) (l : Array Bool) (a : Act) (w : World), l.size = n → wpAny P md ops.pop (PopQ P ops n Q) f l a w → wpAny P md ops Q (f + 1) (l.push false) a w := by
  have hs := Region.popB_size h
  intro f
  induction f with
  | zero =>
    intro l a w hl hw
    refine ⟨fun h0 => ?_, fun i hi => ?_⟩
    · obtain ⟨j, _, hj⟩ := ready_of_unlisted h (l := l.push false) (by simp; omega) n n (Nat.le_refl _) (by omega) (push_getD_last hl)
      rw [h0] at hj; cases hj
    · have hlt : i < n + 1 := by
        obtain ⟨_, o, ho, _⟩ := mem_ready.1 hi
        rw [← hs]; exact (Array.getElem?_eq_some_iff.1 ho).1
      by_cases hin : i = n
      · subst hin
        exact wpAny_last h hl (all_listed_ready h hl hi) hw.2 0
      · have := (mem_ready_pop h hl (by omega)).1 hi
        rw [hw.1] at this; cases this
  | succ f ih =>
    intro l a w hl hw
    refine ⟨fun h0 => ?_, fun i hi => ?_⟩
    · obtain ⟨j, _, hj⟩ := ready_of_unlisted h (l := l.push false) (by simp; omega) n n (Nat.le_refl _) (by omega) (push_getD_last hl)
      rw [h0] at hj; cases hj
    · have hlt : i < n + 1 := by
        obtain ⟨_, o, ho, _⟩ := mem_ready.1 hi
        rw [← hs]; exact (Array.getElem?_eq_some_iff.1 ho).1
      by_cases hin : i = n
      · subst hin
        have hall := all_listed_ready h hl hi
        exact wpAny_last h hl hall (hw.1 (ready_nil_of_all (by simp; omega) (fun k hk => hall k (by simp at hk; omega)))) _
      · have hlt' : i < n := by omega
        have h1 := wpOp_pop h hlt' (hw.2 i ((mem_ready_pop h hl hlt').1 hi))
        rw [push_set hl hlt']
        exact wpOp_mono (fun a' w' hx => ih _ a' w' (by simp; omega) hx) h1

/-- THE LAW: the region without its last operation is walked under S; then the last operation. -/
theorem wp_region_pop {S : World → Prop} {id : Nat} {a : Act} {w : World} (n : Nat) (hm : P.follows .mixedOrders = true) (hB : Region.popB .any ops n = true) (hS : S w.drew)
    (h : S w.drew → wpAnyH P .any ops.pop (PopQ P ops n Q) S n (Array.replicate n false) a w.drew) : (Code.region id ops true).wp P Q a w := by
  have hs := Region.popB_size hB
  refine wp_region_any hm ?_
  have := wpAny_pop hB n (Array.replicate n false) a w.drew (by simp) (wpAny_of_held _ _ _ _ (h hS))
  rw [hs, show (Array.replicate (n + 1) false) = (Array.replicate n false).push false from Array.replicate_succ]
  exact this
/-- An operation is taken first, its slot by number. -/
theorem wpAnyH_takeD {S : World → Prop} {i : Nat} (d : Nat) {oi : Oper} {v : Value} {fuel : Nat} {listed : Array Bool} {t : Array Value} {df : List Deferred} {w : World} (hi : ops[i]? = some oi) (hd : oi.dst = some d)
    (hs : Region.noSelect ops = true) (hf : Region.free md ops listed i = true) (hr : (Region.ready md ops listed).contains i = true)
    (hQ : ∀ c a w, Q (.panic c) (a.put (some d) v) w → Q (.panic c) a w) (hy : Region.wanted oi (yielded ops t) = true ∧ ∀ w, S w → (execOp (Act.eval ⟨t, df⟩) oi).run P w = .ok (.value v) w) (hS : S w)
    (h : wpAnyH P md ops Q S fuel (listed.setIfInBounds i true) ⟨t.setIfInBounds d v, df⟩ w) : wpAnyH P md ops Q S (fuel + 1) listed ⟨t, df⟩ w :=
  wpAnyH_take hi hs hf hr (by rw [hd]; exact hQ) (.inl hy) hS (by rw [hd]; exact h)
/-- The one operation that may come up, a call or one that makes memory, its slot by number. -/
theorem wpAnyH_oneD {S : World → Prop} (i : Nat) {o : Oper} {fuel : Nat} {listed : Array Bool} {a : Act} {w : World} (ho : ops[i]? = some o) (hr : Region.ready md ops listed = [i]) (hg : o.guard = none)
    (h : ∀ K' : Act → World → Prop, Shut (∀ a w, S w → (S w → wpAnyH P md ops Q S fuel (listed.setIfInBounds i true) a w) → K' a w) → Oper.wp P o a w K' Q) : wpAnyH P md ops Q S (fuel + 1) listed a w :=
  wpAnyH_ready hr (by simp) (AllReadyH.cons ho (fun K hK => by
    have hw : Region.wanted o (yielded ops a.tmps) = true := by simp [Region.wanted, hg]
    rw [if_pos hw]; exact h K hK) AllReadyH.nil)
theorem PopQ.last {o : Oper} {a : Act} {w : World} (ho : ops[n]? = some o) (hg : o.guard = none) (h : ∀ K' : Act → World → Prop, (∀ a w, Q .normal a w → K' a w) → Oper.wp P o a w K' Q) : PopQ P ops n Q .normal a w := by
  show wpOp P ops Q n (fun a w => Q .normal a w) a w
  refine wpOp_step ho (fun K hK => ?_)
  have hw : Region.wanted o (yielded ops a.tmps) = true := by simp [Region.wanted, hg]
  rw [if_pos hw]; exact h K hK
/-- append onto a row of the call's own, the slot by number -/
theorem wp_append_liesD {o : Oper} (w : World) {t0 : Array Value} {df : List Deferred} {K : Act → World → Prop} (d : Nat) (hd : o.dst = some d) (s x : Operand) (t : TypeId)
    (ho : o.op = .call { callee := .builtin .append, args := #[s, x], argTypes := #[t, t] })
    (base : Nat) (e : TypeId) (i : TypeInfo) (z : Value) (size bytes : Nat) (ht : P.underlying t = some (.slice e)) (hi : P.info? e = some i) (hz : i.zero = some z)
    (hsize : i.size = size) (hby : i.bytes = bytes) (hzs : z.cells.size = size) (hsz : 0 < size)
    (v : Value) (n : Nat) (xs : List Value) (hs : Act.eval ⟨t0, df⟩ s = v) (hown : w.ownsRow base e size v n xs)
    (ad : Addr) (m c : Nat) (news : List Value) (hx : Act.eval ⟨t0, df⟩ x = .slice (some ad) m c) (hl : news.length = m * size) (hnews : ∀ j u, news[j]? = some u → w.cell? (ad.add j) = some u) (h1 : ∀ u ∈ news, u.oneCell' = true)
    (hm : 0 < m) (h63 : n + m ≤ maxLen) (hbytes : (n + m) * bytes ≤ 140737488355328) (hbase : base ≤ w.heap.size) (H : Nat) (hH : w.heap.size = H)
    (h : ∀ g cap w', w'.ownsRow base e size (.slice (some ⟨g, 0, none⟩) (n + m) cap) (n + m) (xs ++ news) → w.grownBy w' v.ownBlock → (v.ownBlock = some g ∨ g = H) → g < w'.heap.size → K ⟨t0.setIfInBounds d (.slice (some ⟨g, 0, none⟩) (n + m) cap), df⟩ w') : o.wp P ⟨t0, df⟩ w K Q :=
  wp_append_lies w s x t ho base e i z size bytes ht hi hz hsize hby hzs hsz v n xs hs hown ad m c news hx hl hnews h1 hm h63 hbytes hbase H hH (by rw [hd]; exact h)
end
end Go
/- a region that draws, walked by hand: guarded operations that are not wanted -/
namespace Go
section
variable {P : Program} {ops : Array Oper} {Q : Exit → Act → World → Prop} {md : Region.Mode}
theorem wp_region_held0 {S : World → Prop} {id : Nat} {a : Act} {w : World} (n : Nat) (hn : ops.size = n) (hm : P.follows .mixedOrders = true) (hS : S w.drew)
    (h : S w.drew → wpAnyH P .any ops Q S n (Array.replicate n false) a w.drew) : (Code.region id ops true).wp P Q a w := by
  refine wp_region_any hm ?_
  rw [hn]
  exact wpAny_of_held _ _ _ _ (h hS)
/-- An operation that is not wanted is passed. -/
theorem wpAnyH_skipD {S : World → Prop} {i : Nat} (d : Nat) {oi : Oper} {fuel : Nat} {listed : Array Bool} {t : Array Value} {df : List Deferred} {w : World} (hi : ops[i]? = some oi) (hd : oi.dst = some d)
    (hs : Region.noSelect ops = true) (hf : Region.free md ops listed i = true) (hr : (Region.ready md ops listed).contains i = true)
    (hQ : ∀ c a w, Q (.panic c) (a.put (some d) undef) w → Q (.panic c) a w) (hw : Region.wanted oi (yielded ops t) = false) (hS : S w)
    (h : wpAnyH P md ops Q S fuel (listed.setIfInBounds i true) ⟨t.setIfInBounds d undef, df⟩ w) : wpAnyH P md ops Q S (fuel + 1) listed ⟨t, df⟩ w :=
  wpAnyH_take hi hs hf hr (by rw [hd]; exact hQ) (.inr ⟨hw, rfl⟩) hS (by rw [hd]; exact h)
/-- The one operation that may come up, a guarded call that is wanted. -/
theorem wpAnyH_oneW {S : World → Prop} (i : Nat) {o : Oper} {fuel : Nat} {listed : Array Bool} {a : Act} {w : World} (ho : ops[i]? = some o) (hr : Region.ready md ops listed = [i]) (hw : Region.wanted o (yielded ops a.tmps) = true)
    (h : ∀ K' : Act → World → Prop, Shut (∀ a w, S w → (S w → wpAnyH P md ops Q S fuel (listed.setIfInBounds i true) a w) → K' a w) → Oper.wp P o a w K' Q) : wpAnyH P md ops Q S (fuel + 1) listed a w :=
  wpAnyH_ready hr (by simp) (AllReadyH.cons ho (fun K hK => by
    rw [if_pos hw]; exact h K hK) AllReadyH.nil)
end
end Go
/-
  Common words of all walks: a slice that reads as a list of cells, nil let in; what a call keeps.
-/
namespace Go.Proofs.YtnflpnbpigcfhabDoor
open Go.RowKit

/-- The slice that begins at A reads as the cells xs. -/
def Lies (w : World) (A : Option Addr) (xs : List Value) : Prop :=
  0 < xs.length → ∃ b off, A = some ⟨b, off, none⟩ ∧ b < w.heap.size ∧ ∀ k u, xs[k]? = some u → w.cell? ⟨b, off + k, none⟩ = some u

/-- integers as cells -/
abbrev ics (l : List Int) : List Value := l.map (Value.int .i64)

theorem Lies.nil (w : World) (A : Option Addr) : Lies w A [] := fun h => absurd h (by simp)

theorem Lies.keep {w w' : World} {A : Option Addr} {xs : List Value} (h : Lies w A xs) (hs : w.heap.size ≤ w'.heap.size)
    (hk : ∀ p : Addr, p.block < w.heap.size → w'.cell? p = w.cell? p) : Lies w' A xs := fun h0 => by
  obtain ⟨b, off, e, hb, hc⟩ := h h0
  exact ⟨b, off, e, by omega, fun k u hu => (hk _ hb).trans (hc k u hu)⟩
theorem Lies.below {w w' : World} {A : Option Addr} {xs : List Value} (h : Lies w A xs) (hb : Below w.heap.size w w') : Lies w' A xs :=
  h.keep hb.size fun _ hp => hb.cell hp
theorem Lies.alloc {w : World} {A : Option Addr} {xs : List Value} (h : Lies w A xs) (o : Obj) : Lies (w.alloc o) A xs :=
  h.keep (by simp) fun p hp => World.cell?_alloc_lt w o p hp
theorem Lies.drewN {w : World} {A : Option Addr} {xs : List Value} (h : Lies w A xs) (n : Nat) : Lies (w.drewN n) A xs := h
theorem Lies.drew {w : World} {A : Option Addr} {xs : List Value} (h : Lies w A xs) : Lies w.drew A xs := h
theorem Lies.at_ {w : World} {A : Option Addr} {l : List Int} (h : Lies w A (ics l)) {k : Nat} (hk : k < l.length) :
    ∃ b off, A = some ⟨b, off, none⟩ ∧ b < w.heap.size ∧ w.cell? ⟨b, off + k, none⟩ = some (.int .i64 (l[k]?.getD 0)) := by
  obtain ⟨b, off, e, hb, hc⟩ := h (by simp; omega)
  refine ⟨b, off, e, hb, hc k _ ?_⟩
  simp [List.getElem?_eq_getElem hk]
/-- a row of the call's own reads as its cells -/
theorem Lies.of_own {w : World} {base : Nat} {e : TypeId} {size n c : Nat} {A : Option Addr} {xs : List Value} (h : w.ownsRow base e size (.slice A n c) n xs) : Lies w A xs := fun h0 => by
  have hn : 0 < n := by
    have := h.1
    rcases Nat.eq_zero_or_pos n with h1 | h1
    · subst h1; simp at this; subst this; simp at h0
    · exact h1
  obtain ⟨g, cap, hv, _, hlt⟩ := h.form hn
  have hA : A = some ⟨g, 0, none⟩ := by injection hv
  subst hA
  refine ⟨g, 0, rfl, hlt, fun k u hu => ?_⟩
  have := h.cells (g := g) rfl k u hu
  rwa [Addr.add_lit] at this

/-- only block g, and what is new, has turned -/
theorem only_drewN {a w : World} {row : Option Nat} (h : a.grownBy w row) (n : Nat) : a.grownBy (w.drewN n) row := ⟨h.os, h.tape, h.output, h.size, h.block⟩
theorem only_drew {a w : World} {row : Option Nat} (h : a.grownBy w row) : a.grownBy w.drew row := ⟨h.os, h.tape, h.output, h.size, h.block⟩
theorem only_alloc {a w : World} {row : Option Nat} (h : a.grownBy w row) (o : Obj) : a.grownBy (w.alloc o) row :=
  ⟨h.os, h.tape, h.output, Nat.le_trans h.size (by simp), fun i hi hne => (Below.heap_alloc w o i (Nat.lt_of_lt_of_le hi h.size)).trans (h.block i hi hne)⟩
theorem only_set {a w : World} {g : Nat} (h : a.grownBy w (some g)) {p : Addr} (hp : p.block = g ∨ a.heap.size ≤ p.block) (u : Value) : a.grownBy (w.setCell p u) (some g) :=
  ⟨h.os, h.tape, h.output, by simpa [World.setCell] using h.size, fun i hi hne => (Below.heap_setCell w p u i (by
    rintro rfl
    rcases hp with hp | hp
    · exact hne (by rw [hp])
    · omega)).trans (h.block i hi hne)⟩
/-- behind a law on append that wrote only to a row from a's end on -/
theorem only_grown {a w w' : World} {row row' : Option Nat} (h : a.grownBy w row) (hg : w.grownBy w' row') (hr : ∀ k, row' = some k → a.heap.size ≤ k) : a.grownBy w' row :=
  ⟨hg.os.trans h.os, hg.tape.trans h.tape, hg.output.trans h.output, Nat.le_trans h.size hg.size, fun i hi hne =>
    (hg.block i (Nat.lt_of_lt_of_le hi h.size) (fun e => by have := hr i e.symm; omega)).trans (h.block i hi hne)⟩
theorem only_below {a w w' : World} {row : Option Nat} (h : a.grownBy w row) (hb : Below w.heap.size w w') : a.grownBy w' row :=
  ⟨hb.os.trans h.os, hb.tape.trans h.tape, hb.output.trans h.output, Nat.le_trans h.size hb.size, fun i hi hne => (hb.block i (Nat.lt_of_lt_of_le hi h.size)).trans (h.block i hi hne)⟩
theorem only_cell {a w : World} {g : Nat} (h : a.grownBy w (some g)) : ∀ b o, b < a.heap.size → b ≠ g → w.cell? ⟨b, o, none⟩ = a.cell? ⟨b, o, none⟩ :=
  fun b o hb hne => World.cell?_of_block (a := ⟨b, o, none⟩) (h.block b hb (fun e => hne (by injection e)))
theorem Below.of_only {a w : World} {B g : Nat} (h : a.grownBy w (some g)) (hB : B ≤ a.heap.size) (hg : B ≤ g) : Below B a w :=
  ⟨h.os, h.tape, h.output, h.size, fun k hk => h.block k (by omega) (fun e => by injection e; omega)⟩
theorem Lies.only {a w : World} {A : Option Addr} {xs : List Value} {g : Nat} {w0 : World} (h : Lies w0 A xs) (hB : Below w0.heap.size w0 a) (hw : a.grownBy w (some g)) (hg : w0.heap.size ≤ g) : Lies w A xs :=
  h.below (hB.trans (Below.of_only (B := w0.heap.size) hw hB.size hg))
theorem ownsRow_le {w : World} {b b' : Nat} {e : TypeId} {size n : Nat} {v : Value} {xs : List Value} (h : w.ownsRow b e size v n xs) (hb : b' ≤ b) : w.ownsRow b' e size v n xs := by
  obtain ⟨h1, h2⟩ := h
  refine ⟨h1, ?_⟩
  rcases h2 with h2 | ⟨g, cap, cur, hv, hg, rest⟩
  · exact .inl h2
  · exact .inr ⟨g, cap, cur, hv, by omega, rest⟩
theorem ownsRow_far {w : World} {base : Nat} {e : TypeId} {size n : Nat} {v : Value} {xs : List Value} (h : w.ownsRow base e size v n xs) {p : Addr} (hp : p.block < base) (u : Value) : (w.setCell p u).ownsRow base e size v n xs :=
  ownsRow_setCell_below h hp u

end Go.Proofs.YtnflpnbpigcfhabDoor
/- Plain facts: division with rounding, halves away from 0. -/
namespace Ear

/-- division with rounding, halves away from 0 -/
def rnd (a b : Int) : Int := if a < 0 then -((2 * (-a) + b) / (2 * b)) else (2 * a + b) / (2 * b)
theorem rnd_pos {a b : Int} (h : 0 ≤ a) : rnd a b = (2 * a + b) / (2 * b) := by unfold rnd; rw [if_neg (by omega)]
theorem rnd_neg {a b : Int} (h : a < 0) : rnd a b = -((2 * (-a) + b) / (2 * b)) := by unfold rnd; rw [if_pos h]
theorem rnd_of_neg {a b : Int} (h : a < 0) : rnd a b = -rnd (-a) b := by rw [rnd_neg h, rnd_pos (by omega)]
/-- q is the rounded quotient of a nonnegative a -/
theorem rnd_le {a b q : Int} (ha : 0 ≤ a) (hb : 1 ≤ b) (h : 2 * a + b < 2 * b * (q + 1)) : rnd a b ≤ q := by
  rw [rnd_pos ha]
  have := Int.ediv_lt_of_lt_mul (show 0 < 2 * b by omega) (show 2 * a + b < (q + 1) * (2 * b) by rw [Int.mul_comm (q + 1)]; exact h)
  omega
theorem le_rnd {a b q : Int} (ha : 0 ≤ a) (hb : 1 ≤ b) (h : 2 * b * q ≤ 2 * a + b) : q ≤ rnd a b := by
  rw [rnd_pos ha]
  exact Int.le_ediv_of_mul_le (by omega) (by rw [Int.mul_comm]; exact h)
theorem rnd_nonneg {a b : Int} (ha : 0 ≤ a) (hb : 1 ≤ b) : 0 ≤ rnd a b := le_rnd ha hb (by simp; omega)
theorem rnd_le_self {a b : Int} (ha : 0 ≤ a) (hb : 1 ≤ b) : rnd a b ≤ a := by
  refine rnd_le ha hb ?_
  have h1 : a ≤ b * a := by
    have := Int.mul_le_mul_of_nonneg_right hb ha
    omega
  have h2 : 2 * b * (a + 1) = 2 * (b * a) + 2 * b := by rw [Int.mul_add, Int.mul_assoc]; omega
  omega
theorem rnd_zero {b : Int} (hb : 1 ≤ b) : rnd 0 b = 0 := by
  have h1 := rnd_nonneg (a := 0) (b := b) (by omega) hb
  have h2 := rnd_le_self (a := 0) (b := b) (by omega) hb
  omega
theorem rnd_bd {a b : Int} (hb : 1 ≤ b) : (0 ≤ a → 0 ≤ rnd a b ∧ rnd a b ≤ a) ∧ (a ≤ 0 → a ≤ rnd a b ∧ rnd a b ≤ 0) := by
  refine ⟨fun h => ⟨rnd_nonneg h hb, rnd_le_self h hb⟩, fun h => ?_⟩
  by_cases h0 : a = 0
  · subst h0; rw [rnd_zero hb]; omega
  · have h1 : a < 0 := by omega
    rw [rnd_of_neg h1]
    have := rnd_nonneg (a := -a) (b := b) (by omega) hb
    have := rnd_le_self (a := -a) (b := b) (by omega) hb
    omega
end Ear
/- rounding -/
namespace Go.Proofs.YtnflpnbpigcfhabDoor
open Go.RowKit Ear

theorem ret_int {k : IntKind} {a b : Int} (h : a = b) : Ending.returned (.int k a) = .returned (.int k b) := by rw [h]

set_option maxHeartbeats 400000 in
theorem rounded_pos (a b : Int) (w : World) (h0 : 0 ≤ a) (hb : 1 ≤ b) (h : 2 * a + b ≤ 9223372036854775807) (hb2 : 2 * b ≤ 9223372036854775807) :
    Calls Tryd.prog 46 #[.int .i64 a, .int .i64 b] w fun e w' => e = .returned (.int .i64 (rnd a b)) ∧ w = w' := by
  go_enter Tryd.func46, Tryd.ntmps46
  go_wp2_with fail
  go_ret
  exact ⟨ret_int (rnd_pos h0).symm, rfl⟩
set_option maxHeartbeats 400000 in
theorem rounded_any (a b : Int) (w : World) (hb : 1 ≤ b) (h : 2 * a + b ≤ 9223372036854775807) (h' : -9223372036854775807 ≤ 2 * a - b) (hb2 : 2 * b ≤ 9223372036854775807) :
    Calls Tryd.prog 46 #[.int .i64 a, .int .i64 b] w fun e w' => e = .returned (.int .i64 (rnd a b)) ∧ w = w' := by
  by_cases h0 : 0 ≤ a
  · exact rounded_pos a b w h0 hb h hb2
  · have hr := (rnd_bd (a := -a) hb).1 (by omega)
    go_enter Tryd.func46, Tryd.ntmps46
    go_wp2_with (go_at_call 46; refine (rounded_pos _ _ _ (by omega) (by omega) (by omega) (by omega)).mono ?_; rintro e w' ⟨rfl, rfl⟩)
    go_ret
    exact ⟨ret_int (rnd_of_neg (by omega)).symm, rfl⟩
set_option maxHeartbeats 400000 in
theorem Round_pos (a b : Int) (w : World) (h0 : 0 ≤ a) (hb : 1 ≤ b) (h : 2 * a + b ≤ 9223372036854775807) (hb2 : 2 * b ≤ 9223372036854775807) :
    Calls Tryd.prog 29 #[.int .i64 a, .int .i64 b] w fun e w' => e = .returned (.int .i64 (rnd a b)) ∧ w = w' := by
  go_enter Tryd.func29, Tryd.ntmps29
  go_wp2_with fail
  go_ret
  exact ⟨ret_int (rnd_pos h0).symm, rfl⟩
set_option maxHeartbeats 400000 in
theorem Round_any (a b : Int) (w : World) (hb : 1 ≤ b) (h : 2 * a + b ≤ 9223372036854775807) (h' : -9223372036854775807 ≤ 2 * a - b) (hb2 : 2 * b ≤ 9223372036854775807) :
    Calls Tryd.prog 29 #[.int .i64 a, .int .i64 b] w fun e w' => e = .returned (.int .i64 (rnd a b)) ∧ w = w' := by
  by_cases h0 : 0 ≤ a
  · exact Round_pos a b w h0 hb h hb2
  · have hr := (rnd_bd (a := -a) hb).1 (by omega)
    go_enter Tryd.func29, Tryd.ntmps29
    go_wp2_with (go_at_call 29; refine (Round_pos _ _ _ (by omega) (by omega) (by omega) (by omega)).mono ?_; rintro e w' ⟨rfl, rfl⟩)
    go_ret
    exact ⟨ret_int (rnd_of_neg (by omega)).symm, rfl⟩
end Go.Proofs.YtnflpnbpigcfhabDoor
/- Plain words of the wave layer: which lists and recordings are right. -/
namespace Ear

/-- x is from lo to hi -/
def inR (lo hi x : Int) : Bool := decide (lo ≤ x) && decide (x ≤ hi)
theorem inR_true {lo hi x : Int} : inR lo hi x = true ↔ lo ≤ x ∧ x ≤ hi := by simp [inR]
theorem inR_false {lo hi x : Int} : inR lo hi x = false ↔ x < lo ∨ hi < x := by
  cases h : inR lo hi x with
  | true => rw [inR_true] at h; simp; omega
  | false => simp [inR] at h; simp; omega
/-- all numbers are from lo to hi -/
def allR (lo hi : Int) (l : List Int) : Bool := l.all (inR lo hi)
theorem allR_mem {lo hi : Int} {l : List Int} (h : allR lo hi l = true) {x : Int} (hx : x ∈ l) : lo ≤ x ∧ x ≤ hi :=
  inR_true.1 (List.all_eq_true.1 h x hx)
theorem allR_of {lo hi : Int} {l : List Int} (h : ∀ x ∈ l, lo ≤ x ∧ x ≤ hi) : allR lo hi l = true :=
  List.all_eq_true.2 fun x hx => inR_true.2 (h x hx)
theorem allR_get {lo hi : Int} {l : List Int} (h : allR lo hi l = true) {k : Nat} (hk : k < l.length) : lo ≤ l[k] ∧ l[k] ≤ hi := allR_mem h (List.getElem_mem hk)
/-- samples -/
def smp (l : List Int) : Bool := allR (-32768) 32767 l
/-- values -/
def vls (l : List Int) : Bool := allR (-2147483647) 2147483647 l
/-- what is wrong with a recording: 5, 2 or 0 -/
def chk (rate : Int) (l : List Int) : Int := if 200000 < l.length then 5 else if 1 ≤ rate ∧ rate ≤ 192000 ∧ smp l = true then 0 else 2
theorem chk_ok {rate : Int} {l : List Int} : chk rate l = 0 ↔ l.length ≤ 200000 ∧ 1 ≤ rate ∧ rate ≤ 192000 ∧ smp l = true := by
  unfold chk
  split
  · simp; omega
  · split <;> simp_all
/-- what is wrong with a list of values -/
def vchk (l : List Int) : Int := if 200000 < l.length then 5 else if vls l = true then 0 else 2
theorem vchk_ok {l : List Int} : vchk l = 0 ↔ l.length ≤ 200000 ∧ vls l = true := by
  unfold vchk
  split
  · simp; omega
  · split <;> simp_all
/-- what is wrong with a list and the numbers of an emphasis -/
def rchk (l : List Int) (num den : Int) : Int := if vchk l = 0 then (if 0 ≤ num ∧ num ≤ den ∧ 1 ≤ den ∧ den ≤ 1024 then 0 else 2) else vchk l
end Ear
/- a first walk -/
namespace Go.Proofs.YtnflpnbpigcfhabDoor
open Go.RowKit Ear

theorem all_take_succ {p : Int → Bool} {l : List Int} {k : Nat} (hk : k < l.length) (h : (l.take k).all p = true) (hx : p l[k] = true) : (l.take (k + 1)).all p = true := by
  rw [List.take_succ_eq_append_getElem hk, List.all_append, h]
  simp [hx]
theorem all_false_at {p : Int → Bool} {l : List Int} {k : Nat} (hk : k < l.length) (hx : p l[k] = false) : l.all p = false := by
  rw [List.all_eq_false]
  exact ⟨l[k], List.getElem_mem hk, by simp [hx]⟩
theorem ret_bool {a b : Bool} (h : a = b) : Ending.returned (.bool a) = .returned (.bool b) := by rw [h]

set_option maxHeartbeats 400000 in
theorem All_any (A : Option Addr) (c : Nat) (l : List Int) (lo hi : Int) (w : World) (h : Lies w A (ics l)) (hn : l.length ≤ 9223372036854775807) (b : Bool) (hb' : Hid (allR lo hi l = b)) :
    Calls Tryd.prog 6 #[.slice A l.length c, .int .i64 lo, .int .i64 hi] w fun e w' => e = .returned (.bool b) ∧ w = w' := by
  go_enter Tryd.func6, Tryd.ntmps6
  go_wp2
  go_loop [7] (fun i => ∃ k : Nat, k ≤ l.length ∧ i = .int .i64 k ∧ (l.take k).all (inR lo hi) = true) (fun i => l.length - (intOf i).toNat)
  case atStart => exact ⟨0, Nat.zero_le _, rfl, rfl⟩
  case round =>
    obtain ⟨k, hk, rfl, hp⟩ := hrel
    by_cases hlt : k < l.length
    · obtain ⟨bk, off, rfl, hb, hc⟩ := h.at_ hlt
      have HP := Lib.hid hp
      clear hp
      go_wp2
      · go_ret
        exact ⟨ret_bool (by rw [← hb'.out]; exact (all_false_at hlt (by simp [inR]; omega)).symm), rfl⟩
      · exact ⟨⟨k + 1, by omega, by go_num, all_take_succ hlt HP.out (by simp [inR]; omega)⟩, by simp [intOf]; omega⟩
      · go_ret
        exact ⟨ret_bool (by rw [← hb'.out]; exact (all_false_at hlt (by simp [inR]; omega)).symm), rfl⟩
    · have HP := Lib.hid hp
      clear hp
      go_wp2
      go_ret
      exact ⟨ret_bool (by rw [← hb'.out]; have hh := HP.out; rw [List.take_of_length_le (by omega)] at hh; exact hh.symm), rfl⟩
end Go.Proofs.YtnflpnbpigcfhabDoor
/- the predicates, slices.IndexFunc and ContainsFunc over them; samples, values, check -/
namespace Go.Proofs.YtnflpnbpigcfhabDoor
open Go.RowKit Ear

set_option maxHeartbeats 400000 in
theorem samples1_any (x : Int) (w : World) : Calls Tryd.prog 71 #[.int .i64 x] w fun e w' => e = .returned (.bool (!inR (-32768) 32767 x)) ∧ w = w' := by
  by_cases h1 : x < -32768
  · go_enter Tryd.func71, Tryd.ntmps71
    go_wp2
    go_ret
    exact ⟨ret_bool (by simp [inR]; omega), rfl⟩
  · by_cases h2 : 32767 < x
    all_goals
      go_enter Tryd.func71, Tryd.ntmps71
      go_wp2
      go_ret
      exact ⟨ret_bool (by simp [inR]; omega), rfl⟩

set_option maxHeartbeats 400000 in
theorem values1_any (x : Int) (w : World) : Calls Tryd.prog 64 #[.int .i64 x] w fun e w' => e = .returned (.bool (!inR (-2147483647) 2147483647 x)) ∧ w = w' := by
  by_cases h1 : x < -2147483647
  · go_enter Tryd.func64, Tryd.ntmps64
    go_wp2
    go_ret
    exact ⟨ret_bool (by simp [inR]; omega), rfl⟩
  · by_cases h2 : 2147483647 < x
    all_goals
      go_enter Tryd.func64, Tryd.ntmps64
      go_wp2
      go_ret
      exact ⟨ret_bool (by simp [inR]; omega), rfl⟩

/-- a predicate on integers that only computes -/
structure Pred (g : FuncId) (p : Int → Bool) : Prop where
  enter : ∀ (args : Array Value) (w : World), (callFunc g args).run Tryd.prog w = .ok (.enter g args) w
  gives : ∀ (x : Int) (w : World), Calls Tryd.prog g #[.int .i64 x] w fun e w' => e = .returned (.bool (p x)) ∧ w = w'

theorem any_take_succ {p : Int → Bool} {l : List Int} {k : Nat} (hk : k < l.length) (h : (l.take k).any p = false) (hx : p l[k] = false) : (l.take (k + 1)).any p = false := by
  rw [List.take_succ_eq_append_getElem hk, List.any_append, h]
  simp [hx]
theorem any_true_at {p : Int → Bool} {l : List Int} {k : Nat} (hk : k < l.length) (hx : p l[k] = true) : l.any p = true := by
  rw [List.any_eq_true]
  exact ⟨l[k], List.getElem_mem hk, hx⟩
/-- the post of slices.IndexFunc: only whether there is one is said -/
def IdxPost (p : Int → Bool) (l : List Int) (w : World) (e : Ending) (w' : World) : Prop := ∃ r : Int, e = .returned (.int .i64 r) ∧ w = w' ∧ decide (0 ≤ r) = l.any p

set_option maxRecDepth 100000 in
set_option maxHeartbeats 400000 in
theorem IndexI_any (g : FuncId) (p : Int → Bool) (hp : Pred g p) (A : Option Addr) (c : Nat) (l : List Int) (w : World) (h : Lies w A (ics l)) (hn : l.length ≤ 9223372036854775807) :
    Calls Tryd.prog 69 #[.slice A l.length c, .func (.func g) #[] #[]] w (IdxPost p l w) := by
  have heg := hp.enter
  go_enter Tryd.func69, Tryd.ntmps69
  go_wp2
  go_loop [5, 8] (fun _ i => ∃ k : Nat, k ≤ l.length ∧ i = .int .i64 k ∧ (l.take k).any p = false) (fun _ i => l.length - (intOf i).toNat)
  case atStart => exact ⟨0, Nat.zero_le _, rfl, rfl⟩
  case round =>
    obtain ⟨k, hk, rfl, hp'⟩ := hrel
    have HP := Lib.hid hp'
    clear hp'
    by_cases hlt : k < l.length
    · obtain ⟨bk, off, rfl, hb, hc⟩ := h.at_ hlt
      go_wp2_with fail
      refine (hp.gives _ _).mono ?_
      rintro e w' ⟨rfl, rfl⟩
      cases hpx : p l[k] with
      | true =>
        have HX := Lib.hid hpx
        clear hpx
        go_wp2_with fail
        go_ret
        exact ⟨k, rfl, rfl, by rw [any_true_at hlt HX.out]; simp⟩
      | false =>
        have HX := Lib.hid hpx
        clear hpx
        go_wp2_with fail
        exact ⟨⟨k + 1, by omega, by go_num, any_take_succ hlt HP.out HX.out⟩, by simp [intOf]; omega⟩
    · go_wp2
      go_ret
      exact ⟨-1, rfl, rfl, by have hh := HP.out; rw [List.take_of_length_le (by omega)] at hh; rw [hh]; rfl⟩

set_option maxHeartbeats 400000 in
theorem ContainsI_any (g : FuncId) (p : Int → Bool) (hp : Pred g p) (A : Option Addr) (c : Nat) (l : List Int) (w : World) (h : Lies w A (ics l)) (hn : l.length ≤ 9223372036854775807) :
    Calls Tryd.prog 53 #[.slice A l.length c, .func (.func g) #[] #[]] w fun e w' => e = .returned (.bool (l.any p)) ∧ w = w' := by
  go_enter Tryd.func53, Tryd.ntmps53
  go_wp2_with fail
  refine (IndexI_any g p hp A c l _ h hn).mono ?_
  rintro e w' ⟨r, rfl, rfl, hr⟩
  have HR := Lib.hid hr
  clear hr
  go_wp2_with fail
  go_ret
  exact ⟨ret_bool HR.out, rfl⟩

theorem samples1_pred : Pred 71 (fun x => !inR (-32768) 32767 x) := ⟨enters_of Tryd.func71 (by kernel_rfl) rfl, samples1_any⟩
theorem values1_pred : Pred 64 (fun x => !inR (-2147483647) 2147483647 x) := ⟨enters_of Tryd.func64 (by kernel_rfl) rfl, values1_any⟩
theorem any_not_allR (lo hi : Int) (l : List Int) : l.any (fun x => !inR lo hi x) = !allR lo hi l := by
  unfold allR; rw [List.all_eq_not_any_not]; simp only [Bool.not_not]

set_option maxHeartbeats 400000 in
theorem samples_any (A : Option Addr) (c : Nat) (l : List Int) (w : World) (h : Lies w A (ics l)) (hn : l.length ≤ 9223372036854775807) (b : Bool) (hb : Hid (smp l = b)) :
    Calls Tryd.prog 63 #[.slice A l.length c] w fun e w' => e = .returned (.bool b) ∧ w = w' := by
  go_enter Tryd.func63, Tryd.ntmps63
  go_wp2_with fail
  refine (ContainsI_any _ _ samples1_pred A c l _ h hn).mono ?_
  rintro e w' ⟨rfl, rfl⟩
  rw [any_not_allR]
  generalize hx : allR (-32768) 32767 l = x
  have HX := Lib.hid hx
  clear hx
  go_wp2_with fail
  go_ret
  exact ⟨ret_bool (by rw [← hb.out, smp, HX.out]), rfl⟩

set_option maxHeartbeats 400000 in
theorem values_any (A : Option Addr) (c : Nat) (l : List Int) (w : World) (h : Lies w A (ics l)) (hn : l.length ≤ 9223372036854775807) (r : Int) (hr : Hid (vchk l = r)) :
    Calls Tryd.prog 47 #[.slice A l.length c] w fun e w' => e = .returned (.int .i64 r) ∧ w = w' := by
  by_cases h1 : 200000 < l.length
  · go_enter Tryd.func47, Tryd.ntmps47
    go_wp2_with fail
    go_ret
    exact ⟨ret_int (by rw [← hr.out, vchk, if_pos h1]), rfl⟩
  · cases hx : allR (-2147483647) 2147483647 l
    all_goals
      have HX := Lib.hid hx
      clear hx
      go_enter Tryd.func47, Tryd.ntmps47
      go_wp2_with fail
      refine (ContainsI_any _ _ values1_pred A c l _ h hn).mono ?_
      rintro e w' ⟨rfl, rfl⟩
      rw [any_not_allR, HX.out]
      go_wp2_with fail
      go_ret
      exact ⟨ret_int (by rw [← hr.out, vchk, if_neg h1, vls, HX.out]; rfl), rfl⟩
end Go.Proofs.YtnflpnbpigcfhabDoor
/- recordings: what is right and what is wrong -/
namespace Go.Proofs.YtnflpnbpigcfhabDoor
open Go.RowKit Ear

/-- a recording as a value -/
abbrev recV (rate : Int) (A : Option Addr) (n c : Nat) : Value := .agg #[.int .i64 rate, .slice A n c]

set_option maxHeartbeats 400000 in
theorem check_any (rate : Int) (A : Option Addr) (c : Nat) (l : List Int) (w : World) (h : Lies w A (ics l)) (hn : l.length ≤ 9223372036854775807) (r : Int) (hr : Hid (chk rate l = r)) :
    Calls Tryd.prog 42 #[recV rate A l.length c] w fun e w' => e = .returned (.int .i64 r) ∧ Below w.heap.size w w' := by
  have hl := fun o => h.alloc (w := w) o
  have HL := Lib.hid hl
  clear hl
  by_cases h1 : 200000 < l.length
  · go_enter Tryd.func42, Tryd.ntmps42
    go_wp2_with fail
    go_ret
    exact ⟨ret_int (by rw [← hr.out, chk, if_pos h1]), (Below.refl _ _).alloc (Nat.le_refl _) _⟩
  · by_cases h2 : rate < 1
    · go_enter Tryd.func42, Tryd.ntmps42
      go_wp2_with fail
      go_ret
      exact ⟨ret_int (by rw [← hr.out, chk, if_neg h1, if_neg (by omega)]), (Below.refl _ _).alloc (Nat.le_refl _) _⟩
    · by_cases h3 : 192000 < rate
      · go_enter Tryd.func42, Tryd.ntmps42
        go_wp2_with fail
        go_ret
        exact ⟨ret_int (by rw [← hr.out, chk, if_neg h1, if_neg (by omega)]), (Below.refl _ _).alloc (Nat.le_refl _) _⟩
      · cases hx : smp l
        all_goals
          have HX := Lib.hid hx
          clear hx
          go_enter Tryd.func42, Tryd.ntmps42
          go_wp2_with fail
          refine (samples_any A c l _ (HL.out _) hn _ HX).mono ?_
          rintro e w' ⟨rfl, rfl⟩
          go_wp2_with fail
          go_ret
          refine ⟨ret_int ?_, (Below.refl _ _).alloc (Nat.le_refl _) _⟩
          rw [← hr.out, chk, if_neg h1, HX.out]
          first | rw [if_pos ⟨by omega, by omega, rfl⟩] | rw [if_neg (by simp)]

set_option maxHeartbeats 400000 in
theorem wValid_any (rate : Int) (A : Option Addr) (c : Nat) (l : List Int) (w : World) (h : Lies w A (ics l)) (hn : l.length ≤ 9223372036854775807) (b : Bool) (hb : Hid (decide (chk rate l = 0) = b)) :
    Calls Tryd.prog 22 #[recV rate A l.length c] w fun e w' => e = .returned (.bool b) ∧ Below w.heap.size w w' := by
  have HL := Lib.hid (fun o => h.alloc (w := w) o)
  go_enter Tryd.func22, Tryd.ntmps22
  go_wp2_with fail
  refine (check_any rate A c l _ (HL.out _) hn _ (Lib.hid rfl)).mono ?_
  rintro e w' ⟨rfl, hw⟩
  generalize hx : chk rate l = x at *
  have HX := Lib.hid hx
  clear hx
  go_wp2_with fail
  go_ret
  refine ⟨ret_bool (by rw [← hb.out]; rfl), ?_⟩
  exact ((Below.refl _ _).alloc (Nat.le_refl _) _).trans (hw.mono (by simp))

theorem not_iff_decide {p : Prop} [Decidable p] {b : Bool} (h : decide p = b) (hp : ¬ p) : b = false := by rw [← h]; simp [hp]

set_option maxHeartbeats 400000 in
theorem rValid_any (rate : Int) (A : Option Addr) (c : Nat) (l : List Int) (w : World) (h : Lies w A (ics l)) (hn : l.length ≤ 9223372036854775807) (b : Bool) (hb : Hid (decide (chk rate l = 0) = b)) :
    Calls Tryd.prog 4 #[recV rate A l.length c] w fun e w' => e = .returned (.bool b) ∧ Below w.heap.size w w' := by
  have HL := Lib.hid (fun o => h.alloc (w := w) o)
  by_cases h2 : rate < 1
  · have hz := not_iff_decide hb.out (by rw [chk_ok]; omega)
    subst hz
    go_enter Tryd.func4, Tryd.ntmps4
    go_wp2_with fail
    go_ret
    exact ⟨rfl, (Below.refl _ _).alloc (Nat.le_refl _) _⟩
  by_cases h3 : 192000 < rate
  · have hz := not_iff_decide hb.out (by rw [chk_ok]; omega)
    subst hz
    go_enter Tryd.func4, Tryd.ntmps4
    go_wp2_with fail
    go_ret
    exact ⟨rfl, (Below.refl _ _).alloc (Nat.le_refl _) _⟩
  by_cases h1 : 200000 < l.length
  · have hz := not_iff_decide hb.out (by rw [chk_ok]; omega)
    subst hz
    go_enter Tryd.func4, Tryd.ntmps4
    go_wp2_with fail
    go_ret
    exact ⟨rfl, (Below.refl _ _).alloc (Nat.le_refl _) _⟩
  have HX : Hid (allR (-32768) 32767 l = b) := by
    show smp l = b
    rw [← hb.out]
    have := @chk_ok rate l
    cases hs : smp l <;> simp_all <;> omega
  go_enter Tryd.func4, Tryd.ntmps4
  go_wp2_with fail
  refine (All_any A c l _ _ _ (HL.out _) hn _ HX).mono ?_
  rintro e w' ⟨rfl, rfl⟩
  go_wp2_with fail
  go_ret
  exact ⟨rfl, (Below.refl _ _).alloc (Nat.le_refl _) _⟩

end Go.Proofs.YtnflpnbpigcfhabDoor
/- Same: equality of two lists -/
namespace Go.Proofs.YtnflpnbpigcfhabDoor
open Go.RowKit Ear

theorem same_take_succ {a b : List Int} {k : Nat} (hk : k < a.length) (hk' : k < b.length) (h : a.take k = b.take k) (hx : a[k] = b[k]) : a.take (k + 1) = b.take (k + 1) := by
  rw [List.take_succ_eq_append_getElem hk, List.take_succ_eq_append_getElem hk', h, hx]

theorem drewN_ex (w : World) (a b : Nat) : ∃ n, (w.drewN a).drewN b = w.drewN n := ⟨a + b, World.drewN_drewN ..⟩

/-- the post of a function that only reads (it may draw) -/
def RetBool (b : Bool) (w : World) (e : Ending) (w' : World) : Prop := e = .returned (.bool b) ∧ ∃ n, w' = w.drewN n

set_option maxHeartbeats 400000 in
theorem Same_any (A B : Option Addr) (c d : Nat) (a b : List Int) (w : World) (ha : Lies w A (ics a)) (hb : Lies w B (ics b)) (hna : a.length ≤ 9223372036854775807) (hnb : b.length ≤ 9223372036854775807) (r : Bool) (hr : Hid (decide (a = b) = r)) :
    Calls Tryd.prog 21 #[.slice A a.length c, .slice B b.length d] w (RetBool r w) := by
  by_cases hl : a.length = b.length
  · have H1 : ((a.length : Int) != (b.length : Int)) = false := by simp [hl]
    have HL := Lib.hid hl
    clear hl
    go_enter Tryd.func21, Tryd.ntmps21
    go_wp2
    go_loopw [5] (fun i wr => ∃ k : Nat, k ≤ a.length ∧ i = .int .i64 k ∧ Hid (a.take k = b.take k) ∧ ∃ n, wr = w.drewN n) (fun i _ => a.length - (intOf i).toNat)
    case atStart => exact ⟨0, Nat.zero_le _, rfl, rfl, 0, rfl⟩
    case round =>
      obtain ⟨k, hk, rfl, hp, n, rfl⟩ := hrel
      by_cases hlt : k < a.length
      · have hlt' : k < b.length := by have := HL.out; omega
        obtain ⟨b1, o1, rfl, hba, hca⟩ := ha.at_ hlt
        obtain ⟨b2, o2, rfl, hbb, hcb⟩ := hb.at_ hlt'
        go_wp2
        go_quiet (fail)
        by_cases hx : a[k] = b[k]
        · have H2 : (a[k] != b[k]) = false := by simp [hx]
          have HX := Lib.hid hx
          clear hx
          go_wp2
          go_roundw
          case rel => exact ⟨k + 1, by omega, by go_num, same_take_succ hlt hlt' hp.out HX.out, _, rfl⟩
          case measure => simp [intOf]; omega
        · have H2 : (a[k] != b[k]) = true := by simp [hx]
          go_wp2
          go_ret
          refine ⟨ret_bool ?_, drewN_ex _ _ _⟩
          rw [← hr.out]
          have : ¬ a = b := fun h => hx (by subst h; rfl)
          simp [this]
      · go_wp2
        go_ret
        refine ⟨ret_bool ?_, _, rfl⟩
        have := hp.out
        rw [List.take_of_length_le (by omega), List.take_of_length_le (by have := HL.out; omega)] at this
        rw [← hr.out]
        simp [this]
  · have H1 : ((a.length : Int) != (b.length : Int)) = true := by simp; omega
    go_enter Tryd.func21, Tryd.ntmps21
    go_wp2
    go_ret
    refine ⟨ret_bool ?_, 0, rfl⟩
    rw [← hr.out]
    have : ¬ a = b := fun h => hl (by rw [h])
    simp [this]
/-- segments as cells -/
def scs : List (Int × Int) → List Value
  | [] => []
  | p :: l => .int .i64 p.1 :: .int .i64 p.2 :: scs l
theorem scs_length (l : List (Int × Int)) : (scs l).length = l.length * 2 := by
  induction l with
  | nil => rfl
  | cons p l ih => simp [scs, ih]; omega
theorem scs_append (a b : List (Int × Int)) : scs (a ++ b) = scs a ++ scs b := by
  induction a with
  | nil => rfl
  | cons p l ih => simp [scs, ih]
theorem scs_get (l : List (Int × Int)) (k : Nat) (h : k < l.length) : (scs l)[k * 2]? = some (.int .i64 l[k].1) ∧ (scs l)[k * 2 + 1]? = some (.int .i64 l[k].2) := by
  induction l generalizing k with
  | nil => simp at h
  | cons p l ih =>
    cases k with
    | zero => simp [scs]
    | succ k =>
      have := ih k (by simpa using h)
      rw [show (k + 1) * 2 = k * 2 + 2 by omega, show k * 2 + 2 + 1 = (k * 2 + 1) + 2 by omega]
      simpa [scs] using this
theorem Lies.seg {w : World} {A : Option Addr} {l : List (Int × Int)} (h : Lies w A (scs l)) {k : Nat} (hk : k < l.length) :
    ∃ b off, A = some ⟨b, off, none⟩ ∧ b < w.heap.size ∧ w.cell? ⟨b, off + k * 2, none⟩ = some (.int .i64 l[k].1) ∧ w.cell? ⟨b, off + k * 2 + 1, none⟩ = some (.int .i64 l[k].2) := by
  obtain ⟨b, off, e, hb, hc⟩ := h (by rw [scs_length]; omega)
  exact ⟨b, off, e, hb, hc _ _ (scs_get l k hk).1, hc _ _ (scs_get l k hk).2⟩
theorem sameS_take_succ {a b : List (Int × Int)} {k : Nat} (hk : k < a.length) (hk' : k < b.length) (h : a.take k = b.take k) (hx : a[k] = b[k]) : a.take (k + 1) = b.take (k + 1) := by
  rw [List.take_succ_eq_append_getElem hk, List.take_succ_eq_append_getElem hk', h, hx]

end Go.Proofs.YtnflpnbpigcfhabDoor
/- Plain: a recording at another rate. -/
namespace Ear
/-- the sample at i; behind the last one, the last one -/
def clamp (l : List Int) (i : Nat) : Int := l[min i (l.length - 1)]?.getD 0
/-- the sum of k samples from i on -/
def ssum (l : List Int) (i : Nat) : Nat → Int
  | 0 => 0
  | k + 1 => ssum l i k + clamp l (i + k)
/-- a smoothed sample -/
def smo (l : List Int) (i w : Nat) : Int := rnd (ssum l i w) w
theorem clamp_bd {l : List Int} (h : smp l = true) (hl : 0 < l.length) (i : Nat) : -32768 ≤ clamp l i ∧ clamp l i ≤ 32767 := by
  unfold clamp
  have hk : min i (l.length - 1) < l.length := by omega
  rw [List.getElem?_eq_getElem hk]
  exact allR_get h hk
theorem ssum_bd {l : List Int} (h : smp l = true) (hl : 0 < l.length) (i : Nat) : ∀ k : Nat, -32768 * (k : Int) ≤ ssum l i k ∧ ssum l i k ≤ 32767 * k := by
  intro k
  induction k with
  | zero => simp [ssum]
  | succ k ih =>
    have := clamp_bd h hl (i + k)
    simp only [ssum]
    omega
theorem rnd_mul_le {a b : Int} {q : Int} (hb : 1 ≤ b) (hq : 0 ≤ q) (h : a ≤ q * b) : rnd a b ≤ q := by
  by_cases ha : 0 ≤ a
  · refine rnd_le ha hb ?_
    have : 2 * b * (q + 1) = 2 * (q * b) + 2 * b := by rw [Int.mul_add, Int.mul_assoc, Int.mul_comm b q]; omega
    omega
  · have := (rnd_bd (a := a) hb).2 (by omega)
    omega
theorem le_rnd_mul {a b : Int} {q : Int} (hb : 1 ≤ b) (hq : q ≤ 0) (h : q * b ≤ a) : q ≤ rnd a b := by
  by_cases ha : 0 ≤ a
  · have := rnd_nonneg ha hb
    omega
  · rw [rnd_of_neg (by omega)]
    have := rnd_mul_le (a := -a) (b := b) (q := -q) hb (by omega) (by rw [Int.neg_mul]; omega)
    omega
theorem smo_bd {l : List Int} (h : smp l = true) (hl : 0 < l.length) (i w : Nat) (hw : 1 ≤ w) : -32768 ≤ smo l i w ∧ smo l i w ≤ 32767 := by
  have := ssum_bd h hl i w
  unfold smo
  exact ⟨le_rnd_mul (by omega) (by omega) (by omega), rnd_mul_le (by omega) (by omega) (by omega)⟩
/-- one new sample -/
def rsmAt (l : List Int) (u d j : Nat) : Int :=
  rnd (smo l (j * d / u) ((d + u - 1) / u) * ((u : Int) - (j * d % u : Nat)) + smo l (j * d / u + 1) ((d + u - 1) / u) * (j * d % u : Nat)) u
/-- all new samples -/
def rsm (l : List Int) (u d : Nat) : List Int := (List.range ((l.length * u + d - 1) / d)).map (rsmAt l u d)
/-- what is wrong with a change of rate -/
def reschk (rate : Int) (l : List Int) (u d : Int) : Int :=
  if chk rate l ≠ 0 then chk rate l
  else if 1 ≤ u ∧ u ≤ 16 ∧ 1 ≤ d ∧ d ≤ 16 ∧ rate * u % d = 0 ∧ 1 ≤ rate * u / d ∧ rate * u / d ≤ 192000 then
    (if 200000 < (l.length * u + d - 1) / d then 5 else 0)
  else 2
end Ear
/- Resample: the walks -/
namespace Go.Proofs.YtnflpnbpigcfhabDoor
open Go.RowKit Ear

theorem clamp_lt {l : List Int} {i : Nat} (h : i < l.length) : clamp l i = l[i]?.getD 0 := by
  unfold clamp; rw [Nat.min_eq_left (by omega)]
theorem clamp_ge {l : List Int} {i : Nat} (h : l.length ≤ i) : clamp l i = l[l.length - 1]?.getD 0 := by
  unfold clamp; rw [Nat.min_eq_right (by omega)]

end Go.Proofs.YtnflpnbpigcfhabDoor
/- wave.Resample and its reference -/
namespace Go.Proofs.YtnflpnbpigcfhabDoor
open Go.RowKit Ear

theorem int_info : (Tryd.prog.info? 3).map (fun i => (i.zero, i.size, i.bytes)) = some (some (.int .i64 0), 1, 8) := by kernel_rfl

/-- a recording and an error come back; the samples lie in new memory -/
def RecRet (rate' : Int) (err : Int) (out : List Int) (w : World) (e : Ending) (w' : World) : Prop :=
  ∃ A c, e = .returned (.tuple #[.agg #[.int .i64 rate', .slice A out.length c], .int .i64 err]) ∧ w'.ownsRow w.heap.size 3 1 (.slice A out.length c) out.length (ics out) ∧ Below w.heap.size w w'

theorem RecRet.none_ {err : Int} {w w' : World} {e : Ending} (he : e = .returned (.tuple #[.agg #[.int .i64 0, .slice none 0 0], .int .i64 err])) (hb : Below w.heap.size w w') : RecRet 0 err [] w e w' :=
  ⟨none, 0, he, World.ownsRow_nil _ _ _ _, hb⟩

theorem bcell {W w1 : World} (hb : Below W.heap.size W w1) : (∀ b o, b < W.heap.size → w1.cell? ⟨b, o, none⟩ = W.cell? ⟨b, o, none⟩) ∧ (∀ b o, b < W.heap.size → w1.frozen? ⟨b, o, none⟩ = W.frozen? ⟨b, o, none⟩) :=
  ⟨fun b o h => hb.cell (p := ⟨b, o, none⟩) h, fun b o h => hb.frozen (p := ⟨b, o, none⟩) h⟩

end Go.Proofs.YtnflpnbpigcfhabDoor
/- slices.Clone, ratio, Emphasize, Restore -/
namespace Go.Proofs.YtnflpnbpigcfhabDoor
open Go.RowKit Ear

/-- a list of numbers comes back, in new memory -/
def IntsRet (out : List Int) (w : World) (e : Ending) (w' : World) : Prop :=
  ∃ A c, e = .returned (.slice A out.length c) ∧ w'.ownsRow w.heap.size 3 1 (.slice A out.length c) out.length (ics out) ∧ Below w.heap.size w w'
/-- a list of numbers and an error -/
def IntsErr (err : Int) (out : List Int) (w : World) (e : Ending) (w' : World) : Prop :=
  ∃ A c, e = .returned (.tuple #[.slice A out.length c, .int .i64 err]) ∧ w'.ownsRow w.heap.size 3 1 (.slice A out.length c) out.length (ics out) ∧ Below w.heap.size w w'

theorem ics_one (l : List Int) : ∀ u ∈ ics l, u.oneCell' = true := by
  intro u hu
  obtain ⟨x, _, rfl⟩ := List.mem_map.1 hu
  rfl
theorem own_slice {w : World} {base : Nat} {e : TypeId} {size n : Nat} {v : Value} {xs : List Value} (h : w.ownsRow base e size v n xs) : ∃ A c, v = .slice A n c := by
  rcases h.2 with ⟨rfl, rfl⟩ | ⟨g, cap, cur, rfl, _⟩
  · exact ⟨_, _, rfl⟩
  · exact ⟨_, _, rfl⟩

theorem Lies.news {w : World} {ad : Addr} {xs : List Value} (h : Lies w (some ad) xs) (o : Obj) (j : Nat) (u : Value) (hu : xs[j]? = some u) : (w.alloc o).cell? (ad.add j) = some u := by
  obtain ⟨b, off, e, hb, hc⟩ := h (Nat.lt_of_le_of_lt (Nat.zero_le _) (List.getElem?_eq_some_iff.1 hu).1)
  cases e
  rw [Addr.add_lit]
  exact (World.cell?_alloc_lt w o _ hb).trans (hc j u hu)

set_option maxHeartbeats 400000 in
theorem CloneI_any (A : Option Addr) (c : Nat) (l : List Int) (w : World) (h : Lies w A (ics l)) (hA : A = none → c = 0 ∧ l = []) (hn : l.length ≤ 1000000) :
    Calls Tryd.prog 45 #[.slice A l.length c] w (IntsRet l w) := by
  obtain ⟨i0, hi0, hz0, hz1, hz2⟩ := info_parts int_info
  have HI := Lib.hid hi0; have HZ0 := Lib.hid hz0; have HZ1 := Lib.hid hz1; have HZ2 := Lib.hid hz2
  clear hi0 hz0 hz1 hz2
  cases A with
  | none =>
    obtain ⟨rfl, rfl⟩ := hA rfl
    have hnil : ∀ W, (binOp .eql 22 (.slice none 0 0) (.slice none 0 0)).run Tryd.prog W = .ok (.bool true) W := fun W => Lib.run_eql_slice_nil W 22 3 none 0 0 0 0 Tryd.underlying22
    go_enter Tryd.func45, Tryd.ntmps45
    go_wp2_with fail
    go_ret
    exact ⟨none, 0, rfl, World.ownsRow_nil _ _ _ _, Below.refl _ _⟩
  | some ad =>
    clear hA
    have hnil : ∀ W, (binOp .eql 22 (.slice (some ad) l.length c) (.slice none 0 0)).run Tryd.prog W = .ok (.bool false) W := fun W => Lib.run_eql_slice_nil W 22 3 (some ad) l.length c 0 0 Tryd.underlying22
    have hnews := Lib.hid (h.news)
    go_enter Tryd.func45, Tryd.ntmps45
    go_wp2_with (at_builtin; refine wpList_append_own_at _ rfl (.tmp 5) (.tmp 6) _ rfl w.heap.size 3 i0 _ 1 8 Tryd.underlying22 HI.out HZ0.out HZ1.out HZ2.out rfl (by omega) (.slice (some ⟨w.heap.size, 0, none⟩) 0 0) 0 [] rfl (World.ownsRow_lit w #[] 0 (Nat.le_refl _) (by simp) rfl) ad l.length c (ics l) rfl (by simp) (hnews.out _) (ics_one l) (by unfold maxLen; omega) (by omega) (by simp) ?_; intro v' w1 hown1 hgrow _ hat)
    go_ret
    obtain ⟨A', c', rfl⟩ := own_slice hown1
    refine ⟨A', c', by rw [Nat.zero_add]; rfl, by simpa using hown1, ((Below.refl _ _).alloc (Nat.le_refl _) _).grown hgrow (by simp) (fun k hk => ?_)⟩
    simp [Value.ownBlock] at hk
    omega

/-- what is wrong, as a number in its own spelling -/
theorem rchk_cases (l : List Int) (num den : Int) : Hid (rchk l num den = rchk l num den) := rfl

set_option maxHeartbeats 400000 in
theorem ratio_any (A : Option Addr) (c : Nat) (l : List Int) (num den : Int) (w : World) (h : Lies w A (ics l)) (hn : l.length ≤ 9223372036854775807) (r : Int) (hr : Hid (rchk l num den = r)) :
    Calls Tryd.prog 44 #[.slice A l.length c, .int .i64 num, .int .i64 den] w fun e w' => e = .returned (.int .i64 r) ∧ w = w' := by
  by_cases h0 : vchk l = 0
  · have H0 := Lib.hid h0
    have hr' : Hid ((if 0 ≤ num ∧ num ≤ den ∧ 1 ≤ den ∧ den ≤ 1024 then 0 else 2) = r) := by
      have := hr.out; unfold rchk at this; rw [if_pos h0] at this; exact this
    clear h0
    by_cases h1 : num < 0
    · go_enter Tryd.func44, Tryd.ntmps44
      go_wp2_with (go_at_call 47; refine (values_any A c l _ h hn _ H0).mono ?_; rintro e w' ⟨rfl, rfl⟩)
      go_ret
      exact ⟨ret_int (by rw [← hr'.out, if_neg (by omega)]), rfl⟩
    by_cases h2 : den < num
    · go_enter Tryd.func44, Tryd.ntmps44
      go_wp2_with (go_at_call 47; refine (values_any A c l _ h hn _ H0).mono ?_; rintro e w' ⟨rfl, rfl⟩)
      go_ret
      exact ⟨ret_int (by rw [← hr'.out, if_neg (by omega)]), rfl⟩
    by_cases h3 : den < 1
    · go_enter Tryd.func44, Tryd.ntmps44
      go_wp2_with (go_at_call 47; refine (values_any A c l _ h hn _ H0).mono ?_; rintro e w' ⟨rfl, rfl⟩)
      go_ret
      exact ⟨ret_int (by rw [← hr'.out, if_neg (by omega)]), rfl⟩
    by_cases h4 : 1024 < den
    · go_enter Tryd.func44, Tryd.ntmps44
      go_wp2_with (go_at_call 47; refine (values_any A c l _ h hn _ H0).mono ?_; rintro e w' ⟨rfl, rfl⟩)
      go_ret
      exact ⟨ret_int (by rw [← hr'.out, if_neg (by omega)]), rfl⟩
    · go_enter Tryd.func44, Tryd.ntmps44
      go_wp2_with (go_at_call 47; refine (values_any A c l _ h hn _ H0).mono ?_; rintro e w' ⟨rfl, rfl⟩)
      go_ret
      exact ⟨ret_int (by rw [← hr'.out, if_pos (by omega)]), rfl⟩
  · have hr' : Hid (vchk l = r) := by
      have := hr.out; unfold rchk at this; rw [if_neg h0] at this; exact this
    have hne : (r != 0) = true := by
      have := hr'.out
      simp; rw [← this]; exact h0
    go_enter Tryd.func44, Tryd.ntmps44
    go_wp2_with (go_at_call 47; refine (values_any A c l _ h hn _ hr').mono ?_; rintro e w' ⟨rfl, rfl⟩)
    go_ret
    exact ⟨rfl, rfl⟩
end Go.Proofs.YtnflpnbpigcfhabDoor
/- Plain: windows. -/
namespace Ear
/-- the weight of the element with the distance d (in halves) from the middle -/
def wt (kind n d : Int) : Int :=
  if kind = 1 then 4096 else if kind = 2 then rnd (4096 * (n + 1 - max d (-d))) (n + 1) else rnd (4096 * ((n + 1) * (n + 1) - d * d)) ((n + 1) * (n + 1))
def winAt (kind n : Int) (i : Nat) : Int := wt kind n (2 * (i : Int) - (n - 1))
def winTo (kind n : Int) (j : Nat) : List Int := (List.range j).map (winAt kind n)
theorem winTo_succ (kind n : Int) (j : Nat) : winTo kind n (j + 1) = winTo kind n j ++ [winAt kind n j] := by
  unfold winTo; rw [List.range_succ, List.map_append]; rfl
theorem winTo_length (kind n : Int) (j : Nat) : (winTo kind n j).length = j := by simp [winTo]
theorem sq_bd {d n : Int} (h1 : -n ≤ d) (h2 : d ≤ n) : 0 ≤ d * d ∧ d * d ≤ n * n := by
  constructor
  · by_cases h : 0 ≤ d
    · exact Int.mul_nonneg h h
    · have : 0 ≤ (-d) * (-d) := Int.mul_nonneg (by omega) (by omega)
      rwa [Int.neg_mul_neg] at this
  · have hn : 0 ≤ n := by omega
    by_cases h : 0 ≤ d
    · exact Int.mul_le_mul h2 h2 h hn
    · have : (-d) * (-d) ≤ n * n := Int.mul_le_mul (by omega) (by omega) (by omega) hn
      rwa [Int.neg_mul_neg] at this
theorem wt_bd {kind n d : Int} (hn : 1 ≤ n) (h1 : -n ≤ d) (h2 : d ≤ n) : 0 ≤ wt kind n d ∧ wt kind n d ≤ 4096 := by
  unfold wt
  split
  · omega
  · split
    · have hm : 0 ≤ max d (-d) ∧ max d (-d) ≤ n := by omega
      exact ⟨rnd_nonneg (by omega) (by omega), rnd_mul_le (by omega) (by omega) (by omega)⟩
    · have hs := sq_bd h1 h2
      have h3 : (n + 1) * (n + 1) = n * n + 2 * n + 1 := by rw [Int.add_mul, Int.mul_add]; omega
      generalize hq : (n + 1) * (n + 1) = q at *
      have h4 : 0 ≤ n * n := Int.mul_nonneg (by omega) (by omega)
      exact ⟨rnd_nonneg (by omega) (by omega), rnd_mul_le (by omega) (by omega) (by omega)⟩
theorem winAt_bd {kind n : Int} {i : Nat} (hn : 1 ≤ n) (hi : (i : Int) < n) : 0 ≤ winAt kind n i ∧ winAt kind n i ≤ 4096 := wt_bd hn (by omega) (by omega)
/-- an element of a weighed frame -/
def wghAt (l : List Int) (kind : Int) (i : Nat) : Int := rnd (l[i]?.getD 0 * winAt kind l.length i) 4096
def wgh (l : List Int) (kind : Int) : List Int := (List.range l.length).map (wghAt l kind)
def wghTo (l : List Int) (kind : Int) (i : Nat) : List Int := (List.range l.length).map fun k => if k < i then wghAt l kind k else winAt kind l.length k
theorem wghTo_zero (l : List Int) (kind : Int) : wghTo l kind 0 = winTo kind l.length l.length := by
  unfold wghTo winTo; apply List.map_congr_left; intro k _; simp
theorem wghTo_all (l : List Int) (kind : Int) (i : Nat) (h : l.length ≤ i) : wghTo l kind i = wgh l kind := by
  unfold wghTo wgh; apply List.map_congr_left; intro k hk; rw [if_pos (by have := List.mem_range.1 hk; omega)]
theorem wghTo_length (l : List Int) (kind : Int) (i : Nat) : (wghTo l kind i).length = l.length := by simp [wghTo]
theorem wgh_length (l : List Int) (kind : Int) : (wgh l kind).length = l.length := by simp [wgh]
theorem wghTo_get (l : List Int) (kind : Int) (i : Nat) (h : i < l.length) : (wghTo l kind i)[i]? = some (winAt kind l.length i) := by simp [wghTo, h]
theorem wghTo_succ (l : List Int) (kind : Int) (i : Nat) : wghTo l kind (i + 1) = (wghTo l kind i).set i (wghAt l kind i) := by
  apply List.ext_getElem (by simp [wghTo])
  intro k h1 h2
  rw [List.getElem_set]
  simp only [wghTo, List.getElem_map, List.getElem_range]
  by_cases hk : i = k
  · subst hk; simp
  · rw [if_neg hk]
    by_cases hki : k < i
    · rw [if_pos (by omega), if_pos hki]
    · rw [if_neg (by omega), if_neg hki]
theorem mul_bd3 {x y X Y : Int} (hy0 : 0 ≤ y) (hy : y ≤ Y) (hx : -X ≤ x) (hx' : x ≤ X) (hX : 0 ≤ X) : -(X * Y) ≤ x * y ∧ x * y ≤ X * Y := by
  have h1 : x * y ≤ X * y := Int.mul_le_mul_of_nonneg_right hx' hy0
  have h2 : X * y ≤ X * Y := Int.mul_le_mul_of_nonneg_left hy hX
  have h3 : (-X) * y ≤ x * y := Int.mul_le_mul_of_nonneg_right hx hy0
  rw [Int.neg_mul] at h3
  omega
end Ear
/- wave.Window -/
namespace Go.Proofs.YtnflpnbpigcfhabDoor
open Go.RowKit Ear

abbrev shapeCells : Array Value := #[.int .i64 1, .func (.func 75) #[] #[], .int .i64 2, .func (.func 76) #[] #[], .int .i64 3, .func (.func 77) #[] #[]]

set_option maxHeartbeats 400000 in
theorem shapes_any (w : World) : Calls Tryd.prog 72 #[] w fun e w' => e = .returned (.slice (some ⟨w.heap.size, 0, none⟩) 3 3) ∧ w.alloc (.cells shapeCells 94) = w' := by
  go_enter Tryd.func72, Tryd.ntmps72
  go_wp2_with fail
  go_ret
  exact ⟨rfl, rfl⟩

set_option maxHeartbeats 400000 in
theorem shapes1_any (n d : Int) (w : World) : Calls Tryd.prog 75 #[.int .i64 n, .int .i64 d] w fun e w' => e = .returned (.int .i64 (wt 1 n d)) ∧ w = w' := by
  go_enter Tryd.func75, Tryd.ntmps75
  go_wp2_with fail
  go_ret
  exact ⟨rfl, rfl⟩

theorem wt2_pos {n d : Int} (h : 0 ≤ d) : wt 2 n d = rnd (4096 * (n + 1 - d)) (n + 1) := by
  unfold wt; rw [if_neg (by omega), if_pos rfl, show max d (-d) = d by omega]
theorem wt2_neg {n d : Int} (h : d < 0) : wt 2 n d = rnd (4096 * (n + 1 + d)) (n + 1) := by
  unfold wt; rw [if_neg (by omega), if_pos rfl, show n + 1 - max d (-d) = n + 1 + d by omega]

set_option maxHeartbeats 400000 in
theorem shapes2_any (n d : Int) (w : World) (hn : 1 ≤ n) (hn' : n ≤ 4096) (hd : -n ≤ d) (hd' : d ≤ n) : Calls Tryd.prog 76 #[.int .i64 n, .int .i64 d] w fun e w' => e = .returned (.int .i64 (wt 2 n d)) ∧ w = w' := by
  by_cases h0 : 0 ≤ d
  · go_enter Tryd.func76, Tryd.ntmps76
    go_wp2_with (go_at_call 46; refine (rounded_any _ _ _ (by omega) (by omega) (by omega) (by omega)).mono ?_; rintro e w' ⟨rfl, rfl⟩)
    all_goals
      go_ret
      exact ⟨ret_int (by rw [wt2_pos h0]), rfl⟩
  · go_enter Tryd.func76, Tryd.ntmps76
    go_wp2_with (go_at_call 46; refine (rounded_any _ _ _ (by omega) (by omega) (by omega) (by omega)).mono ?_; rintro e w' ⟨rfl, rfl⟩)
    all_goals
      go_ret
      exact ⟨ret_int (by rw [wt2_neg (by omega)]), rfl⟩

set_option maxHeartbeats 400000 in
theorem shapes3_any (n d : Int) (w : World) (hn : 1 ≤ n) (hn' : n ≤ 4096) (hd : -n ≤ d) (hd' : d ≤ n) : Calls Tryd.prog 77 #[.int .i64 n, .int .i64 d] w fun e w' => e = .returned (.int .i64 (wt 3 n d)) ∧ w = w' := by
  have h1 := sq_bd hd hd'
  have h2 : n * n ≤ 4096 * 4096 := Int.mul_le_mul hn' hn' (by omega) (by omega)
  have h3 : (n + 1) * (n + 1) = n * n + 2 * n + 1 := by rw [Int.add_mul, Int.mul_add]; omega
  have h4 : 4 ≤ (n + 1) * (n + 1) := Int.mul_le_mul (a := 2) (c := n + 1) (b := 2) (d := n + 1) (by omega) (by omega) (by omega) (by omega)
  have h5 : (n + 1) * (n + 1) ≤ 17000000 := by omega
  have h6 : 0 ≤ (n + 1) * (n + 1) - d * d := by omega
  clear h3
  go_enter Tryd.func77, Tryd.ntmps77
  go_wp2_with fail
  refine (rounded_any _ _ _ (by omega) (by omega) (by omega) (by omega)).mono ?_
  rintro e w' ⟨rfl, rfl⟩
  go_wp2_with fail
  go_ret
  exact ⟨rfl, rfl⟩

set_option maxHeartbeats 400000 in
theorem Window1_any (k kind : Int) (f : Value) (b : Nat) (w : World) (hb : b < w.heap.size) (hc : w.cell? ⟨b, 0, none⟩ = some (.int .i64 kind)) (r : Bool) (hr : (k == kind) = r) :
    Calls Tryd.prog 74 #[.agg #[.int .i64 k, f], .pointer (some ⟨b, 0, none⟩)] w fun e w' => e = .returned (.bool r) ∧ Below w.heap.size w w' := by
  subst hr
  go_enter Tryd.func74, Tryd.ntmps74
  go_wp2_with fail
  go_ret
  exact ⟨rfl, (Below.refl _ _).alloc (Nat.le_refl _) _⟩

/-- which window has this kind -/
def winIdx (kind : Int) : Int := if kind = 1 then 0 else if kind = 2 then 1 else if kind = 3 then 2 else -1
theorem winIdx_1 : winIdx 1 = 0 := rfl

set_option maxRecDepth 100000 in
set_option maxHeartbeats 1000000 in
theorem IndexShape_any (kind : Int) (g b : Nat) (w : World) (hg : w.heap[g]? = some (.cells shapeCells 94)) (hb : b < w.heap.size) (hc : w.cell? ⟨b, 0, none⟩ = some (.int .i64 kind)) (r : Int) (hr : Hid (winIdx kind = r)) :
    Calls Tryd.prog 73 #[.slice (some ⟨g, 0, none⟩) 3 3, .func (.func 74) #[] #[.pointer (some ⟨b, 0, none⟩)]] w fun e w' => e = .returned (.int .i64 r) ∧ Below w.heap.size w w' := by
  have hgl : g < w.heap.size := (Array.getElem?_eq_some_iff.1 hg).1
  have HG := Lib.hid hg
  clear hg
  go_enter Tryd.func73, Tryd.ntmps73
  go_wp2_with fail
  go_loopw [5, 8] (fun _ i wr => ∃ k : Nat, k ≤ 3 ∧ i = .int .i64 k ∧ Hid (∀ j : Nat, j < k → kind ≠ (j : Int) + 1) ∧ Below w.heap.size w wr) (fun _ i _ => 3 - (intOf i).toNat)
  case atStart => exact ⟨0, Nat.zero_le _, rfl, fun j hj => absurd hj (by omega), Below.refl _ _⟩
  case round =>
    obtain ⟨k, hk, rfl, hp, hbw⟩ := hrel
    have hcell : ∀ o, wr.cell? ⟨g, o, none⟩ = shapeCells[o]? := fun o => by rw [hbw.cell (p := ⟨g, o, none⟩) hgl]; exact cell_of_row w g o _ _ _ HG.out
    have hc' : wr.cell? ⟨b, 0, none⟩ = some (.int .i64 kind) := (hbw.cell (p := ⟨b, 0, none⟩) hb).trans hc
    have hb' : b < wr.heap.size := Nat.lt_of_lt_of_le hb hbw.size
    rcases (show k = 0 ∨ k = 1 ∨ k = 2 ∨ k = 3 by omega) with rfl | rfl | rfl | rfl
    · have c0 : wr.cell? ⟨g, 0, none⟩ = some (.int .i64 1) := hcell 0
      have c1 : wr.cell? ⟨g, 1, none⟩ = some (.func (.func 75) #[] #[]) := hcell 1
      clear hcell
      by_cases hk0 : (1 : Int) = kind
      · have hz : r = 0 := by rw [← hr.out, ← hk0]; rfl
        subst hz
        have hbe : ((1 : Int) == kind) = true := by simp [hk0]
        clear hk0
        go_wp2_with fail
        refine (Window1_any 1 kind _ b _ hb' hc' true hbe).mono ?_
        rintro e w1 ⟨rfl, hb1⟩
        go_wp2_with fail
        go_ret
        exact ⟨rfl, hbw.trans (hb1.mono hbw.size)⟩
      · have hbe : ((1 : Int) == kind) = false := by simp [hk0]
        have hp' : Hid (∀ j : Nat, j < 1 → kind ≠ (j : Int) + 1) := fun j hj => by
          rcases (show j < 0 ∨ j = 0 by omega) with h1 | h1
          · exact hp.out j h1
          · subst h1; intro e; apply hk0; omega
        clear hk0
        go_wp2_with fail
        refine (Window1_any 1 kind _ b _ hb' hc' false hbe).mono ?_
        rintro e w1 ⟨rfl, hb1⟩
        go_wp2_with fail
        go_roundw
        case rel => exact ⟨1, by omega, by go_num, hp', hbw.trans (hb1.mono hbw.size)⟩
        case measure => simp [intOf]
    · have c0 : wr.cell? ⟨g, 2, none⟩ = some (.int .i64 2) := hcell 2
      have c1 : wr.cell? ⟨g, 3, none⟩ = some (.func (.func 76) #[] #[]) := hcell 3
      clear hcell
      by_cases hk0 : (2 : Int) = kind
      · have hz : r = 1 := by rw [← hr.out, ← hk0]; rfl
        subst hz
        have hbe : ((2 : Int) == kind) = true := by simp [hk0]
        clear hk0
        go_wp2_with fail
        refine (Window1_any 2 kind _ b _ hb' hc' true hbe).mono ?_
        rintro e w1 ⟨rfl, hb1⟩
        go_wp2_with fail
        go_ret
        exact ⟨rfl, hbw.trans (hb1.mono hbw.size)⟩
      · have hbe : ((2 : Int) == kind) = false := by simp [hk0]
        have hp' : Hid (∀ j : Nat, j < 2 → kind ≠ (j : Int) + 1) := fun j hj => by
          rcases (show j < 1 ∨ j = 1 by omega) with h1 | h1
          · exact hp.out j h1
          · subst h1; intro e; apply hk0; omega
        clear hk0
        go_wp2_with fail
        refine (Window1_any 2 kind _ b _ hb' hc' false hbe).mono ?_
        rintro e w1 ⟨rfl, hb1⟩
        go_wp2_with fail
        go_roundw
        case rel => exact ⟨2, by omega, by go_num, hp', hbw.trans (hb1.mono hbw.size)⟩
        case measure => simp [intOf]
    · have c0 : wr.cell? ⟨g, 4, none⟩ = some (.int .i64 3) := hcell 4
      have c1 : wr.cell? ⟨g, 5, none⟩ = some (.func (.func 77) #[] #[]) := hcell 5
      clear hcell
      by_cases hk0 : (3 : Int) = kind
      · have hz : r = 2 := by rw [← hr.out, ← hk0]; rfl
        subst hz
        have hbe : ((3 : Int) == kind) = true := by simp [hk0]
        clear hk0
        go_wp2_with fail
        refine (Window1_any 3 kind _ b _ hb' hc' true hbe).mono ?_
        rintro e w1 ⟨rfl, hb1⟩
        go_wp2_with fail
        go_ret
        exact ⟨rfl, hbw.trans (hb1.mono hbw.size)⟩
      · have hbe : ((3 : Int) == kind) = false := by simp [hk0]
        have hp' : Hid (∀ j : Nat, j < 3 → kind ≠ (j : Int) + 1) := fun j hj => by
          rcases (show j < 2 ∨ j = 2 by omega) with h1 | h1
          · exact hp.out j h1
          · subst h1; intro e; apply hk0; omega
        clear hk0
        go_wp2_with fail
        refine (Window1_any 3 kind _ b _ hb' hc' false hbe).mono ?_
        rintro e w1 ⟨rfl, hb1⟩
        go_wp2_with fail
        go_roundw
        case rel => exact ⟨3, by omega, by go_num, hp', hbw.trans (hb1.mono hbw.size)⟩
        case measure => simp [intOf]
    · clear hcell
      have hz : r = -1 := by
        rw [← hr.out]
        have h0 := hp.out 0 (by omega)
        have h1 := hp.out 1 (by omega)
        have h2 := hp.out 2 (by omega)
        unfold winIdx
        rw [if_neg (by omega), if_neg (by omega), if_neg (by omega)]
      subst hz
      go_wp2_with fail
      go_ret
      exact ⟨rfl, hbw⟩
end Go.Proofs.YtnflpnbpigcfhabDoor
/- Plain: emphasis and what restores it. -/
namespace Ear
/-- an element of an emphasis -/
def empAt (l : List Int) (num den : Int) (k : Nat) : Int := if k = 0 then l[0]?.getD 0 else l[k]?.getD 0 - rnd (num * l[k - 1]?.getD 0) den
/-- the first i elements are those of the emphasis, the others as they were -/
def empTo (l : List Int) (num den : Int) (i : Nat) : List Int := (List.range l.length).map fun k => if k < i then empAt l num den k else l[k]?.getD 0
def emp (l : List Int) (num den : Int) : List Int := (List.range l.length).map (empAt l num den)
theorem empTo_length (l : List Int) (num den : Int) (i : Nat) : (empTo l num den i).length = l.length := by simp [empTo]
theorem empTo_one (l : List Int) (num den : Int) : empTo l num den 1 = l := by
  apply List.ext_getElem (empTo_length ..)
  intro k h1 h2
  simp only [empTo, List.getElem_map, List.getElem_range]
  split
  · have : k = 0 := by omega
    subst this; simp [empAt, List.getElem?_eq_getElem h2]
  · simp [List.getElem?_eq_getElem h2]
theorem empTo_all (l : List Int) (num den : Int) (i : Nat) (h : l.length ≤ i) : empTo l num den i = emp l num den := by
  unfold empTo emp
  apply List.map_congr_left
  intro k hk
  rw [if_pos (by have := List.mem_range.1 hk; omega)]
theorem empTo_get (l : List Int) (num den : Int) (i : Nat) (h : i < l.length) : (empTo l num den i)[i]? = some (l[i]?.getD 0) := by
  simp [empTo, h]
theorem empTo_succ (l : List Int) (num den : Int) (i : Nat) : empTo l num den (i + 1) = (empTo l num den i).set i (empAt l num den i) := by
  apply List.ext_getElem (by simp [empTo])
  intro k h1 h2
  rw [List.getElem_set]
  simp only [empTo, List.getElem_map, List.getElem_range]
  by_cases hk : i = k
  · subst hk; simp
  · rw [if_neg hk]
    by_cases hki : k < i
    · rw [if_pos (by omega), if_pos hki]
    · rw [if_neg (by omega), if_neg hki]
theorem mul_bd2 {a x A X : Int} (ha : 0 ≤ a) (haA : a ≤ A) (hx : -X ≤ x) (hx' : x ≤ X) (hX : 0 ≤ X) : -(A * X) ≤ a * x ∧ a * x ≤ A * X := by
  have h1 : a * x ≤ a * X := Int.mul_le_mul_of_nonneg_left hx' ha
  have h2 : a * X ≤ A * X := Int.mul_le_mul_of_nonneg_right haA hX
  have h3 : a * (-X) ≤ a * x := Int.mul_le_mul_of_nonneg_left hx ha
  rw [Int.mul_neg] at h3
  omega
end Ear
/- wave.Emphasize -/
namespace Go.Proofs.YtnflpnbpigcfhabDoor
open Go.RowKit Ear

theorem still_of {P : Program} {f : FuncId} {args : Array Value} {w : World} {v : Value} (h : Calls P f args w fun e w' => e = .returned v ∧ w = w') : Calls P f args w fun e w' => e = .returned v ∧ w' = w :=
  h.mono fun _ _ ⟨he, hw⟩ => ⟨he, hw.symm⟩

set_option maxHeartbeats 400000 in
theorem Emphasize_chk (A : Option Addr) (c : Nat) (l : List Int) (num den : Int) (w : World) (h : Lies w A (ics l)) (hn : l.length ≤ 9223372036854775807) (r : Int) (hr : Hid (rchk l num den = r)) (h0 : (r != 0) = true) :
    Calls Tryd.prog 24 #[.slice A l.length c, .int .i64 num, .int .i64 den] w (IntsErr r [] w) := by
  go_enter Tryd.func24, Tryd.ntmps24
  go_wp2_with (go_at_call 44; refine (ratio_any A c l num den _ h hn _ hr).mono ?_; rintro e w' ⟨rfl, rfl⟩)
  go_ret2
  exact ⟨none, 0, rfl, World.ownsRow_nil _ _ _ _, Below.refl _ _⟩

set_option maxRecDepth 100000 in
set_option maxHeartbeats 1000000 in
theorem Emphasize_ok (A : Option Addr) (c : Nat) (l : List Int) (num den : Int) (w : World) (h : Lies w A (ics l)) (hA : A = none → c = 0 ∧ l = []) (hr : Hid (rchk l num den = 0)) (hl : l.length ≤ 200000) (hv : Hid (vls l = true))
    (h0 : 0 ≤ num) (h1 : num ≤ den) (h2 : 1 ≤ den) (h3 : den ≤ 1024) (r err : Int) (out : List Int) (hr2 : Hid (vchk (emp l num den) = r)) (hout : Hid (if r = 0 then err = 0 ∧ out = emp l num den else err = 2 ∧ out = [])) :
    Calls Tryd.prog 24 #[.slice A l.length c, .int .i64 num, .int .i64 den] w (IntsErr err out w) := by
  go_enter Tryd.func24, Tryd.ntmps24
  go_wp2_with fail
  refine (ratio_any A c l num den _ h (by omega) _ hr).mono ?_
  rintro e w' ⟨rfl, rfl⟩
  go_wp2_with fail
  refine (CloneI_any A c l _ h hA (by omega)).mono ?_
  rintro e w1 ⟨A1, c1, rfl, ho1, hb1⟩
  have HA := Lib.hid hA
  clear hA
  go_wp2_with fail
  go_loopw [10] (fun i wr => ∃ k : Nat, 1 ≤ k ∧ (k ≤ l.length ∨ k = 1) ∧ i = .int .i64 k ∧ wr.ownsRow w.heap.size 3 1 (.slice A1 l.length c1) l.length (ics (empTo l num den k)) ∧ Below w.heap.size w wr) (fun i _ => l.length - (intOf i).toNat)
  case atStart => exact ⟨1, by omega, .inr rfl, rfl, by rw [empTo_one]; exact ho1, hb1⟩
  case round =>
    obtain ⟨k, hk1, hk2, rfl, r1, r2⟩ := hrel
    by_cases hlt : k < l.length
    · obtain ⟨g, cap, hform, hg1, hg2⟩ := r1.form (by omega)
      obtain ⟨rfl, rfl⟩ : A1 = some ⟨g, 0, none⟩ ∧ c1 = cap := by injection hform with e1 _ e3; exact ⟨e1, e3⟩
      have q1 : wr.cell? ⟨g, k, none⟩ = some (.int .i64 (l[k]?.getD 0)) := by
        rw [r1.cellAt k (by omega)]; simp only [List.getElem?_map, empTo_get l num den k hlt]; rfl
      have q2 : wr.frozen? ⟨g, k, none⟩ = false := r1.frozenAt k
      obtain ⟨bk, off, rfl, hb, hc⟩ := (h.below r2).at_ (k := k - 1) (by omega)
      have b1 := allR_get hv.out hlt
      have b2 := allR_get hv.out (show k - 1 < l.length by omega)
      have e1 : l[k]?.getD 0 = l[k] := by simp [List.getElem?_eq_getElem hlt]
      have e2 : l[k - 1]?.getD 0 = l[k - 1] := by simp [List.getElem?_eq_getElem (show k - 1 < l.length by omega)]
      rw [← e1] at b1
      rw [← e2] at b2
      clear e1 e2
      generalize hx1 : l[k]?.getD 0 = x1 at *
      generalize hx2 : l[k - 1]?.getD 0 = x2 at *
      have m1 := mul_bd2 (A := 1024) (X := 2147483647) h0 (by omega) (by omega) b2.2 (by omega)
      have p1 : IntKind.i64.wrap (num * x2) = num * x2 := IntWalk.i64_in _ (by omega)
      have p0 : IntKind.i64.wrap ((k : Int) - 1) = (k : Int) - 1 := IntWalk.i64_in _ (by omega)
      have hrb := rnd_bd (a := num * x2) (b := den) h2
      have hyb : -(1024 * 2147483647) ≤ rnd (num * x2) den ∧ rnd (num * x2) den ≤ 1024 * 2147483647 := by
        by_cases hs : 0 ≤ num * x2
        · have := hrb.1 hs; omega
        · have := hrb.2 (by omega); omega
      have p2 : IntKind.i64.wrap (x1 - rnd (num * x2) den) = x1 - rnd (num * x2) den := IntWalk.i64_in _ (by omega)
      have i0 : (0 : Int) ≤ (k : Int) - 1 := by omega
      have i3 : (1 : Int) ≤ (k : Int) := by omega
      have i1 : (k : Int) - 1 < (l.length : Int) := by omega
      have i2 : ((k : Int) - 1).toNat = k - 1 := by omega
      have H1 := Lib.hid hx1
      have H2 := Lib.hid hx2
      clear hx1 hx2 hrb
      go_wp2_with fail
      go_still_tail 15, (by kernel_rfl)
      still_call (still_of (rounded_any _ _ _ h2 (by omega) (by omega) (by omega)))
      repeat still_step
      refine wpStill_nil ?_
      go_wp2_with fail
      have hst := r1.stored k (.int .i64 (x1 - rnd (num * x2) den))
      have hset : (ics (empTo l num den k)).set k (.int .i64 (x1 - rnd (num * x2) den)) = ics (empTo l num den (k + 1)) := by
        rw [empTo_succ, ics, ics, List.map_set, ← H1.out, ← H2.out]
        simp only [empAt, if_neg (show ¬ k = 0 by omega)]
      rw [hset] at hst
      exact ⟨⟨k + 1, by omega, .inl (by omega), by go_num, hst.1.drew, (r2.setCell (by exact hg1) _).drew⟩, by simp [intOf]; omega⟩
    · rw [empTo_all l num den k (by omega)] at r1
      have hel : (emp l num den).length = l.length := by simp [emp]
      have hval := values_any A1 c1 (emp l num den) wr (Lies.of_own r1) (by omega) r hr2
      rw [hel] at hval
      have HEL := Lib.hid hel
      have HV := Lib.hid hval
      clear hel hval
      go_wp2_with fail
      refine HV.out.mono ?_
      rintro e w' ⟨rfl, rfl⟩
      by_cases hr0 : r = 0
      · have h5 : (r != 0) = false := by simp [hr0]
        have h6 := hout.out
        rw [if_pos hr0] at h6
        obtain ⟨rfl, rfl⟩ := h6
        clear hr0
        go_wp2_with fail
        go_ret2
        exact ⟨A1, c1, by rw [HEL.out]; rfl, by rw [HEL.out]; exact r1, r2⟩
      · have h5 : (r != 0) = true := by simp [hr0]
        have h6 := hout.out
        rw [if_neg hr0] at h6
        obtain ⟨rfl, rfl⟩ := h6
        clear hr0
        go_wp2_with fail
        go_ret2
        exact ⟨none, 0, rfl, World.ownsRow_nil _ _ _ _, r2⟩
end Go.Proofs.YtnflpnbpigcfhabDoor
/- wave.Window and wave.Weigh -/
namespace Go.Proofs.YtnflpnbpigcfhabDoor
open Go.RowKit Ear

theorem heap_two (w : World) (a b : Obj) : ((w.alloc a).alloc b).heap[w.heap.size + 1]? = some b := by
  have := heap_alloc_new (w.alloc a) b
  simpa using this

theorem winIdx_bad {kind : Int} (h : kind < 1 ∨ 3 < kind) : winIdx kind = -1 := by
  unfold winIdx; rw [if_neg (by omega), if_neg (by omega), if_neg (by omega)]
theorem winIdx_ok {kind : Int} (h1 : 1 ≤ kind) (h3 : kind ≤ 3) : winIdx kind = kind - 1 := by
  unfold winIdx; split
  · omega
  · split
    · omega
    · split <;> omega

set_option maxHeartbeats 1000000 in
theorem Window_bad (kind size : Int) (w : World) (h : kind < 1 ∨ 3 < kind ∨ size < 1 ∨ 4096 < size) :
    Calls Tryd.prog 66 #[.int .i64 kind, .int .i64 size] w (IntsErr 2 [] w) := by
  have hcase : (winIdx kind = -1) ∨ ((1 ≤ kind ∧ kind ≤ 3) ∧ size < 1) ∨ ((1 ≤ kind ∧ kind ≤ 3) ∧ 4096 < size) := by
    rcases h with h | h | h | h
    · exact .inl (winIdx_bad (.inl h))
    · exact .inl (winIdx_bad (.inr h))
    · by_cases hk : 1 ≤ kind ∧ kind ≤ 3
      · exact .inr (.inl ⟨hk, h⟩)
      · exact .inl (winIdx_bad (by omega))
    · by_cases hk : 1 ≤ kind ∧ kind ≤ 3
      · exact .inr (.inr ⟨hk, h⟩)
      · exact .inl (winIdx_bad (by omega))
  clear h
  rcases hcase with hk | ⟨hk, hs⟩ | ⟨hk, hs⟩
  · have HK := Lib.hid hk
    clear hk
    go_enter Tryd.func66, Tryd.ntmps66
    go_wp2_with fail
    refine (shapes_any _).mono ?_
    rintro e w1 ⟨rfl, rfl⟩
    go_wp2_with fail
    refine (IndexShape_any kind (w.heap.size + 1) w.heap.size _ (heap_two _ _ _) (by simp; omega) (by simp [go_sem]) (-1) HK).mono ?_
    rintro e w1 ⟨rfl, hb1⟩
    go_wp2_with fail
    go_ret2
    exact ⟨none, 0, rfl, World.ownsRow_nil _ _ _ _, (((Below.refl _ _).alloc (Nat.le_refl _) _).alloc (by simp) _).trans (hb1.mono (by simp; omega))⟩
  all_goals
    have HK : Hid (winIdx kind = kind - 1) := winIdx_ok hk.1 hk.2
    obtain ⟨hk1, hk3⟩ := hk
    go_enter Tryd.func66, Tryd.ntmps66
    go_wp2_with fail
    refine (shapes_any _).mono ?_
    rintro e w1 ⟨rfl, rfl⟩
    go_wp2_with fail
    refine (IndexShape_any kind (w.heap.size + 1) w.heap.size _ (heap_two _ _ _) (by simp; omega) (by simp [go_sem]) (kind - 1) HK).mono ?_
    rintro e w1 ⟨rfl, hb1⟩
    go_wp2_with fail
    go_ret2
    exact ⟨none, 0, rfl, World.ownsRow_nil _ _ _ _, (((Below.refl _ _).alloc (Nat.le_refl _) _).alloc (by simp) _).trans (hb1.mono (by simp; omega))⟩

set_option maxRecDepth 100000 in
set_option maxHeartbeats 2000000 in
theorem Window_ok (kind : Int) (size : Nat) (w : World) (hk1 : 1 ≤ kind) (hk3 : kind ≤ 3) (hs1 : 1 ≤ size) (hs2 : size ≤ 4096) :
    Calls Tryd.prog 66 #[.int .i64 kind, .int .i64 size] w (IntsErr 0 (winTo kind size size) w) := by
  obtain ⟨i0, hi0, hz0, hz1, hz2⟩ := info_parts int_info
  have HI := Lib.hid hi0; have HZ0 := Lib.hid hz0; have HZ1 := Lib.hid hz1; have HZ2 := Lib.hid hz2
  clear hi0 hz0 hz1 hz2
  have hcase : kind = 1 ∨ kind = 2 ∨ kind = 3 := by omega
  clear hk1 hk3
  rcases hcase with rfl | rfl | rfl
  · have e1 : decide ((size : Int) < 1) = false := by simp; omega
    have e2 : decide ((4096 : Int) < size) = false := by simp; omega
    go_enter Tryd.func66, Tryd.ntmps66
    go_wp2_with fail
    refine (shapes_any _).mono ?_
    rintro e w1 ⟨rfl, rfl⟩
    go_wp2_with fail
    refine (IndexShape_any 1 (w.heap.size + 1) w.heap.size _ (heap_two _ _ _) (by simp; omega) (by simp [go_sem]) 0 (Lib.hid rfl)).mono ?_
    rintro e w1 ⟨rfl, hb1⟩
    have hz := hb1.size
    simp at hz
    have c1 : w1.cell? ⟨w.heap.size + 1, 1, none⟩ = some (.func (.func 75) #[] #[]) := by
      rw [hb1.cell (p := ⟨w.heap.size + 1, 1, none⟩) (by simp)]; simp [go_sem]
    have hbw : Below w.heap.size w w1 := (((Below.refl _ _).alloc (Nat.le_refl _) _).alloc (by simp) _).trans (hb1.mono (by simp; omega))
    clear hb1
    go_wp2_with fail
    clear e1 e2
    go_loopw [8, 9, 25] (fun v _ i wr => ∃ j : Nat, j ≤ size ∧ i = .int .i64 j ∧ ∃ A c, v = .slice A j c ∧ wr.ownsRow w1.heap.size 3 1 (.slice A j c) j (ics (winTo 1 size j)) ∧ Below w1.heap.size w1 wr) (fun _ _ i _ => size - (intOf i).toNat)
    case atStart => exact ⟨0, Nat.zero_le _, rfl, none, 0, rfl, World.ownsRow_nil _ _ _ _, Below.refl _ _⟩
    case round =>
      obtain ⟨j, hj, rfl, A, c, rfl, r1, r2⟩ := hrel
      have q1 : wr.cell? ⟨w.heap.size + 1, 1, none⟩ = some (.func (.func 75) #[] #[]) := (r2.cell (p := ⟨w.heap.size + 1, 1, none⟩) (by show w.heap.size + 1 < _; omega)).trans c1
      by_cases hlt : j < size
      · go_wp2_with (first
          | (go_at_call 75; refine (shapes1_any _ _ _).mono ?_; rintro e w' ⟨rfl, rfl⟩)
          | (at_builtin; refine wpList_append_own_at _ rfl (.tmp 28) (.tmp 41) _ rfl w1.heap.size 3 i0 _ 1 8 Tryd.underlying22 HI.out HZ0.out HZ1.out HZ2.out rfl (by omega) (.slice A j c) j (ics (winTo 1 size j)) rfl (r1.alloc _) ⟨wr.heap.size, 0, none⟩ 1 1 [.int .i64 (wt 1 size (2 * (j : Int) - ((size : Int) - 1)))] rfl rfl (cell_one_new _ _ _) (by simp [Value.oneCell']) (by unfold maxLen; omega) (by omega) (by simp; exact Nat.le_succ_of_le r2.size) ?_; intro v' w2 hown1 hgrow _ hat))
        obtain ⟨A', c', rfl⟩ := own_slice hown1
        exact ⟨⟨j + 1, by omega, by go_num, A', c', rfl, by rw [winTo_succ]; simpa [ics, winAt] using hown1, (r2.alloc r2.size _).grown hgrow (by simp; exact Nat.le_succ_of_le r2.size) (fun k hk => (r1.lt k hk).1)⟩, by simp [intOf]; omega⟩
      · obtain rfl : j = size := by omega
        go_wp2_with fail
        go_ret2
        exact ⟨A, c, by rw [winTo_length]; rfl, by rw [winTo_length]; exact ownsRow_le r1 (by omega), hbw.trans (r2.mono (by omega))⟩
  · have e1 : decide ((size : Int) < 1) = false := by simp; omega
    have e2 : decide ((4096 : Int) < size) = false := by simp; omega
    go_enter Tryd.func66, Tryd.ntmps66
    go_wp2_with fail
    refine (shapes_any _).mono ?_
    rintro e w1 ⟨rfl, rfl⟩
    go_wp2_with fail
    refine (IndexShape_any 2 (w.heap.size + 1) w.heap.size _ (heap_two _ _ _) (by simp; omega) (by simp [go_sem]) 1 (Lib.hid rfl)).mono ?_
    rintro e w1 ⟨rfl, hb1⟩
    have hz := hb1.size
    simp at hz
    have c1 : w1.cell? ⟨w.heap.size + 1, 3, none⟩ = some (.func (.func 76) #[] #[]) := by
      rw [hb1.cell (p := ⟨w.heap.size + 1, 3, none⟩) (by simp)]; simp [go_sem]
    have hbw : Below w.heap.size w w1 := (((Below.refl _ _).alloc (Nat.le_refl _) _).alloc (by simp) _).trans (hb1.mono (by simp; omega))
    clear hb1
    go_wp2_with fail
    clear e1 e2
    go_loopw [8, 9, 25] (fun v _ i wr => ∃ j : Nat, j ≤ size ∧ i = .int .i64 j ∧ ∃ A c, v = .slice A j c ∧ wr.ownsRow w1.heap.size 3 1 (.slice A j c) j (ics (winTo 2 size j)) ∧ Below w1.heap.size w1 wr) (fun _ _ i _ => size - (intOf i).toNat)
    case atStart => exact ⟨0, Nat.zero_le _, rfl, none, 0, rfl, World.ownsRow_nil _ _ _ _, Below.refl _ _⟩
    case round =>
      obtain ⟨j, hj, rfl, A, c, rfl, r1, r2⟩ := hrel
      have q1 : wr.cell? ⟨w.heap.size + 1, 3, none⟩ = some (.func (.func 76) #[] #[]) := (r2.cell (p := ⟨w.heap.size + 1, 3, none⟩) (by show w.heap.size + 1 < _; omega)).trans c1
      by_cases hlt : j < size
      · go_wp2_with (first
          | (go_at_call 76; refine (shapes2_any _ _ _ (by omega) (by omega) (by omega) (by omega)).mono ?_; rintro e w' ⟨rfl, rfl⟩)
          | (at_builtin; refine wpList_append_own_at _ rfl (.tmp 28) (.tmp 41) _ rfl w1.heap.size 3 i0 _ 1 8 Tryd.underlying22 HI.out HZ0.out HZ1.out HZ2.out rfl (by omega) (.slice A j c) j (ics (winTo 2 size j)) rfl (r1.alloc _) ⟨wr.heap.size, 0, none⟩ 1 1 [.int .i64 (wt 2 size (2 * (j : Int) - ((size : Int) - 1)))] rfl rfl (cell_one_new _ _ _) (by simp [Value.oneCell']) (by unfold maxLen; omega) (by omega) (by simp; exact Nat.le_succ_of_le r2.size) ?_; intro v' w2 hown1 hgrow _ hat))
        obtain ⟨A', c', rfl⟩ := own_slice hown1
        exact ⟨⟨j + 1, by omega, by go_num, A', c', rfl, by rw [winTo_succ]; simpa [ics, winAt] using hown1, (r2.alloc r2.size _).grown hgrow (by simp; exact Nat.le_succ_of_le r2.size) (fun k hk => (r1.lt k hk).1)⟩, by simp [intOf]; omega⟩
      · obtain rfl : j = size := by omega
        go_wp2_with fail
        go_ret2
        exact ⟨A, c, by rw [winTo_length]; rfl, by rw [winTo_length]; exact ownsRow_le r1 (by omega), hbw.trans (r2.mono (by omega))⟩
  · have e1 : decide ((size : Int) < 1) = false := by simp; omega
    have e2 : decide ((4096 : Int) < size) = false := by simp; omega
    go_enter Tryd.func66, Tryd.ntmps66
    go_wp2_with fail
    refine (shapes_any _).mono ?_
    rintro e w1 ⟨rfl, rfl⟩
    go_wp2_with fail
    refine (IndexShape_any 3 (w.heap.size + 1) w.heap.size _ (heap_two _ _ _) (by simp; omega) (by simp [go_sem]) 2 (Lib.hid rfl)).mono ?_
    rintro e w1 ⟨rfl, hb1⟩
    have hz := hb1.size
    simp at hz
    have c1 : w1.cell? ⟨w.heap.size + 1, 5, none⟩ = some (.func (.func 77) #[] #[]) := by
      rw [hb1.cell (p := ⟨w.heap.size + 1, 5, none⟩) (by simp)]; simp [go_sem]
    have hbw : Below w.heap.size w w1 := (((Below.refl _ _).alloc (Nat.le_refl _) _).alloc (by simp) _).trans (hb1.mono (by simp; omega))
    clear hb1
    go_wp2_with fail
    clear e1 e2
    go_loopw [8, 9, 25] (fun v _ i wr => ∃ j : Nat, j ≤ size ∧ i = .int .i64 j ∧ ∃ A c, v = .slice A j c ∧ wr.ownsRow w1.heap.size 3 1 (.slice A j c) j (ics (winTo 3 size j)) ∧ Below w1.heap.size w1 wr) (fun _ _ i _ => size - (intOf i).toNat)
    case atStart => exact ⟨0, Nat.zero_le _, rfl, none, 0, rfl, World.ownsRow_nil _ _ _ _, Below.refl _ _⟩
    case round =>
      obtain ⟨j, hj, rfl, A, c, rfl, r1, r2⟩ := hrel
      have q1 : wr.cell? ⟨w.heap.size + 1, 5, none⟩ = some (.func (.func 77) #[] #[]) := (r2.cell (p := ⟨w.heap.size + 1, 5, none⟩) (by show w.heap.size + 1 < _; omega)).trans c1
      by_cases hlt : j < size
      · go_wp2_with (first
          | (go_at_call 77; refine (shapes3_any _ _ _ (by omega) (by omega) (by omega) (by omega)).mono ?_; rintro e w' ⟨rfl, rfl⟩)
          | (at_builtin; refine wpList_append_own_at _ rfl (.tmp 28) (.tmp 41) _ rfl w1.heap.size 3 i0 _ 1 8 Tryd.underlying22 HI.out HZ0.out HZ1.out HZ2.out rfl (by omega) (.slice A j c) j (ics (winTo 3 size j)) rfl (r1.alloc _) ⟨wr.heap.size, 0, none⟩ 1 1 [.int .i64 (wt 3 size (2 * (j : Int) - ((size : Int) - 1)))] rfl rfl (cell_one_new _ _ _) (by simp [Value.oneCell']) (by unfold maxLen; omega) (by omega) (by simp; exact Nat.le_succ_of_le r2.size) ?_; intro v' w2 hown1 hgrow _ hat))
        obtain ⟨A', c', rfl⟩ := own_slice hown1
        exact ⟨⟨j + 1, by omega, by go_num, A', c', rfl, by rw [winTo_succ]; simpa [ics, winAt] using hown1, (r2.alloc r2.size _).grown hgrow (by simp; exact Nat.le_succ_of_le r2.size) (fun k hk => (r1.lt k hk).1)⟩, by simp [intOf]; omega⟩
      · obtain rfl : j = size := by omega
        go_wp2_with fail
        go_ret2
        exact ⟨A, c, by rw [winTo_length]; rfl, by rw [winTo_length]; exact ownsRow_le r1 (by omega), hbw.trans (r2.mono (by omega))⟩
end Go.Proofs.YtnflpnbpigcfhabDoor
/- wave.Weigh -/
namespace Go.Proofs.YtnflpnbpigcfhabDoor
open Go.RowKit Ear

set_option maxHeartbeats 400000 in
theorem Weigh_chk (A : Option Addr) (c : Nat) (l : List Int) (kind : Int) (w : World) (h : Lies w A (ics l)) (hn : l.length ≤ 9223372036854775807) (r : Int) (hr : Hid (vchk l = r)) (h0 : (r != 0) = true) :
    Calls Tryd.prog 49 #[.slice A l.length c, .int .i64 kind] w (IntsErr r [] w) := by
  go_enter Tryd.func49, Tryd.ntmps49
  go_wp2_with (go_at_call 47; refine (values_any A c l _ h hn _ hr).mono ?_; rintro e w' ⟨rfl, rfl⟩)
  go_ret2
  exact ⟨none, 0, rfl, World.ownsRow_nil _ _ _ _, Below.refl _ _⟩

set_option maxHeartbeats 400000 in
theorem Weigh_bad (A : Option Addr) (c : Nat) (l : List Int) (kind : Int) (w : World) (h : Lies w A (ics l)) (hn : l.length ≤ 200000) (hr : Hid (vchk l = 0)) (hb : kind < 1 ∨ 3 < kind ∨ (l.length : Int) < 1 ∨ 4096 < (l.length : Int)) :
    Calls Tryd.prog 49 #[.slice A l.length c, .int .i64 kind] w (IntsErr 2 [] w) := by
  have HB := Lib.hid hb
  clear hb
  go_enter Tryd.func49, Tryd.ntmps49
  go_wp2_with (go_at_call 47; refine (values_any A c l _ h (by omega) _ hr).mono ?_; rintro e w' ⟨rfl, rfl⟩)
  refine (Window_bad kind l.length _ HB.out).mono ?_
  rintro e w1 ⟨A1, c1, rfl, ho1, hb1⟩
  go_wp2_with fail
  go_ret2
  exact ⟨none, 0, rfl, World.ownsRow_nil _ _ _ _, hb1⟩

set_option maxRecDepth 100000 in
set_option maxHeartbeats 1000000 in
theorem Weigh_ok (A : Option Addr) (c : Nat) (l : List Int) (kind : Int) (w : World) (h : Lies w A (ics l)) (hr : Hid (vchk l = 0)) (hk1 : 1 ≤ kind) (hk3 : kind ≤ 3) (hs1 : 1 ≤ l.length) (hs2 : l.length ≤ 4096) :
    Calls Tryd.prog 49 #[.slice A l.length c, .int .i64 kind] w (IntsErr 0 (wgh l kind) w) := by
  have hv := Lib.hid (vchk_ok.1 hr.out).2
  go_enter Tryd.func49, Tryd.ntmps49
  go_wp2_with (go_at_call 47; refine (values_any A c l _ h (by omega) _ hr).mono ?_; rintro e w' ⟨rfl, rfl⟩)
  refine (Window_ok kind l.length _ hk1 hk3 hs1 hs2).mono ?_
  rintro e w1 ⟨A1, c1, rfl, ho1, hb1⟩
  rw [winTo_length] at ho1 ⊢
  go_wp2_with fail
  go_loopw [9, 10, 28] (fun _ _ i wr => ∃ k : Nat, k ≤ l.length ∧ i = .int .i64 k ∧ wr.ownsRow w.heap.size 3 1 (.slice A1 l.length c1) l.length (ics (wghTo l kind k)) ∧ Below w.heap.size w wr) (fun _ _ i _ => l.length - (intOf i).toNat)
  case atStart => exact ⟨0, by omega, rfl, by rw [wghTo_zero]; exact ho1, hb1⟩
  case round =>
    obtain ⟨k, hk, rfl, r1, r2⟩ := hrel
    by_cases hlt : k < l.length
    · obtain ⟨g, cap, hform, hg1, hg2⟩ := r1.form (by omega)
      obtain ⟨rfl, rfl⟩ : A1 = some ⟨g, 0, none⟩ ∧ c1 = cap := by injection hform with e1 _ e3; exact ⟨e1, e3⟩
      have q1 : wr.cell? ⟨g, k, none⟩ = some (.int .i64 (winAt kind l.length k)) := by
        rw [r1.cellAt k (by omega)]; simp only [List.getElem?_map, wghTo_get l kind k hlt]; rfl
      have q2 : wr.frozen? ⟨g, k, none⟩ = false := r1.frozenAt k
      obtain ⟨bk, off, rfl, hb, hc⟩ := (h.below r2).at_ hlt
      have b1 := allR_get hv.out hlt
      have e1 : l[k]?.getD 0 = l[k] := by simp [List.getElem?_eq_getElem hlt]
      rw [← e1] at b1
      clear e1
      have b2 := winAt_bd (kind := kind) (n := l.length) (i := k) (by omega) (by omega)
      generalize hx1 : l[k]?.getD 0 = x1 at *
      generalize hx2 : winAt kind l.length k = x2 at *
      have m1 := mul_bd3 (Y := 4096) (X := 2147483647) b2.1 b2.2 b1.1 b1.2 (by omega)
      have H1 := Lib.hid hx1
      have H2 := Lib.hid hx2
      clear hx1 hx2
      go_wp2_with (go_at_call 46; refine (rounded_any _ _ _ (by omega) (by omega) (by omega) (by omega)).mono ?_; rintro e w' ⟨rfl, rfl⟩)
      have hst := r1.stored k (.int .i64 (rnd (x1 * x2) 4096))
      have hset : (ics (wghTo l kind k)).set k (.int .i64 (rnd (x1 * x2) 4096)) = ics (wghTo l kind (k + 1)) := by
        rw [wghTo_succ, ics, ics, List.map_set, ← H1.out, ← H2.out]; rfl
      rw [hset] at hst
      exact ⟨⟨k + 1, by omega, by go_num, hst.1, r2.setCell (by exact hg1) _⟩, by simp [intOf]; omega⟩
    · rw [wghTo_all l kind k (by omega)] at r1
      go_wp2_with fail
      go_ret2
      exact ⟨A1, c1, by rw [wgh_length]; rfl, by rw [wgh_length]; exact r1, r2⟩
end Go.Proofs.YtnflpnbpigcfhabDoor
/- Plain: where somebody speaks. -/
namespace Ear
/-- the sum of the squares -/
def enr : List Int → Int
  | [] => 0
  | x :: l => x * x + enr l
theorem enr_append (a b : List Int) : enr (a ++ b) = enr a + enr b := by
  induction a with
  | nil => simp [enr]
  | cons x l ih => simp [enr, ih]; omega
theorem enr_bd {l : List Int} {B : Int} (h : ∀ x ∈ l, -B ≤ x ∧ x ≤ B) : 0 ≤ enr l ∧ enr l ≤ B * B * l.length := by
  induction l with
  | nil => simp [enr]
  | cons x l ih =>
    have h1 := ih (fun y hy => h y (List.mem_cons_of_mem _ hy))
    have h2 := sq_bd (h x (List.mem_cons_self ..)).1 (h x (List.mem_cons_self ..)).2
    simp only [enr, List.length_cons]
    have : B * B * ((l.length + 1 : Nat) : Int) = B * B * l.length + B * B := by
      rw [Int.natCast_add, Int.mul_add]; simp
    omega
/-- a gate -/
structure Gt where
  block : Int
  high : Int
  low : Int
  rise : Int
  fall : Int
  lead : Int
  longest : Int
/-- a gate is as defined -/
def Gt.ok (g : Gt) : Prop := 1 ≤ g.block ∧ g.block ≤ 4096 ∧ 0 ≤ g.low ∧ g.low ≤ g.high ∧ g.high ≤ 1073741824 ∧ 1 ≤ g.rise ∧ g.rise ≤ 1000 ∧ 1 ≤ g.fall ∧ g.fall ≤ 1000 ∧ 0 ≤ g.lead ∧ g.lead ≤ 1000 ∧ g.rise + g.fall + g.lead ≤ g.longest ∧ g.longest ≤ 100000
instance (g : Gt) : Decidable g.ok := by unfold Gt.ok; infer_instance
/-- what a listener knows -/
structure Ls where
  state : Int
  blocks : Int
  samples : Int
  run : Int
  begin_ : Int
  free : Int
/-- after a block of energy n; a segment may have ended -/
def Ls.step (g : Gt) (s : Ls) (n : Int) : Ls × Option (Int × Int) :=
  if s.state = 0 then
    let r := if g.high * g.block ≤ n then s.run + 1 else 0
    if r = g.rise then ({ s with state := 1, blocks := s.blocks + 1, run := 0, begin_ := max (s.blocks - g.rise + 1 - g.lead) s.free }, none)
    else ({ s with blocks := s.blocks + 1, run := r }, none)
  else
    let r := if n < g.low * g.block then s.run + 1 else 0
    if r = g.fall then ({ s with state := 0, blocks := s.blocks + 1, run := 0, free := s.blocks - g.fall + 1 }, some (s.begin_ * g.block, (s.blocks - g.fall + 1) * g.block))
    else if s.blocks - s.begin_ + 1 = g.longest then ({ s with state := 0, blocks := s.blocks + 1, run := 0, free := s.blocks + 1 }, some (s.begin_ * g.block, (s.blocks + 1) * g.block))
    else ({ s with blocks := s.blocks + 1, run := r }, none)
theorem Ls.step_wait_no {g : Gt} {s : Ls} {n R : Int} {ld : Bool} (h0 : s.state = 0) (hl : decide (g.high * g.block ≤ n) = ld) (hR : (if ld = true then s.run + 1 else 0) = R) (hne : ¬ R = g.rise) :
    s.step g n = ({ s with blocks := s.blocks + 1, run := R }, none) := by
  have : (if g.high * g.block ≤ n then s.run + 1 else 0) = R := by rw [← hR, ← hl]; simp only [decide_eq_true_eq]
  simp only [Ls.step, if_pos h0, this, if_neg hne]
theorem Ls.step_wait_yes {g : Gt} {s : Ls} {n R : Int} {ld : Bool} (h0 : s.state = 0) (hl : decide (g.high * g.block ≤ n) = ld) (hR : (if ld = true then s.run + 1 else 0) = R) (he : R = g.rise) :
    s.step g n = ({ s with state := 1, blocks := s.blocks + 1, run := 0, begin_ := max (s.blocks - g.rise + 1 - g.lead) s.free }, none) := by
  have : (if g.high * g.block ≤ n then s.run + 1 else 0) = R := by rw [← hR, ← hl]; simp only [decide_eq_true_eq]
  simp only [Ls.step, if_pos h0, this, if_pos he]
theorem Ls.step_speech_fall {g : Gt} {s : Ls} {n R : Int} {qt : Bool} (h0 : ¬ s.state = 0) (hl : decide (n < g.low * g.block) = qt) (hR : (if qt = true then s.run + 1 else 0) = R) (he : R = g.fall) :
    s.step g n = ({ s with state := 0, blocks := s.blocks + 1, run := 0, free := s.blocks - g.fall + 1 }, some (s.begin_ * g.block, (s.blocks - g.fall + 1) * g.block)) := by
  have : (if n < g.low * g.block then s.run + 1 else 0) = R := by rw [← hR, ← hl]; simp only [decide_eq_true_eq]
  simp only [Ls.step, if_neg h0, this, if_pos he]
theorem Ls.step_speech_long {g : Gt} {s : Ls} {n R : Int} {qt : Bool} (h0 : ¬ s.state = 0) (hl : decide (n < g.low * g.block) = qt) (hR : (if qt = true then s.run + 1 else 0) = R) (he : ¬ R = g.fall) (hg : s.blocks - s.begin_ + 1 = g.longest) :
    s.step g n = ({ s with state := 0, blocks := s.blocks + 1, run := 0, free := s.blocks + 1 }, some (s.begin_ * g.block, (s.blocks + 1) * g.block)) := by
  have : (if n < g.low * g.block then s.run + 1 else 0) = R := by rw [← hR, ← hl]; simp only [decide_eq_true_eq]
  simp only [Ls.step, if_neg h0, this, if_neg he, if_pos hg]
theorem Ls.step_speech_on {g : Gt} {s : Ls} {n R : Int} {qt : Bool} (h0 : ¬ s.state = 0) (hl : decide (n < g.low * g.block) = qt) (hR : (if qt = true then s.run + 1 else 0) = R) (he : ¬ R = g.fall) (hg : ¬ s.blocks - s.begin_ + 1 = g.longest) :
    s.step g n = ({ s with blocks := s.blocks + 1, run := R }, none) := by
  have : (if n < g.low * g.block then s.run + 1 else 0) = R := by rw [← hR, ← hl]; simp only [decide_eq_true_eq]
  simp only [Ls.step, if_neg h0, this, if_neg he, if_neg hg]
end Ear
/- energy, next, right, Gate, usable -/
namespace Go.Proofs.YtnflpnbpigcfhabDoor
open Go.RowKit Ear

theorem enr_take_succ {l : List Int} {k : Nat} (hk : k < l.length) : enr (l.take (k + 1)) = enr (l.take k) + l[k] * l[k] := by
  rw [List.take_succ_eq_append_getElem hk, enr_append]; simp [enr]

/-- a gate as a value -/
abbrev gateV (g : Gt) : Value := .agg #[.int .i64 g.block, .int .i64 g.high, .int .i64 g.low, .int .i64 g.rise, .int .i64 g.fall, .int .i64 g.lead, .int .i64 g.longest]

end Go.Proofs.YtnflpnbpigcfhabDoor
/- (*Listener).process -/
namespace Go.Proofs.YtnflpnbpigcfhabDoor
open Go.RowKit Ear

/-- a listener's cells -/
abbrev lCells (g : Gt) (s : Ls) (bl : Value) : Array Value := #[.int .i64 g.block, .int .i64 g.high, .int .i64 g.low, .int .i64 g.rise, .int .i64 g.fall, .int .i64 g.lead, .int .i64 g.longest, .bool true, .int .i64 s.state, bl, .int .i64 s.blocks, .int .i64 s.samples, .int .i64 s.run, .int .i64 s.begin_, .int .i64 s.free]
theorem row_set {w : World} {g : Nat} {t : TypeId} {cs : Array Value} (h : w.heap[g]? = some (.cells cs t (0, 0))) (i : Nat) (u : Value) : (w.setCell ⟨g, i, none⟩ u).heap[g]? = some (.cells (cs.setIfInBounds i u) t (0, 0)) := by
  simp [World.setCell, Array.getElem?_modify, h]
theorem row_frozen {w : World} {g : Nat} {t : TypeId} {cs : Array Value} (h : w.heap[g]? = some (.cells cs t (0, 0))) (i : Nat) : w.frozen? ⟨g, i, none⟩ = false := by
  simp [World.frozen?, h]
theorem row_lt {w : World} {g : Nat} {t : TypeId} {cs : Array Value} (h : w.heap[g]? = some (.cells cs t (0, 0))) : g < w.heap.size := (Array.getElem?_eq_some_iff.1 h).1

end Go.Proofs.YtnflpnbpigcfhabDoor
/- (*Listener).process in speech -/
namespace Go.Proofs.YtnflpnbpigcfhabDoor
open Go.RowKit Ear

end Go.Proofs.YtnflpnbpigcfhabDoor
/- usable, Listen, Close, At -/
namespace Go.Proofs.YtnflpnbpigcfhabDoor
open Go.RowKit Ear

/-- a new listener -/
def Ls.new : Ls := ⟨0, 0, 0, 0, 0, 0⟩

end Go.Proofs.YtnflpnbpigcfhabDoor
/- Plain: a listener is fed. -/
namespace Ear
def Ls.Inv (s : Ls) : Prop := (s.state = 0 ∨ s.state = 1) ∧ 0 ≤ s.run ∧ s.run ≤ s.blocks ∧ 0 ≤ s.free ∧ s.free ≤ s.blocks ∧ 0 ≤ s.begin_ ∧ s.begin_ ≤ s.blocks
theorem Ls.step_inv {g : Gt} {s : Ls} {n : Int} (hg : g.ok) (h : s.Inv) : (s.step g n).1.Inv ∧ (s.step g n).1.blocks = s.blocks + 1 ∧ (s.step g n).1.samples = s.samples := by
  obtain ⟨s1, s2, s3, s4, s5, s6⟩ := s
  obtain ⟨g1, g2, g3, g4, g5, g6, g7⟩ := g
  simp only [Ls.Inv, Gt.ok] at h hg
  simp only [Ls.step]
  split
  · split <;> split <;> (refine ⟨⟨?_, ?_, ?_, ?_, ?_, ?_, ?_⟩, rfl, rfl⟩ <;> dsimp only <;> omega)
  · split <;> split <;> (try split) <;> (refine ⟨⟨?_, ?_, ?_, ?_, ?_, ?_, ?_⟩, rfl, rfl⟩ <;> dsimp only <;> omega)
/-- the state and the segments after k blocks -/
def stp (g : Gt) (B : Nat) (s : Ls) (all : List Int) : Nat → Ls × List (Int × Int)
  | 0 => (s, [])
  | k + 1 => (((stp g B s all k).1.step g (enr ((all.drop (k * B)).take B))).1, (stp g B s all k).2 ++ ((stp g B s all k).1.step g (enr ((all.drop (k * B)).take B))).2.toList)
theorem stp_inv {g : Gt} {B : Nat} {s : Ls} {all : List Int} (hg : g.ok) (h : s.Inv) : ∀ k, (stp g B s all k).1.Inv ∧ (stp g B s all k).1.blocks = s.blocks + k ∧ (stp g B s all k).1.samples = s.samples := by
  intro k
  induction k with
  | zero => simp [stp, h]
  | succ k ih =>
    have := Ls.step_inv (n := enr ((all.drop (k * B)).take B)) hg ih.1
    simp only [stp]
    refine ⟨this.1, by rw [this.2.1, ih.2.1]; omega, by rw [this.2.2, ih.2.2]⟩
theorem Ls.step_wait_none {g : Gt} {s : Ls} {n : Int} (h : s.state = 0) : (s.step g n).2 = none := by
  simp only [Ls.step, if_pos h]; split <;> split <;> rfl
theorem stp_len (g : Gt) (B : Nat) (s : Ls) (all : List Int) : ∀ k, (stp g B s all k).2.length ≤ k := by
  intro k
  induction k with
  | zero => simp [stp]
  | succ k ih =>
    simp only [stp, List.length_append]
    have : ((stp g B s all k).1.step g (enr ((all.drop (k * B)).take B))).2.toList.length ≤ 1 := by
      cases ((stp g B s all k).1.step g (enr ((all.drop (k * B)).take B))).2 <;> simp
    omega
theorem smp_drop {l : List Int} (h : smp l = true) (k : Nat) : smp (l.drop k) = true := allR_of fun _ hx => allR_mem h (List.mem_of_mem_drop hx)
theorem smp_take {l : List Int} (h : smp l = true) (k : Nat) : smp (l.take k) = true := allR_of fun _ hx => allR_mem h (List.mem_of_mem_take hx)
theorem smp_append {a b : List Int} (ha : smp a = true) (hb : smp b = true) : smp (a ++ b) = true := allR_of fun x hx => by
  rcases List.mem_append.1 hx with h | h
  · exact allR_mem ha h
  · exact allR_mem hb h
end Ear
/- append from a source that reads as a list of cells, nil let in -/
namespace Go.Proofs.YtnflpnbpigcfhabDoor
open Go.RowKit Ear

theorem Lies.cells_add {w : World} {ad : Addr} {xs : List Value} (h : Lies w (some ad) xs) (j : Nat) (u : Value) (hu : xs[j]? = some u) : w.cell? (ad.add j) = some u := by
  obtain ⟨b, off, e, hb, hc⟩ := h (Nat.lt_of_le_of_lt (Nat.zero_le _) (List.getElem?_eq_some_iff.1 hu).1)
  cases e
  rw [Addr.add_lit]
  exact hc j u hu

theorem wpList_append_src {P : Program} {w : World} {ops : Array Oper} {rest : List Oper} {o : Oper} {a : Act} {Q : Exit → Act → World → Prop} (hgd : o.guard = none) (s x : Operand) (t : TypeId)
    (ho : o.op = .call { callee := .builtin .append, args := #[s, x], argTypes := #[t, t] })
    (base : Nat) (e : TypeId) (i : TypeInfo) (z : Value) (size bytes : Nat) (ht : P.underlying t = some (.slice e)) (hi : P.info? e = some i) (hz : i.zero = some z)
    (hsize : i.size = size) (hby : i.bytes = bytes) (hzs : z.cells.size = size) (hsz : 0 < size)
    (v : Value) (n : Nat) (xs : List Value) (hs : a.eval s = v) (hown : w.ownsRow base e size v n xs)
    (A : Option Addr) (m c : Nat) (news : List Value) (hx : a.eval x = .slice A m c) (hA : A = none → c = 0) (hr : Lies w A news) (hl : news.length = m * size) (h1 : ∀ u ∈ news, u.oneCell' = true)
    (h63 : n + m ≤ maxLen) (hbytes : (n + m) * bytes ≤ 140737488355328) (hbase : base ≤ w.heap.size)
    (h : ∀ A' c' w', w'.ownsRow base e size (.slice A' (n + m) c') (n + m) (xs ++ news) → w.grownBy w' v.ownBlock → wpList P ops Q rest (a.put o.dst (.slice A' (n + m) c')) w') :
    wpList P ops Q (o :: rest) a w := by
  cases A with
  | none =>
    have hnil : news = [] := by
      rcases news with _ | ⟨u, l⟩
      · rfl
      · obtain ⟨b, off, e, _⟩ := hr (by simp); cases e
    subst hnil
    have hm : m = 0 := by
      rcases Nat.eq_zero_or_pos m with h0 | h0
      · exact h0
      · have := Nat.mul_pos h0 hsz; simp at hl; omega
    subst hm
    obtain rfl := hA rfl
    refine wpList_append_own_none hgd s x t ho base e i size ht hi v n xs hs hown hx ?_
    obtain ⟨A', c', rfl⟩ := own_slice hown
    exact h A' c' w (by simpa using hown) (World.grownBy.refl _ _)
  | some ad =>
    refine wpList_append_own_at w hgd s x t ho base e i z size bytes ht hi hz hsize hby hzs hsz v n xs hs hown ad m c news hx hl (fun j u hu => hr.cells_add j u hu) h1 h63 hbytes hbase ?_
    intro v' w' hown' hg _ _
    obtain ⟨A', c', rfl⟩ := own_slice hown'
    exact h A' c' w' hown' hg

theorem wpList_append_src2 {P : Program} {w : World} {ops : Array Oper} {rest : List Oper} {o : Oper} {a : Act} {Q : Exit → Act → World → Prop} (hgd : o.guard = none) (s x : Operand) (t : TypeId)
    (ho : o.op = .call { callee := .builtin .append, args := #[s, x], argTypes := #[t, t] })
    (base : Nat) (e : TypeId) (i : TypeInfo) (z : Value) (size bytes : Nat) (ht : P.underlying t = some (.slice e)) (hi : P.info? e = some i) (hz : i.zero = some z)
    (hsize : i.size = size) (hby : i.bytes = bytes) (hzs : z.cells.size = size) (hsz : 0 < size)
    (v : Value) (n : Nat) (xs : List Value) (hs : a.eval s = v) (hown : w.ownsRow base e size v n xs)
    (A : Option Addr) (m c : Nat) (news : List Value) (hx : a.eval x = .slice A m c) (hA : A = none → c = 0) (hr : Lies w A news) (hl : news.length = m * size) (h1 : ∀ u ∈ news, u.oneCell' = true)
    (h63 : n + m ≤ maxLen) (hbytes : (n + m) * bytes ≤ 140737488355328) (hbase : base ≤ w.heap.size)
    (h : ∀ A' c' w', w'.ownsRow base e size (.slice A' (n + m) c') (n + m) (xs ++ news) → w.grownBy w' v.ownBlock → ((Value.slice A' (n + m) c').ownBlock = v.ownBlock ∨ (Value.slice A' (n + m) c').ownBlock = some w.heap.size) → wpList P ops Q rest (a.put o.dst (.slice A' (n + m) c')) w') :
    wpList P ops Q (o :: rest) a w := by
  cases A with
  | none =>
    have hnil : news = [] := by
      rcases news with _ | ⟨u, l⟩
      · rfl
      · obtain ⟨b, off, e, _⟩ := hr (by simp); cases e
    subst hnil
    have hm : m = 0 := by
      rcases Nat.eq_zero_or_pos m with h0 | h0
      · exact h0
      · have := Nat.mul_pos h0 hsz; simp at hl; omega
    subst hm
    obtain rfl := hA rfl
    refine wpList_append_own_none hgd s x t ho base e i size ht hi v n xs hs hown hx ?_
    obtain ⟨A', c', rfl⟩ := own_slice hown
    exact h A' c' w (by simpa using hown) (World.grownBy.refl _ _) (.inl rfl)
  | some ad =>
    refine wpList_append_own_at w hgd s x t ho base e i z size bytes ht hi hz hsize hby hzs hsz v n xs hs hown ad m c news hx hl (fun j u hu => hr.cells_add j u hu) h1 h63 hbytes hbase ?_
    intro v' w' hown' hg _ hat
    obtain ⟨A', c', rfl⟩ := own_slice hown'
    exact h A' c' w' hown' hg hat

theorem Lies.take {w : World} {A : Option Addr} {xs : List Value} (h : Lies w A xs) (k : Nat) : Lies w A (xs.take k) := fun h0 => by
  obtain ⟨b, off, e, hb, hc⟩ := h (by simp at h0; omega)
  refine ⟨b, off, e, hb, fun j u hu => hc j u ?_⟩
  rw [List.getElem?_take] at hu
  split at hu
  · exact hu
  · cases hu
theorem Lies.drop {w : World} {b off : Nat} {xs : List Value} (h : Lies w (some ⟨b, off, none⟩) xs) (k : Nat) : Lies w (some ⟨b, off + k, none⟩) (xs.drop k) := fun h0 => by
  obtain ⟨b', off', e, hb, hc⟩ := h (by simp at h0; omega)
  cases e
  refine ⟨b, off + k, rfl, hb, fun j u hu => ?_⟩
  rw [List.getElem?_drop] at hu
  rw [Nat.add_assoc]
  exact hc _ u hu
theorem Lies.grown {w w' : World} {A : Option Addr} {xs : List Value} {row : Option Nat} (h : Lies w A xs) (hg : w.grownBy w' row) (hr : ∀ b off, A = some ⟨b, off, none⟩ → row ≠ some b) : Lies w' A xs := fun h0 => by
  obtain ⟨b, off, e, hb, hc⟩ := h h0
  exact ⟨b, off, e, Nat.lt_of_lt_of_le hb hg.size, fun k u hu => (World.cell?_of_block (a := ⟨b, off + k, none⟩) (hg.block b hb (Ne.symm (hr b off e)))).trans (hc k u hu)⟩
end Go.Proofs.YtnflpnbpigcfhabDoor
/- a ledger of what lies in memory; append from any source inside a region that draws -/
namespace Go.Proofs.YtnflpnbpigcfhabDoor
open Go.RowKit

/-- bytes as cells -/
abbrev bcs (l : List Int) : List Value := l.map (Value.int .u8)
/-- below w0 nothing has turned, and the lists of F lie in w -/
structure Led (w0 w : World) (F : List (Option Addr × List Value)) : Prop where
  bel : Below w0.heap.size w0 w
  lies : ∀ (i : Nat) (A : Option Addr) (xs : List Value), F[i]? = some (A, xs) → Lies w A xs

section
variable {w0 w w' : World} {F : List (Option Addr × List Value)}
theorem Led.nil (w : World) : Led w w [] := ⟨Below.refl _ _, fun i A xs h => by simp at h⟩
theorem Led.below (h : Led w0 w F) (hb : Below w.heap.size w w') : Led w0 w' F :=
  ⟨h.bel.trans (hb.mono h.bel.size), fun i A xs e => (h.lies i A xs e).below hb⟩
theorem Led.alloc (h : Led w0 w F) (o : Obj) : Led w0 (w.alloc o) F :=
  ⟨h.bel.alloc h.bel.size o, fun i A xs e => (h.lies i A xs e).alloc o⟩
theorem Led.drewN (h : Led w0 w F) (n : Nat) : Led w0 (w.drewN n) F :=
  ⟨⟨h.bel.os, h.bel.tape, h.bel.output, h.bel.size, h.bel.block⟩, fun i A xs e => h.lies i A xs e⟩
theorem Led.drew (h : Led w0 w F) : Led w0 w.drew F :=
  ⟨⟨h.bel.os, h.bel.tape, h.bel.output, h.bel.size, h.bel.block⟩, fun i A xs e => h.lies i A xs e⟩
theorem Led.add (h : Led w0 w F) {A : Option Addr} {xs : List Value} (hl : Lies w A xs) : Led w0 w (F ++ [(A, xs)]) := ⟨h.bel, fun i A' xs' e => by
  rw [List.getElem?_append] at e
  split at e
  · exact h.lies i A' xs' e
  · rename_i hge
    have : i - F.length = 0 := by
      have := (List.getElem?_eq_some_iff.1 e).1
      simp at this; omega
    rw [this] at e
    simp at e
    obtain ⟨rfl, rfl⟩ := e
    exact hl⟩
/-- a block that is known whole -/
theorem Led.row (h : Led w0 w F) {g : Nat} {t : TypeId} {cs : Array Value} (hr : w.heap[g]? = some (.cells cs t (0, 0))) : Led w0 w (F ++ [(some ⟨g, 0, none⟩, cs.toList)]) :=
  h.add (fun _ => ⟨g, 0, rfl, row_lt hr, fun k u hu => by rw [Nat.zero_add, cell_of_row w g k _ _ _ hr]; simpa using hu⟩)
/-- a cell of a list -/
theorem Led.cell (h : Led w0 w F) (i : Nat) {b off : Nat} {xs : List Value} (e : F[i]? = some (some ⟨b, off, none⟩, xs)) (k : Nat) {u : Value} (hu : xs[k]? = some u) : w.cell? ⟨b, off + k, none⟩ = some u := by
  obtain ⟨b', off', e', _, hc⟩ := h.lies i _ _ e (by have := (List.getElem?_eq_some_iff.1 hu).1; omega)
  cases e'
  exact hc k u hu
theorem Led.grown (h : Led w0 w F) {row : Option Nat} (hg : w.grownBy w' row) (hr : ∀ k, row = some k → w0.heap.size ≤ k ∧ ∀ p ∈ F, ∀ b off, p.1 = some ⟨b, off, none⟩ → b ≠ k) : Led w0 w' F :=
  ⟨⟨hg.os.trans h.bel.os, hg.tape.trans h.bel.tape, hg.output.trans h.bel.output, Nat.le_trans h.bel.size hg.size, fun i hi => (hg.block i (Nat.lt_of_lt_of_le hi h.bel.size) (fun e => by have := (hr i e.symm).1; omega)).trans (h.bel.block i hi)⟩,
   fun i A xs e => (h.lies i A xs e).grown hg (fun b off e1 e2 => (hr b e2).2 _ (List.mem_of_getElem? e) b off e1 rfl)⟩
end

section
variable {P : Program} (w : World)
/-- append from a list that lies somewhere, nil let in: at the operation -/
theorem wp_append_src {o : Oper} {a : Act} {K : Act → World → Prop} {Q : Exit → Act → World → Prop} (s x : Operand) (t : TypeId)
    (ho : o.op = .call { callee := .builtin .append, args := #[s, x], argTypes := #[t, t] })
    (base : Nat) (e : TypeId) (i : TypeInfo) (z : Value) (size bytes : Nat) (ht : P.underlying t = some (.slice e)) (hi : P.info? e = some i) (hz : i.zero = some z)
    (hsize : i.size = size) (hby : i.bytes = bytes) (hzs : z.cells.size = size) (hsz : 0 < size)
    (v : Value) (n : Nat) (xs : List Value) (hs : a.eval s = v) (hown : w.ownsRow base e size v n xs)
    (A : Option Addr) (m c : Nat) (news : List Value) (hx : a.eval x = .slice A m c) (hA : A = none → c = 0) (hr : Lies w A news) (hl : news.length = m * size) (h1 : ∀ u ∈ news, u.oneCell' = true)
    (h63 : n + m ≤ maxLen) (hbytes : (n + m) * bytes ≤ 140737488355328) (hbase : base ≤ w.heap.size) (N : Nat) (hN : n + m = N)
    (h : ∀ A' c' w', w'.ownsRow base e size (.slice A' N c') N (xs ++ news) → w.grownBy w' v.ownBlock → ((Value.slice A' N c').ownBlock = v.ownBlock ∨ (Value.slice A' N c').ownBlock = some w.heap.size) → K (a.put o.dst (.slice A' N c')) w') : o.wp P a w K Q := by
  subst hN
  cases A with
  | none =>
    have hnil : news = [] := by
      rcases news with _ | ⟨u, l⟩
      · rfl
      · obtain ⟨b, off, e, _⟩ := hr (by simp); cases e
    subst hnil
    have hm : m = 0 := by
      rcases Nat.eq_zero_or_pos m with h0 | h0
      · exact h0
      · have := Nat.mul_pos h0 hsz; simp at hl; omega
    subst hm
    obtain rfl := hA rfl
    have hrun := run_append_owned_none (P := P) (w := w) base t o.type e i size ht hi v n xs hown
    unfold Oper.wp
    simp [execOp, ho, resolve, invoke, builtin, hs, hx, hrun, Result.andThen]
    obtain ⟨A', c', rfl⟩ := own_slice hown
    exact h A' c' w (by simpa using hown) (World.grownBy.refl _ _) (.inl rfl)
  | some ad =>
    obtain ⟨v', w', hrun, h2, h3, _, h5⟩ := run_append_own_at (P := P) w base t o.type e i z size bytes ht hi hz hsize hby hzs hsz v n xs hown ad m c news hl (fun j u hu => hr.cells_add j u hu) h1 h63 hbytes hbase
    obtain ⟨A', c', rfl⟩ := own_slice h2
    unfold Oper.wp execOp
    simp only [ho, resolve, invoke, builtin, Sem.run_bind, Sem.run_pure, Result.andThen_ok, List.map_toArray, List.map_cons, List.map_nil, hs, hx, hrun]
    exact h A' c' w' h2 h3 h5
/-- the same in a plain region, at a guarded operation -/
theorem wpList_append_srcG {ops : Array Oper} {rest : List Oper} {o : Oper} {a : Act} {Q : Exit → Act → World → Prop} (hw : Region.wanted o (yielded ops a.tmps) = true) (s x : Operand) (t : TypeId)
    (ho : o.op = .call { callee := .builtin .append, args := #[s, x], argTypes := #[t, t] })
    (base : Nat) (e : TypeId) (i : TypeInfo) (z : Value) (size bytes : Nat) (ht : P.underlying t = some (.slice e)) (hi : P.info? e = some i) (hz : i.zero = some z)
    (hsize : i.size = size) (hby : i.bytes = bytes) (hzs : z.cells.size = size) (hsz : 0 < size)
    (v : Value) (n : Nat) (xs : List Value) (hs : a.eval s = v) (hown : w.ownsRow base e size v n xs)
    (A : Option Addr) (m c : Nat) (news : List Value) (hx : a.eval x = .slice A m c) (hA : A = none → c = 0) (hr : Lies w A news) (hl : news.length = m * size) (h1 : ∀ u ∈ news, u.oneCell' = true)
    (h63 : n + m ≤ maxLen) (hbytes : (n + m) * bytes ≤ 140737488355328) (hbase : base ≤ w.heap.size) (N : Nat) (hN : n + m = N)
    (h : ∀ A' c' w', w'.ownsRow base e size (.slice A' N c') N (xs ++ news) → w.grownBy w' v.ownBlock → ((Value.slice A' N c').ownBlock = v.ownBlock ∨ (Value.slice A' N c').ownBlock = some w.heap.size) → wpList P ops Q rest (a.put o.dst (.slice A' N c')) w') :
    wpList P ops Q (o :: rest) a w :=
  wpList_step fun K hK => by
    rw [if_pos hw]
    exact wp_append_src w s x t ho base e i z size bytes ht hi hz hsize hby hzs hsz v n xs hs hown A m c news hx hA hr hl h1 h63 hbytes hbase N hN fun A' c' w' h2 h3 h4 => hK _ _ (h A' c' w' h2 h3 h4)
/-- the same at a step of a region that draws -/
theorem step_append_src {ops : Array Oper} {o : Oper} {a : Act} {K : Act → World → Prop} {Q : Exit → Act → World → Prop} {E : Prop} (hgd : o.guard = none) (s x : Operand) (t : TypeId)
    (ho : o.op = .call { callee := .builtin .append, args := #[s, x], argTypes := #[t, t] })
    (base : Nat) (e : TypeId) (i : TypeInfo) (z : Value) (size bytes : Nat) (ht : P.underlying t = some (.slice e)) (hi : P.info? e = some i) (hz : i.zero = some z)
    (hsize : i.size = size) (hby : i.bytes = bytes) (hzs : z.cells.size = size) (hsz : 0 < size)
    (v : Value) (n : Nat) (xs : List Value) (hs : a.eval s = v) (hown : w.ownsRow base e size v n xs)
    (A : Option Addr) (m c : Nat) (news : List Value) (hx : a.eval x = .slice A m c) (hA : A = none → c = 0) (hr : Lies w A news) (hl : news.length = m * size) (h1 : ∀ u ∈ news, u.oneCell' = true)
    (h63 : n + m ≤ maxLen) (hbytes : (n + m) * bytes ≤ 140737488355328) (hbase : base ≤ w.heap.size) (N : Nat) (hN : n + m = N)
    (h : ∀ A' c' w', w'.ownsRow base e size (.slice A' N c') N (xs ++ news) → w.grownBy w' v.ownBlock → ((Value.slice A' N c').ownBlock = v.ownBlock ∨ (Value.slice A' N c').ownBlock = some w.heap.size) → K (a.put o.dst (.slice A' N c')) w') :
    if Region.wanted o (yielded ops a.tmps) = true then Oper.wp P o a w K Q else E := by
  have hw : Region.wanted o (yielded ops a.tmps) = true := by simp [Region.wanted, hgd]
  rw [if_pos hw]
  exact wp_append_src w s x t ho base e i z size bytes ht hi hz hsize hby hzs hsz v n xs hs hown A m c news hx hA hr hl h1 h63 hbytes hbase N hN h
end
theorem Lies.past {wa w w' : World} {A : Option Addr} {xs : List Value} {p : Nat} (ha : Lies wa A xs) (h : Lies w A xs) (hg : w.grownBy w' (some p)) (hp : wa.heap.size ≤ p) : Lies w' A xs := fun h0 => by
  obtain ⟨b, off, e, hb, hc⟩ := ha h0
  exact h.grown hg (fun b' off' e' e2 => by
    rw [e] at e'
    injection e' with e'
    injection e' with e3 _ _
    injection e2 with e2
    omega) h0
theorem Led.past {w0 wa w w' : World} {F : List (Option Addr × List Value)} {p : Nat} (ha : Led w0 wa F) (h : Led w0 w F) (hg : w.grownBy w' (some p)) (hp : wa.heap.size ≤ p) : Led w0 w' F :=
  ⟨h.bel.trans (Below.of_only hg h.bel.size (Nat.le_trans ha.bel.size hp)), fun i A xs e => (ha.lies i A xs e).past (h.lies i A xs e) hg hp⟩
theorem only_none {w w' : World} (hb : Below w.heap.size w w') : w.grownBy w' none := ⟨hb.os, hb.tape, hb.output, hb.size, fun i hi _ => hb.block i hi⟩
theorem below_none {w w' : World} (h : w.grownBy w' none) : Below w.heap.size w w' := ⟨h.os, h.tape, h.output, h.size, fun i hi => h.block i hi (by simp)⟩
theorem below_undrew {w w' : World} (h : Below w.drew.heap.size w.drew w') : Below w.heap.size w w' := ⟨h.os, h.tape, h.output, h.size, h.block⟩
theorem own_below {w w' : World} {base : Nat} {e : TypeId} {size n : Nat} {v : Value} {xs : List Value} (h : w.ownsRow base e size v n xs) (hb : Below w.heap.size w w') : w'.ownsRow base e size v n xs :=
  h.kept (only_none hb) (by cases hx : v.ownBlock <;> simp)
/-- what is owned stays if another row turns -/
theorem own_apart {w w' : World} {base : Nat} {e : TypeId} {size n : Nat} {v : Value} {xs : List Value} {row : Option Nat} (h : w.ownsRow base e size v n xs) (hg : w.grownBy w' row) (hr : ∀ k, v.ownBlock = some k → row ≠ some k) : w'.ownsRow base e size v n xs :=
  h.kept hg (by
    cases hx : v.ownBlock with
    | none => exact .inl rfl
    | some k => exact .inr (fun e => hr k hx e.symm))
/-- a row that the call owns, or one without spare room that may be marked -/
def OwnFull (w : World) (base : Nat) (e : TypeId) (size : Nat) (A : Option Addr) (n c : Nat) (xs : List Value) : Prop :=
  w.ownsRow base e size (.slice A n c) n xs ∨ (c = n ∧ xs.length = n * size ∧ ∃ g cs fr, A = some ⟨g, 0, none⟩ ∧ base ≤ g ∧ w.heap[g]? = some (.cells cs e fr) ∧ ∀ (j : Nat) (u : Value), xs[j]? = some u → cs[j]? = some u)
theorem OwnFull.lies {w : World} {base : Nat} {e : TypeId} {size n c : Nat} {A : Option Addr} {xs : List Value} (h : OwnFull w base e size A n c xs) : Lies w A xs := by
  rcases h with h | ⟨_, _, g, cs, fr, rfl, _, hg, hc⟩
  · exact Lies.of_own h
  · exact fun _ => ⟨g, 0, rfl, (Array.getElem?_eq_some_iff.1 hg).1, fun k u hu => by rw [Nat.zero_add, cell_of_row w g k _ _ _ hg]; exact hc k u hu⟩
theorem OwnFull.alloc {w : World} {base : Nat} {e : TypeId} {size n c : Nat} {A : Option Addr} {xs : List Value} (h : OwnFull w base e size A n c xs) (o : Obj) : OwnFull (w.alloc o) base e size A n c xs := by
  rcases h with h | ⟨h1, h2, g, cs, fr, rfl, h3, hg, hc⟩
  · exact .inl (h.alloc _)
  · exact .inr ⟨h1, h2, g, cs, fr, rfl, h3, (Below.heap_alloc w o g (Array.getElem?_eq_some_iff.1 hg).1).trans hg, hc⟩
theorem OwnFull.lt {w : World} {base : Nat} {e : TypeId} {size n c : Nat} {A : Option Addr} {xs : List Value} (h : OwnFull w base e size A n c xs) : ∀ k, (Value.slice A n c).ownBlock = some k → base ≤ k ∧ k < w.heap.size := by
  rcases h with h | ⟨_, _, g, cs, fr, rfl, h3, hg, _⟩
  · exact h.lt
  · intro k hk; simp [Value.ownBlock] at hk; have := (Array.getElem?_eq_some_iff.1 hg).1; omega
theorem OwnFull.ne {w : World} {base : Nat} {e t : TypeId} {size n c : Nat} {A : Option Addr} {xs : List Value} (h : OwnFull w base e size A n c xs) {k b : Nat} (hk : (Value.slice A n c).ownBlock = some k) {cs : Array Value} (hb : w.heap[b]? = some (.cells cs t (0, 0))) (hne : e ≠ t) : k ≠ b := by
  rintro rfl
  have key : ∃ cur fr, w.heap[k]? = some (.cells cur e fr) := by
    rcases h with h | ⟨_, _, g, cs, fr, rfl, h3, hg, _⟩
    · rcases h.2 with ⟨e1, _⟩ | ⟨g, cap, cur, e1, _, hg, _⟩
      · rw [e1] at hk; simp [Value.ownBlock] at hk
      · rw [e1] at hk
        simp [Value.ownBlock] at hk
        subst hk
        exact ⟨cur, _, hg⟩
    · simp [Value.ownBlock] at hk; subst hk; exact ⟨cs, fr, hg⟩
  obtain ⟨cur, fr, h1⟩ := key
  rw [h1] at hb
  injection hb with hb
  injection hb with _ h2 _
  exact hne h2
/-- append of something to such a row -/
theorem wpList_append_full {P : Program} (w : World) {ops : Array Oper} {rest : List Oper} {o : Oper} {a : Act} {Q : Exit → Act → World → Prop} (hgd : o.guard = none) (s x : Operand) (t : TypeId)
    (ho : o.op = .call { callee := .builtin .append, args := #[s, x], argTypes := #[t, t] })
    (base : Nat) (e : TypeId) (i : TypeInfo) (z : Value) (size bytes : Nat) (ht : P.underlying t = some (.slice e)) (hi : P.info? e = some i) (hz : i.zero = some z)
    (hsize : i.size = size) (hby : i.bytes = bytes) (hzs : z.cells.size = size) (hsz : 0 < size)
    (A0 : Option Addr) (n c0 : Nat) (xs : List Value) (hs : a.eval s = .slice A0 n c0) (hown : OwnFull w base e size A0 n c0 xs)
    (ad : Addr) (m c : Nat) (news : List Value) (hx : a.eval x = .slice (some ad) m c) (hr : Lies w (some ad) news) (hl : news.length = m * size) (h1 : ∀ u ∈ news, u.oneCell' = true) (hm : 0 < m)
    (h63 : n + m ≤ maxLen) (hbytes : (n + m) * bytes ≤ 140737488355328) (hbase : base ≤ w.heap.size) (N : Nat) (hN : n + m = N)
    (h : ∀ A' c' w', w'.ownsRow base e size (.slice A' N c') N (xs ++ news) → w.grownBy w' (Value.slice A0 n c0).ownBlock → ((Value.slice A' N c').ownBlock = (Value.slice A0 n c0).ownBlock ∨ ∀ k, (Value.slice A' N c').ownBlock = some k → w.heap.size ≤ k) → wpList P ops Q rest (a.put o.dst (.slice A' N c')) w') :
    wpList P ops Q (o :: rest) a w := by
  rcases hown with hown | ⟨hc, hlx, g, cs, fr, rfl, hb, hg, hcell⟩
  · refine wpList_append_srcG w (by simp [Region.wanted, hgd]) s x t ho base e i z size bytes ht hi hz hsize hby hzs hsz _ n xs hs hown (some ad) m c news hx (fun e => by cases e) hr hl h1 h63 hbytes hbase N hN ?_
    intro A' c' w' h2 h3 h4
    refine h A' c' w' h2 h3 ?_
    rcases h4 with h4 | h4
    · exact .inl h4
    · exact .inr (fun k hk => by rw [h4] at hk; injection hk with hk; omega)
  · subst hN
    refine wpList_append_grows w hgd s x t ho e i z size bytes ht hi hz hsize hby hzs hsz (some ⟨g, 0, none⟩) n c0 xs hs (fun e => by cases e) hlx (fun b e j u hu => by cases e; rw [Addr.add_lit, Nat.zero_add, cell_of_row w g j _ _ _ hg]; exact hcell j u hu) ad m c news hx hl (fun j u hu => hr.cells_add j u hu) h1 (by omega) h63 hbytes ?_
    intro v' w' h2 h3
    obtain ⟨A', c', rfl⟩ := own_slice h2
    refine h A' c' w' (ownsRow_le h2 hbase) ⟨h3.os, h3.tape, h3.output, h3.size, fun k hk _ => h3.block k hk (by simp)⟩ (.inr (fun k hk => (h2.lt k hk).1))
theorem own_cap {w : World} {base : Nat} {e : TypeId} {size n c : Nat} {A : Option Addr} {xs : List Value} (h : w.ownsRow base e size (.slice A n c) n xs) : n ≤ c := by
  rcases h.2 with ⟨e1, e2⟩ | ⟨gg, cap, cur, e1, _, _, e2, _⟩
  · injection e1 with _ e3 _; omega
  · injection e1 with _ _ e3; omega
/-- two rows that are owned and turn -/
theorem only_two {V w1 w2 : World} {p : Nat} {row : Option Nat} (h : V.grownBy w1 (some p)) (hg : w1.grownBy w2 row) (hr : ∀ k, row = some k → V.heap.size ≤ k) : V.grownBy w2 (some p) := only_grown h hg hr

theorem Led.pastR {w0 wa w w' : World} {F : List (Option Addr × List Value)} {row : Option Nat} (ha : Led w0 wa F) (h : Led w0 w F) (hg : w.grownBy w' row) (hr : ∀ k, row = some k → wa.heap.size ≤ k) : Led w0 w' F := by
  cases row with
  | none => exact h.below (below_none hg)
  | some k => exact ha.past h hg (hr k rfl)
theorem ics_append (a b : List Int) : ics (a ++ b) = ics a ++ ics b := by simp [ics]
/-- what is new in a row stays apart from another row -/
theorem apart_next {new old other : Value} {H : Nat} (hat : new.ownBlock = old.ownBlock ∨ new.ownBlock = some H) (hap : ∀ b, old.ownBlock = some b → other.ownBlock ≠ some b) (hlt : ∀ b, other.ownBlock = some b → b < H) : ∀ b, new.ownBlock = some b → other.ownBlock ≠ some b := fun b h1 h2 => by
  rcases hat with h | h
  · rw [h] at h1; exact hap b h1 h2
  · rw [h] at h1; injection h1 with h1; have := hlt b h2; omega
theorem apart_swap {a b : Value} (h : ∀ k, a.ownBlock = some k → b.ownBlock ≠ some k) : ∀ k, b.ownBlock = some k → a.ownBlock ≠ some k := fun k h1 h2 => h k h2 h1
theorem Led.belowR {w0 wa w w' : World} {F : List (Option Addr × List Value)} (ha : Led w0 wa F) (h : Led w0 w F) (hb : Below wa.heap.size w w') : Led w0 w' F :=
  ⟨h.bel.trans (hb.mono ha.bel.size), fun i A xs e h0 => by
    obtain ⟨b, off, eA, hbl, hc⟩ := ha.lies i A xs e h0
    obtain ⟨b', off', eA', hbl', hc'⟩ := h.lies i A xs e h0
    rw [eA] at eA'
    cases eA'
    exact ⟨b, off, eA, Nat.lt_of_lt_of_le hbl' hb.size, fun k u hu => (hb.cell (p := ⟨b, off + k, none⟩) hbl).trans (hc' k u hu)⟩⟩
end Go.Proofs.YtnflpnbpigcfhabDoor
/- lists of lists as they lie in memory -/
namespace Go.Proofs.YtnflpnbpigcfhabDoor
open Go.RowKit

/-- an inner list: its address, capacity and numbers -/
abbrev Inn := Option Addr × Nat × List Int
def InOk (w : World) (x : Inn) : Prop :=
  Lies w x.1 (ics x.2.2) ∧ (x.1 = none → x.2.1 = 0 ∧ x.2.2 = []) ∧ x.2.2.length ≤ 9223372036854775807 ∧ x.2.2.length ≤ x.2.1 ∧ (∀ y ∈ x.2.2, -9223372036854775808 ≤ y ∧ y ≤ 9223372036854775807)
/-- the same, and no longer than memory allows -/
def InOkS (w : World) (x : Inn) : Prop := InOk w x ∧ x.2.1 * 8 ≤ 140737488351232
/-- lists as cells -/
abbrev lcs (l : List Inn) : List Value := l.map fun x => Value.slice x.1 x.2.2.length x.2.1
theorem Lies.lat {w : World} {A : Option Addr} {l : List Inn} (h : Lies w A (lcs l)) {k : Nat} (hk : k < l.length) :
    ∃ b off, A = some ⟨b, off, none⟩ ∧ b < w.heap.size ∧ w.cell? ⟨b, off + k, none⟩ = some (.slice l[k].1 l[k].2.2.length l[k].2.1) := by
  obtain ⟨b, off, e, hb, hc⟩ := h (by simp; omega)
  refine ⟨b, off, e, hb, hc k _ ?_⟩
  simp [List.getElem?_eq_getElem hk]
theorem InOk.below {w w' : World} {x : Inn} (h : InOk w x) (hb : Below w.heap.size w w') : InOk w' x := ⟨h.1.below hb, h.2⟩
theorem InOk.alloc {w : World} {x : Inn} (h : InOk w x) (o : Obj) : InOk (w.alloc o) x := ⟨h.1.alloc o, h.2⟩
/-- the first k lists, one after the other -/
def flt (l : List Inn) (k : Nat) : List Int := (l.take k).flatMap (fun x => x.2.2)
theorem flt_succ {l : List Inn} {k : Nat} (hk : k < l.length) : flt l (k + 1) = flt l k ++ l[k].2.2 := by
  unfold flt; rw [List.take_succ_eq_append_getElem hk, List.flatMap_append]; simp
theorem flt_zero (l : List Inn) : flt l 0 = [] := rfl
theorem flt_le {l : List Inn} : ∀ {k m : Nat}, k ≤ m → m ≤ l.length → (flt l k).length ≤ (flt l m).length := by
  intro k m h
  induction m with
  | zero => intro _; have : k = 0 := by omega
            subst this; exact Nat.le_refl _
  | succ m ih =>
    intro hm
    by_cases hk : k = m + 1
    · subst hk; exact Nat.le_refl _
    · rw [flt_succ (by omega), List.length_append]
      have := ih (by omega) (by omega)
      omega
theorem flt_bd {w : World} {l : List Inn} (h : ∀ x ∈ l, InOkS w x) : ∀ k, k ≤ l.length → (flt l k).length ≤ k * 17592186043904 := by
  intro k
  induction k with
  | zero => intro _; simp [flt]
  | succ k ih =>
    intro hk
    have h1 := h l[k] (List.getElem_mem _)
    have h2 := h1.1.2.2.2.1
    have h3 := h1.2
    rw [flt_succ (by omega), List.length_append]
    have := ih (by omega)
    omega
end Go.Proofs.YtnflpnbpigcfhabDoor
/- bits of words as numbers -/
namespace Go.Proofs.YtnflpnbpigcfhabDoor

theorem and_u32_16 (x : Int) : bits BinOp.and IntKind.u32 (x % 4294967296) 65535 = x % 65536 := by
  obtain ⟨n, hn⟩ := Int.eq_ofNat_of_zero_le (show 0 ≤ x % 4294967296 by omega)
  have h1 := u32_and_nat n 65535 (by omega) (by omega)
  have h2 : n &&& 65535 = n % 65536 := Nat.and_two_pow_sub_one_eq_mod n 16
  rw [h2] at h1
  rw [hn]
  have h3 : ((n % 65536 : Nat) : Int) = x % 65536 := by omega
  exact h1.trans h3
theorem or_i64_nat (a b : Nat) (ha : a < 9223372036854775808) (hb : b < 9223372036854775808) : bits .or .i64 (a : Int) (b : Int) = ((a ||| b : Nat) : Int) := by
  have hx : a ||| b < 2 ^ 63 := Nat.or_lt_two_pow (by omega) (by omega)
  have h1 : (BitVec.ofInt 64 (a : Int)).toNat = a := by
    rw [BitVec.ofInt_natCast, BitVec.toNat_ofNat]; exact Nat.mod_eq_of_lt (by omega)
  have h2 : (BitVec.ofInt 64 (b : Int)).toNat = b := by
    rw [BitVec.ofInt_natCast, BitVec.toNat_ofNat]; exact Nat.mod_eq_of_lt (by omega)
  show IntKind.i64.wrap ((BitVec.ofInt 64 (a : Int) ||| BitVec.ofInt 64 (b : Int)).toNat : Int) = _
  rw [BitVec.toNat_or, h1, h2, IntKind.wrap_i64]
  omega
theorem or_add (a b i m : Nat) (hm : m = 2 ^ i) (h : a < m) : a ||| (b * m) = b * m + a := by
  subst hm
  rw [Nat.or_comm, ← Nat.shiftLeft_eq, Nat.shiftLeft_add_eq_or_of_lt h]
/-- a byte is put ahead of k bytes -/
theorem or_i64_byte (a x : Int) (i m : Nat) (hm : m = 2 ^ i) (h0 : 0 ≤ a) (h1 : a < m) (x0 : 0 ≤ x) (x1 : x ≤ 255) (hb : m ≤ 16777216) : bits .or .i64 a (x * m) = a + x * m := by
  obtain ⟨n, rfl⟩ := Int.eq_ofNat_of_zero_le h0
  obtain ⟨y, rfl⟩ := Int.eq_ofNat_of_zero_le x0
  have hy : y * m ≤ 255 * 16777216 := Nat.mul_le_mul (by omega) hb
  have e : ((y : Int) * m) = ((y * m : Nat) : Int) := by simp
  rw [e, or_i64_nat n (y * m) (by omega) (by omega), or_add n y i m hm (by omega)]
  omega
end Go.Proofs.YtnflpnbpigcfhabDoor
