/-
  A region that draws its order and whose last operation waits for all others: the last one is carried out at the end.
-/
import Derived.OrdersHeld
import Derived.Deep.RegionHeld3
import Derived.Deep.AppendLies
namespace Go

/-- The post of the region without its last operation: that operation comes next. -/
def PopQ (P : Program) (ops : Array Oper) (n : Nat) (Q : Exit → Act → World → Prop) : Exit → Act → World → Prop
  | .normal, a, w => wpOp P ops Q n (fun a w => Q .normal a w) a w
  | e, a, w => Q e a w

theorem PopQ.other {P : Program} {ops : Array Oper} {n : Nat} {Q : Exit → Act → World → Prop} {e : Exit} {a : Act} {w : World} (he : e ≠ .normal) (h : PopQ P ops n Q e a w) : Q e a w := by
  cases e <;> first | exact h | exact absurd rfl he

theorem Oper.wp_other {P : Program} {o : Oper} {a : Act} {w : World} {K : Act → World → Prop} {Q Q' : Exit → Act → World → Prop} (h : ∀ e a w, e ≠ Exit.normal → Q' e a w → Q e a w) (hh : o.wp P a w K Q') : o.wp P a w K Q := by
  unfold Oper.wp at *
  generalize (execOp a.eval o).run P w = r at *
  cases r with
  | ok n w' =>
    cases n <;> simp only [Oper.upon] at hh ⊢ <;>
      first
        | exact hh
        | exact Calls.mono hh (fun e w'' he => by
            cases e with
            | returned v => exact he
            | panicked c => exact h _ _ _ (by simp) he
            | outgrown => obtain ⟨a, w, hq⟩ := he; exact ⟨a, w, h _ _ _ (by simp) hq⟩)
  | halt x w' => cases x <;> simp only [Oper.upon] at hh ⊢ <;> first | exact hh | exact h _ _ _ (by simp) hh

/-- no edge leads forward; guards look back; the last operation waits for every other one -/
def Region.popB (md : Region.Mode) (ops : Array Oper) (n : Nat) : Bool :=
  (ops.size == n + 1) &&
  (List.range (n + 1)).all (fun i => match ops[i]? with
    | some o => o.after.all (fun e => decide (e.on < i)) && (match o.guard with | some (j, _) => decide (j < i) | none => true)
    | none => false) &&
  (List.range n).all (fun i => match ops[n]? with
    | some o => o.after.any (fun e => Region.binds md e && e.on == i)
    | none => false)

section
variable {P : Program} {ops : Array Oper} {Q : Exit → Act → World → Prop} {md : Region.Mode} {n : Nat}

theorem Region.popB_size (h : Region.popB md ops n = true) : ops.size = n + 1 := by
  simp only [Region.popB, Bool.and_eq_true, beq_iff_eq] at h; exact h.1.1
theorem Region.popB_back (h : Region.popB md ops n = true) {i : Nat} {o : Oper} (ho : ops[i]? = some o) : (∀ e ∈ o.after, e.on < i) ∧ ∀ j b, o.guard = some (j, b) → j < i := by
  have hs := Region.popB_size h
  simp only [Region.popB, Bool.and_eq_true] at h
  have hi : i < n + 1 := by rw [← hs]; exact (Array.getElem?_eq_some_iff.1 ho).1
  have h1 := List.all_eq_true.1 h.1.2 i (List.mem_range.2 hi)
  simp only [ho, Bool.and_eq_true] at h1
  refine ⟨fun e he => by simpa using Array.all_eq_true'.1 h1.1 e he, fun j b hg => ?_⟩
  have := h1.2
  simp only [hg] at this
  simpa using this
theorem Region.popB_last (h : Region.popB md ops n = true) {i : Nat} (hi : i < n) {o : Oper} (ho : ops[n]? = some o) : ∃ e ∈ o.after, Region.binds md e = true ∧ e.on = i := by
  simp only [Region.popB, Bool.and_eq_true] at h
  have h1 := List.all_eq_true.1 h.2 i (List.mem_range.2 hi)
  simp only [ho] at h1
  obtain ⟨e, he, hb⟩ := Array.any_eq_true'.1 h1
  simp only [Bool.and_eq_true, beq_iff_eq] at hb
  exact ⟨e, he, hb.1, hb.2⟩

theorem pop_get {i : Nat} (hs : ops.size = n + 1) (hi : i < n) : ops.pop[i]? = ops[i]? := by
  rw [Array.getElem?_pop]; split
  · rfl
  · omega
theorem push_getD_lt {l : Array Bool} {i : Nat} {d : Bool} (hl : l.size = n) (hi : i < n) : (l.push false).getD i d = l.getD i d := by
  simp only [Array.getD_eq_getD_getElem?]
  rw [Array.getElem?_push, if_neg (by omega)]
theorem push_getD_last {l : Array Bool} {d : Bool} (hl : l.size = n) : (l.push false).getD n d = false := by
  simp only [Array.getD_eq_getD_getElem?]
  rw [Array.getElem?_push, if_pos (by omega)]; rfl

/-- What may come up is the same with and without the last operation. -/
theorem mem_ready_pop (h : Region.popB md ops n = true) {l : Array Bool} (hl : l.size = n) {i : Nat} (hi : i < n) : i ∈ Region.ready md ops (l.push false) ↔ i ∈ Region.ready md ops.pop l := by
  have hs := Region.popB_size h
  rw [mem_ready, mem_ready, push_getD_lt hl hi, pop_get hs hi]
  constructor
  · rintro ⟨h1, o, ho, h2⟩
    refine ⟨h1, o, ho, fun e he hb => ?_⟩
    have := h2 e he hb
    rwa [push_getD_lt hl (by have := (Region.popB_back h ho).1 e he; omega)] at this
  · rintro ⟨h1, o, ho, h2⟩
    refine ⟨h1, o, ho, fun e he hb => ?_⟩
    rw [push_getD_lt hl (by have := (Region.popB_back h ho).1 e he; omega)]
    exact h2 e he hb

theorem getD_flip {l : Array Bool} {i : Nat} (h : ¬ l.getD i false = true) (hi : i < l.size) : l.getD i true = false := by
  simp only [Array.getD_eq_getD_getElem?, Array.getElem?_eq_getElem hi, Option.getD_some] at *
  simpa using h

/-- Where something has not come up, something may come up. -/
theorem ready_of_unlisted (h : Region.popB md ops n = true) {l : Array Bool} (hl : l.size = n + 1) : ∀ (k i : Nat), i ≤ k → i < n + 1 → l.getD i false = false → ∃ j, j ≤ i ∧ j ∈ Region.ready md ops l := by
  intro k
  induction k with
  | zero =>
    intro i hk hi hu
    have hs := Region.popB_size h
    obtain rfl : i = 0 := by omega
    refine ⟨0, by omega, mem_ready.2 ⟨getD_flip (by rw [hu]; simp) (by omega), ops[0]'(by omega), Array.getElem?_eq_getElem _, fun e he _ => ?_⟩⟩
    have := (Region.popB_back h (Array.getElem?_eq_getElem (by omega))).1 e he
    omega
  | succ k ih =>
    intro i hk hi hu
    have hs := Region.popB_size h
    by_cases hall : ∀ e ∈ (ops[i]'(by omega)).after, Region.binds md e = true → l.getD e.on false = true
    · exact ⟨i, by omega, mem_ready.2 ⟨getD_flip (by rw [hu]; simp) (by omega), ops[i]'(by omega), Array.getElem?_eq_getElem _, hall⟩⟩
    · simp only [Classical.not_forall] at hall
      obtain ⟨e, he, hb, hne⟩ := hall
      have hlt := (Region.popB_back h (Array.getElem?_eq_getElem (by omega))).1 e he
      obtain ⟨j, hj, hr⟩ := ih e.on (by omega) (by omega) (by simpa using hne)
      exact ⟨j, by omega, hr⟩

theorem yielded_pop (hs : ops.size = n + 1) {j : Nat} (hj : j < n) (t : Array Value) : yielded ops.pop t j = yielded ops t j := by
  unfold yielded; rw [pop_get hs hj]
theorem wanted_pop (h : Region.popB md ops n = true) {i : Nat} {o : Oper} (hi : i < n) (ho : ops[i]? = some o) (t : Array Value) : Region.wanted o (yielded ops.pop t) = Region.wanted o (yielded ops t) := by
  unfold Region.wanted
  cases hg : o.guard with
  | none => rfl
  | some g =>
    obtain ⟨j, b⟩ := g
    have := (Region.popB_back h ho).2 j b hg
    simp only
    rw [yielded_pop (Region.popB_size h) (by omega)]

theorem wpOp_pop (h : Region.popB md ops n = true) {i : Nat} (hi : i < n) {K : Act → World → Prop} {a : Act} {w : World} (hh : wpOp P ops.pop (PopQ P ops n Q) i K a w) : wpOp P ops Q i K a w := by
  have hs := Region.popB_size h
  have ho : ops[i]? = some (ops[i]'(by omega)) := Array.getElem?_eq_getElem _
  unfold wpOp at *
  rw [pop_get hs hi] at hh
  have hwp := wanted_pop h hi ho a.tmps
  simp only [ho] at hh ⊢
  rw [hwp] at hh
  split
  · rename_i hw
    simp only [hw, if_true] at hh
    rcases hh with hh | ⟨h1, a', w', hq⟩
    · exact .inl (Oper.wp_other (fun e a w he hq => PopQ.other he hq) hh)
    · exact .inr ⟨h1, a', w', hq⟩
  · rename_i hw
    simp only [hw] at hh
    exact hh

theorem all_listed_ready (h : Region.popB md ops n = true) {l : Array Bool} (hl : l.size = n) (hr : n ∈ Region.ready md ops (l.push false)) : ∀ i, i < n → l.getD i false = true := by
  intro i hi
  have hs := Region.popB_size h
  obtain ⟨_, o, ho, hall⟩ := mem_ready.1 hr
  obtain ⟨e, he, hb, hon⟩ := Region.popB_last h hi ho
  have := hall e he hb
  rw [hon, push_getD_lt hl hi] at this
  exact this

theorem ready_nil_of_all {l : Array Bool} (hl : l.size = ops.size) (h : ∀ i, i < ops.size → l.getD i false = true) : Region.ready md ops l = [] := by
  rw [List.eq_nil_iff_forall_not_mem]
  intro i hi
  obtain ⟨h1, o, ho, _⟩ := mem_ready.1 hi
  have hlt := (Array.getElem?_eq_some_iff.1 ho).1
  have := h i hlt
  simp only [Array.getD_eq_getD_getElem?, Array.getElem?_eq_getElem (show i < l.size by omega), Option.getD_some] at *
  rw [this] at h1; cases h1

theorem wpAny_last (h : Region.popB md ops n = true) {l : Array Bool} (hl : l.size = n) {a : Act} {w : World} (hr : ∀ i, i < n → l.getD i false = true) (hq : PopQ P ops n Q .normal a w) (f : Nat) : wpOp P ops Q n (wpAny P md ops Q f ((l.push false).setIfInBounds n true)) a w := by
  have hs := Region.popB_size h
  refine wpOp_mono (fun a' w' hq' => ?_) hq
  have hnil : Region.ready md ops ((l.push false).setIfInBounds n true) = [] := by
    refine ready_nil_of_all (by simp; omega) fun i hi => ?_
    by_cases hin : i = n
    · subst hin; simp only [Array.getD_eq_getD_getElem?]; rw [Array.getElem?_setIfInBounds, if_pos rfl, if_pos (by rw [Array.size_push, hl]; omega)]; rfl
    · have := hr i (by omega)
      rw [← push_getD_lt hl (by omega)] at this
      simp only [Array.getD_eq_getD_getElem?] at *
      rw [Array.getElem?_setIfInBounds, if_neg (by omega)]
      exact this
  cases f with
  | zero => exact ⟨hnil, hq'⟩
  | succ f => exact ⟨fun _ => hq', fun i hi => by rw [hnil] at hi; cases hi⟩

theorem push_set {l : Array Bool} {i : Nat} (hl : l.size = n) (hi : i < n) : (l.push false).setIfInBounds i true = (l.setIfInBounds i true).push false := by
  apply Array.ext_getElem?
  intro k
  simp only [Array.getElem?_setIfInBounds, Array.getElem?_push, Array.size_push, Array.size_setIfInBounds]
  by_cases hik : i = k
  · subst hik; simp [show i < l.size + 1 by omega, show i < l.size by omega, show i ≠ l.size by omega]
  · simp [hik]

theorem wpAny_pop (h : Region.popB md ops n = true) : ∀ (f : Nat) (l : Array Bool) (a : Act) (w : World), l.size = n → wpAny P md ops.pop (PopQ P ops n Q) f l a w → wpAny P md ops Q (f + 1) (l.push false) a w := by
  have hs := Region.popB_size h
  intro f
  induction f with
  | zero =>
    intro l a w hl hw
    refine ⟨fun h0 => ?_, fun i hi => ?_⟩
    · obtain ⟨j, _, hj⟩ := ready_of_unlisted h (l := l.push false) (by simp; omega) n n (Nat.le_refl _) (by omega) (push_getD_last hl)
      rw [h0] at hj; cases hj
    · have hlt : i < n + 1 := by
        obtain ⟨_, o, ho, _⟩ := mem_ready.1 hi
        rw [← hs]; exact (Array.getElem?_eq_some_iff.1 ho).1
      by_cases hin : i = n
      · subst hin
        exact wpAny_last h hl (all_listed_ready h hl hi) hw.2 0
      · have := (mem_ready_pop h hl (by omega)).1 hi
        rw [hw.1] at this; cases this
  | succ f ih =>
    intro l a w hl hw
    refine ⟨fun h0 => ?_, fun i hi => ?_⟩
    · obtain ⟨j, _, hj⟩ := ready_of_unlisted h (l := l.push false) (by simp; omega) n n (Nat.le_refl _) (by omega) (push_getD_last hl)
      rw [h0] at hj; cases hj
    · have hlt : i < n + 1 := by
        obtain ⟨_, o, ho, _⟩ := mem_ready.1 hi
        rw [← hs]; exact (Array.getElem?_eq_some_iff.1 ho).1
      by_cases hin : i = n
      · subst hin
        have hall := all_listed_ready h hl hi
        exact wpAny_last h hl hall (hw.1 (ready_nil_of_all (by simp; omega) (fun k hk => hall k (by simp at hk; omega)))) _
      · have hlt' : i < n := by omega
        have h1 := wpOp_pop h hlt' (hw.2 i ((mem_ready_pop h hl hlt').1 hi))
        rw [push_set hl hlt']
        exact wpOp_mono (fun a' w' hx => ih _ a' w' (by simp; omega) hx) h1

/-- THE LAW: the region without its last operation is walked under S; then the last operation. -/
theorem wp_region_pop {S : World → Prop} {id : Nat} {a : Act} {w : World} (n : Nat) (hm : P.follows .mixedOrders = true) (hB : Region.popB .any ops n = true) (hS : S w.drew)
    (h : S w.drew → wpAnyH P .any ops.pop (PopQ P ops n Q) S n (Array.replicate n false) a w.drew) : (Code.region id ops true).wp P Q a w := by
  have hs := Region.popB_size hB
  refine wp_region_any hm ?_
  have := wpAny_pop hB n (Array.replicate n false) a w.drew (by simp) (wpAny_of_held _ _ _ _ (h hS))
  rw [hs, show (Array.replicate (n + 1) false) = (Array.replicate n false).push false from Array.replicate_succ]
  exact this
/-- An operation is taken first, its slot by number. -/
theorem wpAnyH_takeD {S : World → Prop} {i : Nat} (d : Nat) {oi : Oper} {v : Value} {fuel : Nat} {listed : Array Bool} {t : Array Value} {df : List Deferred} {w : World} (hi : ops[i]? = some oi) (hd : oi.dst = some d)
    (hs : Region.noSelect ops = true) (hf : Region.free md ops listed i = true) (hr : (Region.ready md ops listed).contains i = true)
    (hQ : ∀ c a w, Q (.panic c) (a.put (some d) v) w → Q (.panic c) a w) (hy : Region.wanted oi (yielded ops t) = true ∧ ∀ w, S w → (execOp (Act.eval ⟨t, df⟩) oi).run P w = .ok (.value v) w) (hS : S w)
    (h : wpAnyH P md ops Q S fuel (listed.setIfInBounds i true) ⟨t.setIfInBounds d v, df⟩ w) : wpAnyH P md ops Q S (fuel + 1) listed ⟨t, df⟩ w :=
  wpAnyH_take hi hs hf hr (by rw [hd]; exact hQ) (.inl hy) hS (by rw [hd]; exact h)
/-- The one operation that may come up, a call or one that makes memory, its slot by number. -/
theorem wpAnyH_oneD {S : World → Prop} (i : Nat) {o : Oper} {fuel : Nat} {listed : Array Bool} {a : Act} {w : World} (ho : ops[i]? = some o) (hr : Region.ready md ops listed = [i]) (hg : o.guard = none)
    (h : ∀ K' : Act → World → Prop, Shut (∀ a w, S w → (S w → wpAnyH P md ops Q S fuel (listed.setIfInBounds i true) a w) → K' a w) → Oper.wp P o a w K' Q) : wpAnyH P md ops Q S (fuel + 1) listed a w :=
  wpAnyH_ready hr (by simp) (AllReadyH.cons ho (fun K hK => by
    have hw : Region.wanted o (yielded ops a.tmps) = true := by simp [Region.wanted, hg]
    rw [if_pos hw]; exact h K hK) AllReadyH.nil)
theorem PopQ.last {o : Oper} {a : Act} {w : World} (ho : ops[n]? = some o) (hg : o.guard = none) (h : ∀ K' : Act → World → Prop, (∀ a w, Q .normal a w → K' a w) → Oper.wp P o a w K' Q) : PopQ P ops n Q .normal a w := by
  show wpOp P ops Q n (fun a w => Q .normal a w) a w
  refine wpOp_step ho (fun K hK => ?_)
  have hw : Region.wanted o (yielded ops a.tmps) = true := by simp [Region.wanted, hg]
  rw [if_pos hw]; exact h K hK
/-- append onto a row of the call's own, the slot by number -/
theorem wp_append_liesD {o : Oper} (w : World) {t0 : Array Value} {df : List Deferred} {K : Act → World → Prop} (d : Nat) (hd : o.dst = some d) (s x : Operand) (t : TypeId)
    (ho : o.op = .call { callee := .builtin .append, args := #[s, x], argTypes := #[t, t] })
    (base : Nat) (e : TypeId) (i : TypeInfo) (z : Value) (size bytes : Nat) (ht : P.underlying t = some (.slice e)) (hi : P.info? e = some i) (hz : i.zero = some z)
    (hsize : i.size = size) (hby : i.bytes = bytes) (hzs : z.cells.size = size) (hsz : 0 < size)
    (v : Value) (n : Nat) (xs : List Value) (hs : Act.eval ⟨t0, df⟩ s = v) (hown : w.ownsRow base e size v n xs)
    (ad : Addr) (m c : Nat) (news : List Value) (hx : Act.eval ⟨t0, df⟩ x = .slice (some ad) m c) (hl : news.length = m * size) (hnews : ∀ j u, news[j]? = some u → w.cell? (ad.add j) = some u) (h1 : ∀ u ∈ news, u.oneCell' = true)
    (hm : 0 < m) (h63 : n + m ≤ maxLen) (hbytes : (n + m) * bytes ≤ 140737488355328) (hbase : base ≤ w.heap.size) (H : Nat) (hH : w.heap.size = H)
    (h : ∀ g cap w', w'.ownsRow base e size (.slice (some ⟨g, 0, none⟩) (n + m) cap) (n + m) (xs ++ news) → w.grownBy w' v.ownBlock → (v.ownBlock = some g ∨ g = H) → g < w'.heap.size → K ⟨t0.setIfInBounds d (.slice (some ⟨g, 0, none⟩) (n + m) cap), df⟩ w') : o.wp P ⟨t0, df⟩ w K Q :=
  wp_append_lies w s x t ho base e i z size bytes ht hi hz hsize hby hzs hsz v n xs hs hown ad m c news hx hl hnews h1 hm h63 hbytes hbase H hH (by rw [hd]; exact h)
end
end Go
