/- Opening what comes in: cells that can be read, by the type. -/
import Derived.Test.YtnflpnbpigcfhabDoorMa
import Derived.ChangeArms
import Derived.Carry
import Derived.OpenShut
import Derived.ProofKit
namespace Go.Proofs.YtnflpnbpigcfhabDoor
open Go.RowKit Go.WideShapes

/-- the cells can be read as a value of a type -/
def Rd {H : Type} (enc : TypeId × Value → H) (P : Program) (w : World) (t : TypeId) (cs : List Value) : Prop :=
  ∃ fuel x, DataW.trod enc P w 0 (fun _ => true) true fuel t cs = some x

section
variable {α : Type} {H : Type} {enc : TypeId × Value → H} {P : Program} {w : World} {t e : TypeId} {cs : List Value}

theorem Rd.of {v : Value} {d : DataW H} {p : List MemPlace} (h : DataW.Trod enc P w 0 (fun _ => true) true t v d p) : Rd enc P w t v.cells.toList := by
  obtain ⟨fuel, hf⟩ := h
  exact ⟨fuel, _, hf⟩
theorem Rd.int {k : IntKind} (ht : P.underlying t = some (.int k)) (h : Rd enc P w t cs) : ∃ n, cs = [.int k n] ∧ k.min ≤ n ∧ n ≤ k.max := by
  obtain ⟨fuel, x, hf⟩ := h
  cases fuel with
  | zero => simp [DataW.trod] at hf
  | succ f =>
    unfold DataW.trod at hf
    rw [ht] at hf
    split at hf <;> simp_all
    rename_i h1
    obtain ⟨⟨rfl, hw⟩, _⟩ := hf
    subst h1
    simpa [Lit.wf] using hw
theorem Rd.bool (ht : P.underlying t = some .bool) (h : Rd enc P w t cs) : ∃ b, cs = [.bool b] := by
  obtain ⟨fuel, x, hf⟩ := h
  cases fuel with
  | zero => simp [DataW.trod] at hf
  | succ f =>
    unfold DataW.trod at hf
    rw [ht] at hf
    split at hf <;> simp_all
theorem Rd.string (ht : P.underlying t = some .string) (h : Rd enc P w t cs) : ∃ s, cs = [.string s] ∧ s.size ≤ maxLen := by
  obtain ⟨fuel, x, hf⟩ := h
  cases fuel with
  | zero => simp [DataW.trod] at hf
  | succ f =>
    unfold DataW.trod at hf
    rw [ht] at hf
    split at hf <;> simp_all
theorem Rd.struct {fs : Array Field} (ht : P.underlying t = some (.struct fs)) (h : Rd enc P w t cs) :
    cs.length = P.cellsOf t ∧ ∀ (i : Nat) (f : Field), fs[i]? = some f → Rd enc P w f.type ((cs.drop f.offset).take (P.cellsOf f.type)) := by
  obtain ⟨fuel, x, hf⟩ := h
  obtain ⟨xs, n, _, _, hl, hlen, hall⟩ := DataW.trod_struct ht hf
  refine ⟨hl, fun i f hi => ?_⟩
  have h1 : i < xs.length := by rw [hlen]; exact (Array.getElem?_eq_some_iff.1 hi).1
  exact ⟨n, xs[i], (hall i f hi).trans (List.getElem?_eq_getElem h1)⟩
theorem chunk {elem : α → List Value} {S : Nat} : ∀ (l : List α) (a : Addr), (∀ i x, l[i]? = some x → (elem x).length = S ∧ ∀ j, j < S → w.cell? (a.add (i * S + j)) = (elem x)[j]?) →
    ∀ k u, (l.flatMap elem)[k]? = some u → w.cell? (a.add k) = some u := by
  intro l
  induction l with
  | nil => intro a _ k u h; simp at h
  | cons x xs ih =>
    intro a h k u hk
    obtain ⟨h1, h2⟩ := h 0 x rfl
    rw [List.flatMap_cons, List.getElem?_append] at hk
    split at hk <;> rename_i hlt
    · rw [h1] at hlt
      have := h2 k hlt
      rw [Nat.zero_mul, Nat.zero_add, hk] at this
      exact this
    · rw [h1] at hk hlt
      have h3 := ih (a.add S) (fun i y hy => by
        obtain ⟨g1, g2⟩ := h (i + 1) y (by simpa using hy)
        refine ⟨g1, fun j hj => ?_⟩
        rw [Addr.add_add, ← g2 j hj]
        congr 2
        rw [Nat.succ_mul]; omega) (k - S) u hk
      rw [Addr.add_add] at h3
      rwa [show S + (k - S) = k by omega] at h3

/-- a slice whose elements read as elem says -/
theorem Rd.slice {α : Type} {S : Nat} (ht : P.underlying t = some (.slice e)) (hS : P.cellsOf e = S) (elem : α → List Value) (Pr : α → Prop)
    (he : ∀ cs, Rd enc P w e cs → ∃ a, cs = elem a ∧ Pr a) (h : Rd enc P w t cs) :
    ∃ A c, ∃ l : List α, cs = [.slice A l.length c] ∧ Lies w A (l.flatMap elem) ∧ (A = none → c = 0 ∧ l = []) ∧ l.length ≤ 9223372036854775807 ∧ l.length ≤ c ∧ (∀ a ∈ l, Pr a) := by
  obtain ⟨fuel, x, hf⟩ := h
  rcases DataW.trod_slice ht hf with ⟨rfl, _⟩ | ⟨a, len, cap, elems, rest, n, _, rfl, _, _, hl, hm, hlen, hel, _, _⟩
  · exact ⟨none, 0, [], rfl, Lies.nil _ _, fun _ => ⟨rfl, rfl⟩, by simp, by simp, by simp⟩
  · have key : ∀ i, i < len → ∃ y, Pr y ∧ (elem y).length = S ∧ ∀ j, j < S → w.cell? (a.add (i * S + j)) = (elem y)[j]? := by
      intro i hi
      have h1 := hel i hi
      rw [List.getElem?_eq_getElem (by omega)] at h1
      obtain ⟨es, h2, h3⟩ := Option.bind_eq_some_iff.1 h1
      obtain ⟨y, rfl, hy⟩ := he es ⟨n, _, h3⟩
      obtain ⟨_, h4, h5⟩ := World.cells?_some h2
      rw [hS] at h4 h5
      refine ⟨y, hy, h4, fun j hj => ?_⟩
      rw [← h5 j hj, Addr.add_add]
    have pick : ∀ m, m ≤ len → ∃ l : List α, l.length = m ∧ ∀ i y, l[i]? = some y → Pr y ∧ (elem y).length = S ∧ ∀ j, j < S → w.cell? (a.add (i * S + j)) = (elem y)[j]? := by
      intro m
      induction m with
      | zero => intro _; exact ⟨[], rfl, fun i y hy => by simp at hy⟩
      | succ m ih =>
        intro hm'
        obtain ⟨l, hl1, hl2⟩ := ih (by omega)
        obtain ⟨y, hy⟩ := key m (by omega)
        refine ⟨l ++ [y], by simp [hl1], fun i z hz => ?_⟩
        rw [List.getElem?_append] at hz
        split at hz
        · exact hl2 i z hz
        · rename_i hge
          have hi : i = m := by
            have := (List.getElem?_eq_some_iff.1 hz).1
            simp at this; omega
          subst hi
          rw [hl1, Nat.sub_self] at hz
          simp at hz
          subst hz
          exact hy
    obtain ⟨l, hll, hg⟩ := pick len (Nat.le_refl _)
    refine ⟨some a, cap, l, by rw [hll], fun h0 => ?_, fun h => by simp at h, ?_, by omega, fun y hy => ?_⟩
    · have hc := chunk (w := w) l a (fun i x hx => (hg i x hx).2)
      obtain ⟨u, hu⟩ : ∃ u, (l.flatMap elem)[0]? = some u := ⟨_, List.getElem?_eq_getElem h0⟩
      have h1 := hc 0 u hu
      obtain ⟨b, off, sp⟩ := a
      have hsp : sp = none := by
        cases sp with
        | none => rfl
        | some q =>
          exfalso
          simp [Addr.add, World.cell?] at h1
          split at h1 <;> simp_all
      subst hsp
      refine ⟨b, off, rfl, ?_, fun k u hk => ?_⟩
      · apply Decidable.byContradiction
        intro hb
        simp [Addr.add, World.cell?, hb] at h1
      · have := hc k u hk
        rwa [Addr.add_lit] at this
    · rw [hll]; unfold maxLen at hm; omega
    · obtain ⟨i, hi, rfl⟩ := List.getElem_of_mem hy
      exact (hg i _ (List.getElem?_eq_getElem hi)).1
theorem Rd.ints (ht : P.underlying t = some (.slice e)) (he : P.underlying e = some (.int .i64)) (hc : P.cellsOf e = 1) (h : Rd enc P w t cs) :
    ∃ A c l, cs = [.slice A l.length c] ∧ Lies w A (ics l) ∧ (A = none → c = 0 ∧ l = []) ∧ l.length ≤ 9223372036854775807 ∧ l.length ≤ c ∧ (∀ x ∈ l, -9223372036854775808 ≤ x ∧ x ≤ 9223372036854775807) := by
  obtain ⟨A, c, l, h1, h2, h3⟩ := h.slice ht hc (fun n => [Value.int .i64 n]) (fun n => -9223372036854775808 ≤ n ∧ n ≤ 9223372036854775807) (fun cs hcs => hcs.int he)
  refine ⟨A, c, l, h1, ?_, h3⟩
  have : (l.flatMap fun n => [Value.int .i64 n]) = ics l := by
    clear h1 h2 h3
    induction l with
    | nil => rfl
    | cons x xs ih => rw [List.flatMap_cons, ih]; rfl
  rwa [this] at h2
variable {v : Value} {d : DataW H} {p : List MemPlace} {r : Reach} {b0 : Nat}
theorem op_int (ht : P.underlying t = some (.int .i64)) (hv : Value.okWide P w r b0 t v) (h : DataW.Trod enc P w 0 (fun _ => true) true t v d p) : ∃ n, v = .int .i64 n ∧ -9223372036854775808 ≤ n ∧ n ≤ 9223372036854775807 := by
  obtain ⟨n, rfl⟩ := okWide_int ht hv
  obtain ⟨m, hm, h2⟩ := (Rd.of h).int ht
  simp [Value.cells] at hm
  subst hm
  exact ⟨n, rfl, h2⟩
theorem op_bool (ht : P.underlying t = some .bool) (hv : Value.okWide P w r b0 t v) : ∃ b, v = .bool b := okWide_bool ht hv
theorem op_ints (ht : P.underlying t = some (.slice e)) (he : P.underlying e = some (.int .i64)) (hc : P.cellsOf e = 1) (hv : Value.okWide P w r b0 t v) (h : DataW.Trod enc P w 0 (fun _ => true) true t v d p) :
    ∃ A c l, v = .slice A l.length c ∧ Lies w A (ics l) ∧ (A = none → c = 0 ∧ l = []) ∧ l.length ≤ 9223372036854775807 ∧ l.length ≤ c ∧ (∀ x ∈ l, -9223372036854775808 ≤ x ∧ x ≤ 9223372036854775807) := by
  obtain ⟨A', n', c', rfl⟩ := okWide_slice ht hv
  obtain ⟨A, c, l, h1, h2⟩ := (Rd.of h).ints ht he hc
  simp [Value.cells] at h1
  obtain ⟨rfl, rfl, rfl⟩ := h1
  exact ⟨A', c', l, rfl, h2⟩
theorem op_u8 (ht : P.underlying t = some (.int .u8)) (hv : Value.okWide P w r b0 t v) (h : DataW.Trod enc P w 0 (fun _ => true) true t v d p) : ∃ n, v = .int .u8 n ∧ 0 ≤ n ∧ n ≤ 255 := by
  obtain ⟨n, rfl⟩ := okWide_int ht hv
  obtain ⟨m, hm, h2⟩ := (Rd.of h).int ht
  simp [Value.cells] at hm
  subst hm
  exact ⟨n, rfl, h2⟩
theorem flat_one {k : IntKind} (l : List Int) : (l.flatMap fun n => [Value.int k n]) = l.map (Value.int k) := by
  induction l with
  | nil => rfl
  | cons x xs ih => rw [List.flatMap_cons, ih]; rfl
theorem op_bytes (ht : P.underlying t = some (.slice e)) (he : P.underlying e = some (.int .u8)) (hc : P.cellsOf e = 1) (hv : Value.okWide P w r b0 t v) (h : DataW.Trod enc P w 0 (fun _ => true) true t v d p) :
    ∃ A c l, v = .slice A l.length c ∧ Lies w A (bcs l) ∧ (A = none → c = 0 ∧ l = []) ∧ l.length ≤ 9223372036854775807 ∧ l.length ≤ c ∧ (∀ x ∈ l, 0 ≤ x ∧ x ≤ 255) := by
  obtain ⟨A', n', c', rfl⟩ := okWide_slice ht hv
  obtain ⟨A, c, l, h1, h2, h3⟩ := (Rd.of h).slice ht hc (fun n => [Value.int .u8 n]) (fun n => 0 ≤ n ∧ n ≤ 255) (fun cs hcs => hcs.int he)
  rw [flat_one] at h2
  simp [Value.cells] at h1
  obtain ⟨rfl, rfl, rfl⟩ := h1
  exact ⟨A', c', l, rfl, h2, h3⟩
theorem op_intss {e' : TypeId} (ht : P.underlying t = some (.slice e)) (he : P.underlying e = some (.slice e')) (he' : P.underlying e' = some (.int .i64)) (hc : P.cellsOf e = 1) (hc' : P.cellsOf e' = 1) (hv : Value.okWide P w r b0 t v) (h : DataW.Trod enc P w 0 (fun _ => true) true t v d p) :
    ∃ A c l, v = .slice A l.length c ∧ Lies w A (lcs l) ∧ (A = none → c = 0 ∧ l = []) ∧ l.length ≤ 9223372036854775807 ∧ l.length ≤ c ∧ (∀ x ∈ l, InOk w x) := by
  obtain ⟨A', n', c', rfl⟩ := okWide_slice ht hv
  obtain ⟨A, c, l, h1, h2, h3⟩ := (Rd.of h).slice ht hc (fun x : Option Addr × Nat × List Int => [Value.slice x.1 x.2.2.length x.2.1]) (InOk w) (fun cs hcs => by
    obtain ⟨A, c, l, rfl, q⟩ := hcs.ints he he' hc'
    exact ⟨(A, c, l), rfl, q⟩)
  have : (l.flatMap fun x : Option Addr × Nat × List Int => [Value.slice x.1 x.2.2.length x.2.1]) = lcs l := by
    clear h1 h2 h3
    induction l with
    | nil => rfl
    | cons x xs ih => rw [List.flatMap_cons, ih]; rfl
  rw [this] at h2
  simp [Value.cells] at h1
  obtain ⟨rfl, rfl, rfl⟩ := h1
  exact ⟨A', c', l, rfl, h2, h3⟩
/-- the cells can be read, and what is read is no longer than memory allows -/
def Rs {H : Type} (enc : TypeId × Value → H) (P : Program) (w : World) (t : TypeId) (cs : List Value) : Prop :=
  ∃ fuel x, DataW.trod enc P w 0 (fun _ => true) true fuel t cs = some x ∧ ∀ n ∈ x.1.weights P t, n ≤ reachBytes
theorem Rs.rd {t : TypeId} {cs : List Value} (h : Rs enc P w t cs) : Rd enc P w t cs := by
  obtain ⟨f, x, h, _⟩ := h; exact ⟨f, x, h⟩
theorem Rs.of {t : TypeId} {v : Value} {d : DataW H} {p : List MemPlace} (h : DataW.Trod enc P w 0 (fun _ => true) true t v d p) (hs : ∀ n ∈ d.weights P t, n ≤ reachBytes) : Rs enc P w t v.cells.toList := by
  obtain ⟨fuel, hf⟩ := h
  exact ⟨fuel, _, hf, hs⟩
theorem weights_all {e : TypeId} : ∀ {l : List (DataW H)} {d : DataW H}, d ∈ l → ∀ n ∈ d.weights P e, n ∈ DataW.weightsAll P e l
  | d0 :: l, d, hd, n, hn => by
    simp only [DataW.weightsAll, List.mem_append]
    rcases List.mem_cons.1 hd with rfl | h
    · exact .inl hn
    · exact .inr (weights_all h n hn)
  | [], _, hd, _, _ => by simp at hd
/-- a slice of what can be read: its length, and each element -/
theorem Rs.inner {t e : TypeId} {cs : List Value} (ht : P.underlying t = some (.slice e)) (h : Rs enc P w t cs) :
    cs = [.slice none 0 0] ∨ ∃ a len cap, cs = [.slice (some a) len cap] ∧ cap * P.bytesOf e ≤ reachBytes ∧ len ≤ cap ∧ cap ≤ maxLen ∧ ∀ i, i < len → ∃ es, w.cells? 0 (a.add (i * P.cellsOf e)) (P.cellsOf e) = some es ∧ Rs enc P w e es := by
  obtain ⟨fuel, x, hf, hs⟩ := h
  rcases DataW.trod_slice ht hf with ⟨rfl, _⟩ | ⟨a, len, cap, elems, rest, n, _, rfl, hx, _, hl, hm, hlen, hel, hsp, _⟩
  · exact .inl rfl
  · refine .inr ⟨a, len, cap, rfl, ?_, hl, hm, fun i hi => ?_⟩
    · have h1 := hs ((len + rest.length) * P.bytesOf e) (by rw [hx]; simp [DataW.weights, ht, hlen])
      have h2 := (hsp rfl).1
      rw [h2, show len + (cap - len) = cap by omega] at h1
      exact h1
    · have h1 := hel i hi
      rw [List.getElem?_eq_getElem (by omega)] at h1
      obtain ⟨es, h2, h3⟩ := Option.bind_eq_some_iff.1 h1
      refine ⟨es, h2, n, _, h3, fun m hm' => hs m ?_⟩
      rw [hx]
      simp only [DataW.weights, ht, List.mem_cons, List.mem_append]
      exact .inr (.inl (weights_all (List.mem_map.2 ⟨_, List.getElem_mem _, rfl⟩) m hm'))
theorem Rs.intS {t e : TypeId} {cs : List Value} (ht : P.underlying t = some (.slice e)) (he : P.underlying e = some (.int .i64)) (hc : P.cellsOf e = 1) (hby : P.bytesOf e = 8) (h : Rs enc P w t cs) :
    ∃ x : Inn, cs = [Value.slice x.1 x.2.2.length x.2.1] ∧ InOkS w x := by
  obtain ⟨A, c, l, rfl, q⟩ := h.rd.ints ht he hc
  refine ⟨(A, c, l), rfl, q, ?_⟩
  rcases h.inner ht with h1 | ⟨a, len, cap, h1, h2, _⟩
  · simp at h1; obtain ⟨_, _, rfl⟩ := h1; simp
  · simp at h1
    obtain ⟨_, _, rfl⟩ := h1
    rw [hby] at h2
    unfold reachBytes at h2
    exact h2
/-- the general opener of a slice: what holds of each element -/
theorem Rs.slice {α : Type} {S : Nat} {t e : TypeId} {cs : List Value} (ht : P.underlying t = some (.slice e)) (hS : P.cellsOf e = S) (elem : α → List Value) (Pr : α → Prop)
    (he : ∀ cs, Rs enc P w e cs → ∃ a, cs = elem a ∧ Pr a) (h : Rs enc P w t cs) :
    ∃ A c, ∃ l : List α, cs = [.slice A l.length c] ∧ Lies w A (l.flatMap elem) ∧ (A = none → c = 0 ∧ l = []) ∧ l.length ≤ 9223372036854775807 ∧ l.length ≤ c ∧ c * P.bytesOf e ≤ reachBytes ∧ (∀ a ∈ l, Pr a) := by
  rcases h.inner ht with rfl | ⟨a, len, cap, rfl, hw, hl, hm, hel⟩
  · exact ⟨none, 0, [], rfl, Lies.nil _ _, fun _ => ⟨rfl, rfl⟩, by simp, by simp, by simp, by simp⟩
  · have key : ∀ i, i < len → ∃ y, Pr y ∧ (elem y).length = S ∧ ∀ j, j < S → w.cell? (a.add (i * S + j)) = (elem y)[j]? := by
      intro i hi
      obtain ⟨es, h2, h3⟩ := hel i hi
      obtain ⟨y, rfl, hy⟩ := he es h3
      obtain ⟨_, h4, h5⟩ := World.cells?_some h2
      rw [hS] at h4 h5
      refine ⟨y, hy, h4, fun j hj => ?_⟩
      rw [← h5 j hj, Addr.add_add]
    have pick : ∀ m, m ≤ len → ∃ l : List α, l.length = m ∧ ∀ i y, l[i]? = some y → Pr y ∧ (elem y).length = S ∧ ∀ j, j < S → w.cell? (a.add (i * S + j)) = (elem y)[j]? := by
      intro m
      induction m with
      | zero => intro _; exact ⟨[], rfl, fun i y hy => by simp at hy⟩
      | succ m ih =>
        intro hm'
        obtain ⟨l, hl1, hl2⟩ := ih (by omega)
        obtain ⟨y, hy⟩ := key m (by omega)
        refine ⟨l ++ [y], by simp [hl1], fun i z hz => ?_⟩
        rw [List.getElem?_append] at hz
        split at hz
        · exact hl2 i z hz
        · rename_i hge
          have hi : i = m := by
            have := (List.getElem?_eq_some_iff.1 hz).1
            simp at this; omega
          subst hi
          rw [hl1, Nat.sub_self] at hz
          simp at hz
          subst hz
          exact hy
    obtain ⟨l, hll, hg⟩ := pick len (Nat.le_refl _)
    refine ⟨some a, cap, l, by rw [hll], fun h0 => ?_, fun h => by simp at h, ?_, by omega, hw, fun y hy => ?_⟩
    · have hc := chunk (w := w) l a (fun i x hx => (hg i x hx).2)
      obtain ⟨u, hu⟩ : ∃ u, (l.flatMap elem)[0]? = some u := ⟨_, List.getElem?_eq_getElem h0⟩
      have h1 := hc 0 u hu
      obtain ⟨b, off, sp⟩ := a
      have hsp : sp = none := by
        cases sp with
        | none => rfl
        | some q =>
          exfalso
          simp [Addr.add, World.cell?] at h1
          split at h1 <;> simp_all
      subst hsp
      refine ⟨b, off, rfl, ?_, fun k u hk => ?_⟩
      · apply Decidable.byContradiction
        intro hb
        simp [Addr.add, World.cell?, hb] at h1
      · have := hc k u hk
        rwa [Addr.add_lit] at this
    · rw [hll]; unfold maxLen at hm; omega
    · obtain ⟨i, hi, rfl⟩ := List.getElem_of_mem hy
      exact (hg i _ (List.getElem?_eq_getElem hi)).1
theorem flat_inn (l : List Inn) : (l.flatMap fun x : Inn => [Value.slice x.1 x.2.2.length x.2.1]) = lcs l := by
  induction l with
  | nil => rfl
  | cons x xs ih => rw [List.flatMap_cons, ih]; rfl
theorem op_intssS {e' : TypeId} (ht : P.underlying t = some (.slice e)) (he : P.underlying e = some (.slice e')) (he' : P.underlying e' = some (.int .i64)) (hc : P.cellsOf e = 1) (hc' : P.cellsOf e' = 1) (hby : P.bytesOf e' = 8) (hbz : P.bytesOf e = 24) (hv : Value.okWide P w r b0 t v) (h : DataW.Trod enc P w 0 (fun _ => true) true t v d p) (hs : ∀ n ∈ d.weights P t, n ≤ reachBytes) :
    ∃ A c l, v = .slice A l.length c ∧ Lies w A (lcs l) ∧ (A = none → c = 0 ∧ l = []) ∧ l.length ≤ 9223372036854775807 ∧ l.length ≤ c ∧ c * 24 ≤ 140737488351232 ∧ (∀ x ∈ l, InOkS w x) := by
  obtain ⟨A', n', c', rfl⟩ := okWide_slice ht hv
  obtain ⟨A, c, l, h1, h2, h3, h4, h5, h6, h7⟩ := (Rs.of h hs).slice ht hc (fun x : Inn => [Value.slice x.1 x.2.2.length x.2.1]) (InOkS w) (fun cs hcs => hcs.intS he he' hc' hby)
  rw [flat_inn] at h2
  simp [Value.cells] at h1
  obtain ⟨rfl, rfl, rfl⟩ := h1
  rw [hbz] at h6
  exact ⟨A', c', l, rfl, h2, h3, h4, h5, h6, h7⟩
theorem op_struct {fs : Array Field} {n : Nat} (ht : P.underlying t = some (.struct fs)) (hC : P.cellsOf t = n) (hv : Value.okWide P w r b0 t v) (h : DataW.Trod enc P w 0 (fun _ => true) true t v d p) :
    ∃ cs : List Value, v = .agg cs.toArray ∧ cs.length = n ∧ ∀ (i : Nat) (f : Field), fs[i]? = some f → Rd enc P w f.type ((cs.drop f.offset).take (P.cellsOf f.type)) := by
  obtain ⟨cs, rfl, hs⟩ := okWide_struct ht hv
  have h1 := (Rd.of h).struct ht
  refine ⟨cs.toList, by simp, by rw [← hC, ← hs]; simp, ?_⟩
  simpa [Value.cells] using h1.2
theorem op_rec {f0 f1 : Field} (ht : P.underlying t = some (.struct #[f0, f1])) (hC : P.cellsOf t = 2) (o0 : f0.offset = 0) (o1 : f1.offset = 1) (u0 : P.underlying f0.type = some (.int .i64)) (k0 : P.cellsOf f0.type = 1)
    (u1 : P.underlying f1.type = some (.slice e)) (k1 : P.cellsOf f1.type = 1) (he : P.underlying e = some (.int .i64)) (ke : P.cellsOf e = 1) (hv : Value.okWide P w r b0 t v) (h : DataW.Trod enc P w 0 (fun _ => true) true t v d p) :
    ∃ rate A c l, v = .agg #[.int .i64 rate, .slice A l.length c] ∧ (-9223372036854775808 ≤ rate ∧ rate ≤ 9223372036854775807) ∧ Lies w A (ics l) ∧ (A = none → c = 0 ∧ l = []) ∧ l.length ≤ 9223372036854775807 ∧ l.length ≤ c ∧ (∀ x ∈ l, -9223372036854775808 ≤ x ∧ x ≤ 9223372036854775807) := by
  obtain ⟨cs, rfl, hl, hf⟩ := op_struct ht hC hv h
  match cs, hl with
  | [a, b], _ =>
    have g0 := hf 0 f0 rfl
    have g1 := hf 1 f1 rfl
    rw [o0, k0] at g0
    rw [o1, k1] at g1
    obtain ⟨n, e0, hn⟩ := g0.int u0
    obtain ⟨A, c, l, e1, hr⟩ := g1.ints u1 he ke
    simp at e0 e1
    subst e0 e1
    exact ⟨n, A, c, l, rfl, hn, hr⟩
theorem op_seg {f0 f1 : Field} (ht : P.underlying t = some (.struct #[f0, f1])) (hC : P.cellsOf t = 2) (o0 : f0.offset = 0) (o1 : f1.offset = 1) (u0 : P.underlying f0.type = some (.int .i64)) (k0 : P.cellsOf f0.type = 1)
    (u1 : P.underlying f1.type = some (.int .i64)) (k1 : P.cellsOf f1.type = 1) (hv : Value.okWide P w r b0 t v) (h : DataW.Trod enc P w 0 (fun _ => true) true t v d p) :
    ∃ x y, v = .agg #[.int .i64 x, .int .i64 y] ∧ (-9223372036854775808 ≤ x ∧ x ≤ 9223372036854775807) ∧ (-9223372036854775808 ≤ y ∧ y ≤ 9223372036854775807) := by
  obtain ⟨cs, rfl, hl, hf⟩ := op_struct ht hC hv h
  match cs, hl with
  | [a, b], _ =>
    have g0 := hf 0 f0 rfl
    have g1 := hf 1 f1 rfl
    rw [o0, k0] at g0
    rw [o1, k1] at g1
    obtain ⟨n, e0, hn⟩ := g0.int u0
    obtain ⟨m, e1, hm⟩ := g1.int u1
    simp at e0 e1
    subst e0 e1
    exact ⟨n, m, rfl, hn, hm⟩
theorem op_gate {f0 f1 f2 f3 f4 f5 f6 : Field} (ht : P.underlying t = some (.struct #[f0, f1, f2, f3, f4, f5, f6])) (hC : P.cellsOf t = 7) (o0 : f0.offset = 0) (o1 : f1.offset = 1) (o2 : f2.offset = 2) (o3 : f3.offset = 3) (o4 : f4.offset = 4) (o5 : f5.offset = 5) (o6 : f6.offset = 6) (u0 : P.underlying f0.type = some (.int .i64)) (u1 : P.underlying f1.type = some (.int .i64)) (u2 : P.underlying f2.type = some (.int .i64)) (u3 : P.underlying f3.type = some (.int .i64)) (u4 : P.underlying f4.type = some (.int .i64)) (u5 : P.underlying f5.type = some (.int .i64)) (u6 : P.underlying f6.type = some (.int .i64)) (k : P.cellsOf f0.type = 1 ∧ P.cellsOf f1.type = 1 ∧ P.cellsOf f2.type = 1 ∧ P.cellsOf f3.type = 1 ∧ P.cellsOf f4.type = 1 ∧ P.cellsOf f5.type = 1 ∧ P.cellsOf f6.type = 1)
    (hv : Value.okWide P w r b0 t v) (h : DataW.Trod enc P w 0 (fun _ => true) true t v d p) :
    ∃ x0 x1 x2 x3 x4 x5 x6, v = .agg #[.int .i64 x0, .int .i64 x1, .int .i64 x2, .int .i64 x3, .int .i64 x4, .int .i64 x5, .int .i64 x6] ∧ (-9223372036854775808 ≤ x0 ∧ x0 ≤ 9223372036854775807) ∧ (-9223372036854775808 ≤ x1 ∧ x1 ≤ 9223372036854775807) ∧ (-9223372036854775808 ≤ x2 ∧ x2 ≤ 9223372036854775807) ∧ (-9223372036854775808 ≤ x3 ∧ x3 ≤ 9223372036854775807) ∧ (-9223372036854775808 ≤ x4 ∧ x4 ≤ 9223372036854775807) ∧ (-9223372036854775808 ≤ x5 ∧ x5 ≤ 9223372036854775807) ∧ (-9223372036854775808 ≤ x6 ∧ x6 ≤ 9223372036854775807) := by
  obtain ⟨cs, rfl, hl, hf⟩ := op_struct ht hC hv h
  obtain ⟨k0, k1, k2, k3, k4, k5, k6⟩ := k
  match cs, hl with
  | [a0, a1, a2, a3, a4, a5, a6], _ =>
    have g0 := hf 0 f0 rfl
    rw [o0, k0] at g0
    obtain ⟨n0, e0, hn0⟩ := g0.int u0
    simp at e0
    subst e0
    have g1 := hf 1 f1 rfl
    rw [o1, k1] at g1
    obtain ⟨n1, e1, hn1⟩ := g1.int u1
    simp at e1
    subst e1
    have g2 := hf 2 f2 rfl
    rw [o2, k2] at g2
    obtain ⟨n2, e2, hn2⟩ := g2.int u2
    simp at e2
    subst e2
    have g3 := hf 3 f3 rfl
    rw [o3, k3] at g3
    obtain ⟨n3, e3, hn3⟩ := g3.int u3
    simp at e3
    subst e3
    have g4 := hf 4 f4 rfl
    rw [o4, k4] at g4
    obtain ⟨n4, e4, hn4⟩ := g4.int u4
    simp at e4
    subst e4
    have g5 := hf 5 f5 rfl
    rw [o5, k5] at g5
    obtain ⟨n5, e5, hn5⟩ := g5.int u5
    simp at e5
    subst e5
    have g6 := hf 6 f6 rfl
    rw [o6, k6] at g6
    obtain ⟨n6, e6, hn6⟩ := g6.int u6
    simp at e6
    subst e6
    exact ⟨n0, n1, n2, n3, n4, n5, n6, rfl, hn0, hn1, hn2, hn3, hn4, hn5, hn6⟩
end
end Go.Proofs.YtnflpnbpigcfhabDoor
