/- a ledger of what lies in memory; append from any source inside a region that draws -/
import Derived.Test.YtnhkngmdjomfjaaSrc
namespace Go.Proofs.Ytnhkngmdjomfjaa
open Go.RowKit

/-- bytes as cells -/
abbrev bcs (l : List Int) : List Value := l.map (Value.int .u8)
/-- below w0 nothing has turned, and the lists of F lie in w -/
structure Led (w0 w : World) (F : List (Option Addr × List Value)) : Prop where
  bel : Below w0.heap.size w0 w
  lies : ∀ (i : Nat) (A : Option Addr) (xs : List Value), F[i]? = some (A, xs) → Lies w A xs

section
variable {w0 w w' : World} {F : List (Option Addr × List Value)}
theorem Led.nil (w : World) : Led w w [] := ⟨Below.refl _ _, fun i A xs h => by simp at h⟩
theorem Led.below (h : Led w0 w F) (hb : Below w.heap.size w w') : Led w0 w' F :=
  ⟨h.bel.trans (hb.mono h.bel.size), fun i A xs e => (h.lies i A xs e).below hb⟩
theorem Led.alloc (h : Led w0 w F) (o : Obj) : Led w0 (w.alloc o) F :=
  ⟨h.bel.alloc h.bel.size o, fun i A xs e => (h.lies i A xs e).alloc o⟩
theorem Led.drewN (h : Led w0 w F) (n : Nat) : Led w0 (w.drewN n) F :=
  ⟨⟨h.bel.os, h.bel.tape, h.bel.output, h.bel.size, h.bel.block⟩, fun i A xs e => h.lies i A xs e⟩
theorem Led.drew (h : Led w0 w F) : Led w0 w.drew F :=
  ⟨⟨h.bel.os, h.bel.tape, h.bel.output, h.bel.size, h.bel.block⟩, fun i A xs e => h.lies i A xs e⟩
theorem Led.add (h : Led w0 w F) {A : Option Addr} {xs : List Value} (hl : Lies w A xs) : Led w0 w (F ++ [(A, xs)]) := ⟨h.bel, fun i A' xs' e => by
  rw [List.getElem?_append] at e
  split at e
  · exact h.lies i A' xs' e
  · rename_i hge
    have : i - F.length = 0 := by
      have := (List.getElem?_eq_some_iff.1 e).1
      simp at this; omega
    rw [this] at e
    simp at e
    obtain ⟨rfl, rfl⟩ := e
    exact hl⟩
/-- a block that is known whole -/
theorem Led.row (h : Led w0 w F) {g : Nat} {t : TypeId} {cs : Array Value} (hr : w.heap[g]? = some (.cells cs t (0, 0))) : Led w0 w (F ++ [(some ⟨g, 0, none⟩, cs.toList)]) :=
  h.add (fun _ => ⟨g, 0, rfl, row_lt hr, fun k u hu => by rw [Nat.zero_add, cell_of_row w g k _ _ _ hr]; simpa using hu⟩)
/-- a cell of a list -/
theorem Led.cell (h : Led w0 w F) (i : Nat) {b off : Nat} {xs : List Value} (e : F[i]? = some (some ⟨b, off, none⟩, xs)) (k : Nat) {u : Value} (hu : xs[k]? = some u) : w.cell? ⟨b, off + k, none⟩ = some u := by
  obtain ⟨b', off', e', _, hc⟩ := h.lies i _ _ e (by have := (List.getElem?_eq_some_iff.1 hu).1; omega)
  cases e'
  exact hc k u hu
theorem Led.grown (h : Led w0 w F) {row : Option Nat} (hg : w.grownBy w' row) (hr : ∀ k, row = some k → w0.heap.size ≤ k ∧ ∀ p ∈ F, ∀ b off, p.1 = some ⟨b, off, none⟩ → b ≠ k) : Led w0 w' F :=
  ⟨⟨hg.os.trans h.bel.os, hg.tape.trans h.bel.tape, hg.output.trans h.bel.output, Nat.le_trans h.bel.size hg.size, fun i hi => (hg.block i (Nat.lt_of_lt_of_le hi h.bel.size) (fun e => by have := (hr i e.symm).1; omega)).trans (h.bel.block i hi)⟩,
   fun i A xs e => (h.lies i A xs e).grown hg (fun b off e1 e2 => (hr b e2).2 _ (List.mem_of_getElem? e) b off e1 rfl)⟩
end

section
variable {P : Program} (w : World)
/-- append from a list that lies somewhere, nil let in: at the operation -/
theorem wp_append_src {o : Oper} {a : Act} {K : Act → World → Prop} {Q : Exit → Act → World → Prop} (s x : Operand) (t : TypeId)
    (ho : o.op = .call { callee := .builtin .append, args := #[s, x], argTypes := #[t, t] })
    (base : Nat) (e : TypeId) (i : TypeInfo) (z : Value) (size bytes : Nat) (ht : P.underlying t = some (.slice e)) (hi : P.info? e = some i) (hz : i.zero = some z)
    (hsize : i.size = size) (hby : i.bytes = bytes) (hzs : z.cells.size = size) (hsz : 0 < size)
    (v : Value) (n : Nat) (xs : List Value) (hs : a.eval s = v) (hown : w.ownsRow base e size v n xs)
    (A : Option Addr) (m c : Nat) (news : List Value) (hx : a.eval x = .slice A m c) (hA : A = none → c = 0) (hr : Lies w A news) (hl : news.length = m * size) (h1 : ∀ u ∈ news, u.oneCell' = true)
    (h63 : n + m ≤ maxLen) (hbytes : (n + m) * bytes ≤ 140737488355328) (hbase : base ≤ w.heap.size) (N : Nat) (hN : n + m = N)
    (h : ∀ A' c' w', w'.ownsRow base e size (.slice A' N c') N (xs ++ news) → w.grownBy w' v.ownBlock → ((Value.slice A' N c').ownBlock = v.ownBlock ∨ (Value.slice A' N c').ownBlock = some w.heap.size) → K (a.put o.dst (.slice A' N c')) w') : o.wp P a w K Q := by
  subst hN
  cases A with
  | none =>
    have hnil : news = [] := by
      rcases news with _ | ⟨u, l⟩
      · rfl
      · obtain ⟨b, off, e, _⟩ := hr (by simp); cases e
    subst hnil
    have hm : m = 0 := by
      rcases Nat.eq_zero_or_pos m with h0 | h0
      · exact h0
      · have := Nat.mul_pos h0 hsz; simp at hl; omega
    subst hm
    obtain rfl := hA rfl
    have hrun := run_append_owned_none (P := P) (w := w) base t o.type e i size ht hi v n xs hown
    unfold Oper.wp
    simp [execOp, ho, resolve, invoke, builtin, hs, hx, hrun, Result.andThen]
    obtain ⟨A', c', rfl⟩ := own_slice hown
    exact h A' c' w (by simpa using hown) (World.grownBy.refl _ _) (.inl rfl)
  | some ad =>
    obtain ⟨v', w', hrun, h2, h3, _, h5⟩ := run_append_own_at (P := P) w base t o.type e i z size bytes ht hi hz hsize hby hzs hsz v n xs hown ad m c news hl (fun j u hu => hr.cells_add j u hu) h1 h63 hbytes hbase
    obtain ⟨A', c', rfl⟩ := own_slice h2
    unfold Oper.wp execOp
    simp only [ho, resolve, invoke, builtin, Sem.run_bind, Sem.run_pure, Result.andThen_ok, List.map_toArray, List.map_cons, List.map_nil, hs, hx, hrun]
    exact h A' c' w' h2 h3 h5
/-- the same in a plain region, at a guarded operation -/
theorem wpList_append_srcG {ops : Array Oper} {rest : List Oper} {o : Oper} {a : Act} {Q : Exit → Act → World → Prop} (hw : Region.wanted o (yielded ops a.tmps) = true) (s x : Operand) (t : TypeId)
    (ho : o.op = .call { callee := .builtin .append, args := #[s, x], argTypes := #[t, t] })
    (base : Nat) (e : TypeId) (i : TypeInfo) (z : Value) (size bytes : Nat) (ht : P.underlying t = some (.slice e)) (hi : P.info? e = some i) (hz : i.zero = some z)
    (hsize : i.size = size) (hby : i.bytes = bytes) (hzs : z.cells.size = size) (hsz : 0 < size)
    (v : Value) (n : Nat) (xs : List Value) (hs : a.eval s = v) (hown : w.ownsRow base e size v n xs)
    (A : Option Addr) (m c : Nat) (news : List Value) (hx : a.eval x = .slice A m c) (hA : A = none → c = 0) (hr : Lies w A news) (hl : news.length = m * size) (h1 : ∀ u ∈ news, u.oneCell' = true)
    (h63 : n + m ≤ maxLen) (hbytes : (n + m) * bytes ≤ 140737488355328) (hbase : base ≤ w.heap.size) (N : Nat) (hN : n + m = N)
    (h : ∀ A' c' w', w'.ownsRow base e size (.slice A' N c') N (xs ++ news) → w.grownBy w' v.ownBlock → ((Value.slice A' N c').ownBlock = v.ownBlock ∨ (Value.slice A' N c').ownBlock = some w.heap.size) → wpList P ops Q rest (a.put o.dst (.slice A' N c')) w') :
    wpList P ops Q (o :: rest) a w :=
  wpList_step fun K hK => by
    rw [if_pos hw]
    exact wp_append_src w s x t ho base e i z size bytes ht hi hz hsize hby hzs hsz v n xs hs hown A m c news hx hA hr hl h1 h63 hbytes hbase N hN fun A' c' w' h2 h3 h4 => hK _ _ (h A' c' w' h2 h3 h4)
/-- the same at a step of a region that draws -/
theorem step_append_src {ops : Array Oper} {o : Oper} {a : Act} {K : Act → World → Prop} {Q : Exit → Act → World → Prop} {E : Prop} (hgd : o.guard = none) (s x : Operand) (t : TypeId)
    (ho : o.op = .call { callee := .builtin .append, args := #[s, x], argTypes := #[t, t] })
    (base : Nat) (e : TypeId) (i : TypeInfo) (z : Value) (size bytes : Nat) (ht : P.underlying t = some (.slice e)) (hi : P.info? e = some i) (hz : i.zero = some z)
    (hsize : i.size = size) (hby : i.bytes = bytes) (hzs : z.cells.size = size) (hsz : 0 < size)
    (v : Value) (n : Nat) (xs : List Value) (hs : a.eval s = v) (hown : w.ownsRow base e size v n xs)
    (A : Option Addr) (m c : Nat) (news : List Value) (hx : a.eval x = .slice A m c) (hA : A = none → c = 0) (hr : Lies w A news) (hl : news.length = m * size) (h1 : ∀ u ∈ news, u.oneCell' = true)
    (h63 : n + m ≤ maxLen) (hbytes : (n + m) * bytes ≤ 140737488355328) (hbase : base ≤ w.heap.size) (N : Nat) (hN : n + m = N)
    (h : ∀ A' c' w', w'.ownsRow base e size (.slice A' N c') N (xs ++ news) → w.grownBy w' v.ownBlock → ((Value.slice A' N c').ownBlock = v.ownBlock ∨ (Value.slice A' N c').ownBlock = some w.heap.size) → K (a.put o.dst (.slice A' N c')) w') :
    if Region.wanted o (yielded ops a.tmps) = true then Oper.wp P o a w K Q else E := by
  have hw : Region.wanted o (yielded ops a.tmps) = true := by simp [Region.wanted, hgd]
  rw [if_pos hw]
  exact wp_append_src w s x t ho base e i z size bytes ht hi hz hsize hby hzs hsz v n xs hs hown A m c news hx hA hr hl h1 h63 hbytes hbase N hN h
end
end Go.Proofs.Ytnhkngmdjomfjaa
