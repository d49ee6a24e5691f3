/- a ledger of what lies in memory; append from any source inside a region that draws -/
import Derived.Test.YtnflpnbpigcfhaaSrc
import Derived.ArgAppend
namespace Go.Proofs.Ytnflpnbpigcfhaa
open Go.RowKit

/-- bytes as cells -/
abbrev bcs (l : List Int) : List Value := l.map (Value.int .u8)
/-- below w0 nothing has turned, and the lists of F lie in w -/
structure Led (w0 w : World) (F : List (Option Addr × List Value)) : Prop where
  bel : Below w0.heap.size w0 w
  lies : ∀ (i : Nat) (A : Option Addr) (xs : List Value), F[i]? = some (A, xs) → Lies w A xs

section
variable {w0 w w' : World} {F : List (Option Addr × List Value)}
theorem Led.nil (w : World) : Led w w [] := ⟨Below.refl _ _, fun i A xs h => by simp at h⟩
theorem Led.below (h : Led w0 w F) (hb : Below w.heap.size w w') : Led w0 w' F :=
  ⟨h.bel.trans (hb.mono h.bel.size), fun i A xs e => (h.lies i A xs e).below hb⟩
theorem Led.alloc (h : Led w0 w F) (o : Obj) : Led w0 (w.alloc o) F :=
  ⟨h.bel.alloc h.bel.size o, fun i A xs e => (h.lies i A xs e).alloc o⟩
theorem Led.drewN (h : Led w0 w F) (n : Nat) : Led w0 (w.drewN n) F :=
  ⟨⟨h.bel.os, h.bel.tape, h.bel.output, h.bel.size, h.bel.block⟩, fun i A xs e => h.lies i A xs e⟩
theorem Led.drew (h : Led w0 w F) : Led w0 w.drew F :=
  ⟨⟨h.bel.os, h.bel.tape, h.bel.output, h.bel.size, h.bel.block⟩, fun i A xs e => h.lies i A xs e⟩
theorem Led.add (h : Led w0 w F) {A : Option Addr} {xs : List Value} (hl : Lies w A xs) : Led w0 w (F ++ [(A, xs)]) := ⟨h.bel, fun i A' xs' e => by
  rw [List.getElem?_append] at e
  split at e
  · exact h.lies i A' xs' e
  · rename_i hge
    have : i - F.length = 0 := by
      have := (List.getElem?_eq_some_iff.1 e).1
      simp at this; omega
    rw [this] at e
    simp at e
    obtain ⟨rfl, rfl⟩ := e
    exact hl⟩
/-- a block that is known whole -/
theorem Led.row (h : Led w0 w F) {g : Nat} {t : TypeId} {cs : Array Value} (hr : w.heap[g]? = some (.cells cs t (0, 0))) : Led w0 w (F ++ [(some ⟨g, 0, none⟩, cs.toList)]) :=
  h.add (fun _ => ⟨g, 0, rfl, row_lt hr, fun k u hu => by rw [Nat.zero_add, cell_of_row w g k _ _ _ hr]; simpa using hu⟩)
/-- a cell of a list -/
theorem Led.cell (h : Led w0 w F) (i : Nat) {b off : Nat} {xs : List Value} (e : F[i]? = some (some ⟨b, off, none⟩, xs)) (k : Nat) {u : Value} (hu : xs[k]? = some u) : w.cell? ⟨b, off + k, none⟩ = some u := by
  obtain ⟨b', off', e', _, hc⟩ := h.lies i _ _ e (by have := (List.getElem?_eq_some_iff.1 hu).1; omega)
  cases e'
  exact hc k u hu
theorem Led.grown (h : Led w0 w F) {row : Option Nat} (hg : w.grownBy w' row) (hr : ∀ k, row = some k → w0.heap.size ≤ k ∧ ∀ p ∈ F, ∀ b off, p.1 = some ⟨b, off, none⟩ → b ≠ k) : Led w0 w' F :=
  ⟨⟨hg.os.trans h.bel.os, hg.tape.trans h.bel.tape, hg.output.trans h.bel.output, Nat.le_trans h.bel.size hg.size, fun i hi => (hg.block i (Nat.lt_of_lt_of_le hi h.bel.size) (fun e => by have := (hr i e.symm).1; omega)).trans (h.bel.block i hi)⟩,
   fun i A xs e => (h.lies i A xs e).grown hg (fun b off e1 e2 => (hr b e2).2 _ (List.mem_of_getElem? e) b off e1 rfl)⟩
end

section
variable {P : Program} (w : World)
/-- append from a list that lies somewhere, nil let in: at the operation -/
theorem wp_append_src {o : Oper} {a : Act} {K : Act → World → Prop} {Q : Exit → Act → World → Prop} (s x : Operand) (t : TypeId)
    (ho : o.op = .call { callee := .builtin .append, args := #[s, x], argTypes := #[t, t] })
    (base : Nat) (e : TypeId) (i : TypeInfo) (z : Value) (size bytes : Nat) (ht : P.underlying t = some (.slice e)) (hi : P.info? e = some i) (hz : i.zero = some z)
    (hsize : i.size = size) (hby : i.bytes = bytes) (hzs : z.cells.size = size) (hsz : 0 < size)
    (v : Value) (n : Nat) (xs : List Value) (hs : a.eval s = v) (hown : w.ownsRow base e size v n xs)
    (A : Option Addr) (m c : Nat) (news : List Value) (hx : a.eval x = .slice A m c) (hA : A = none → c = 0) (hr : Lies w A news) (hl : news.length = m * size) (h1 : ∀ u ∈ news, u.oneCell' = true)
    (h63 : n + m ≤ maxLen) (hbytes : (n + m) * bytes ≤ 140737488355328) (hbase : base ≤ w.heap.size) (N : Nat) (hN : n + m = N)
    (h : ∀ A' c' w', w'.ownsRow base e size (.slice A' N c') N (xs ++ news) → w.grownBy w' v.ownBlock → ((Value.slice A' N c').ownBlock = v.ownBlock ∨ (Value.slice A' N c').ownBlock = some w.heap.size) → K (a.put o.dst (.slice A' N c')) w') : o.wp P a w K Q := by
  subst hN
  cases A with
  | none =>
    have hnil : news = [] := by
      rcases news with _ | ⟨u, l⟩
      · rfl
      · obtain ⟨b, off, e, _⟩ := hr (by simp); cases e
    subst hnil
    have hm : m = 0 := by
      rcases Nat.eq_zero_or_pos m with h0 | h0
      · exact h0
      · have := Nat.mul_pos h0 hsz; simp at hl; omega
    subst hm
    obtain rfl := hA rfl
    have hrun := run_append_owned_none (P := P) (w := w) base t o.type e i size ht hi v n xs hown
    unfold Oper.wp
    simp [execOp, ho, resolve, invoke, builtin, hs, hx, hrun, Result.andThen]
    obtain ⟨A', c', rfl⟩ := own_slice hown
    exact h A' c' w (by simpa using hown) (World.grownBy.refl _ _) (.inl rfl)
  | some ad =>
    obtain ⟨v', w', hrun, h2, h3, _, h5⟩ := run_append_own_at (P := P) w base t o.type e i z size bytes ht hi hz hsize hby hzs hsz v n xs hown ad m c news hl (fun j u hu => hr.cells_add j u hu) h1 h63 hbytes hbase
    obtain ⟨A', c', rfl⟩ := own_slice h2
    unfold Oper.wp execOp
    simp only [ho, resolve, invoke, builtin, Sem.run_bind, Sem.run_pure, Result.andThen_ok, List.map_toArray, List.map_cons, List.map_nil, hs, hx, hrun]
    exact h A' c' w' h2 h3 h5
/-- the same in a plain region, at a guarded operation -/
theorem wpList_append_srcG {ops : Array Oper} {rest : List Oper} {o : Oper} {a : Act} {Q : Exit → Act → World → Prop} (hw : Region.wanted o (yielded ops a.tmps) = true) (s x : Operand) (t : TypeId)
    (ho : o.op = .call { callee := .builtin .append, args := #[s, x], argTypes := #[t, t] })
    (base : Nat) (e : TypeId) (i : TypeInfo) (z : Value) (size bytes : Nat) (ht : P.underlying t = some (.slice e)) (hi : P.info? e = some i) (hz : i.zero = some z)
    (hsize : i.size = size) (hby : i.bytes = bytes) (hzs : z.cells.size = size) (hsz : 0 < size)
    (v : Value) (n : Nat) (xs : List Value) (hs : a.eval s = v) (hown : w.ownsRow base e size v n xs)
    (A : Option Addr) (m c : Nat) (news : List Value) (hx : a.eval x = .slice A m c) (hA : A = none → c = 0) (hr : Lies w A news) (hl : news.length = m * size) (h1 : ∀ u ∈ news, u.oneCell' = true)
    (h63 : n + m ≤ maxLen) (hbytes : (n + m) * bytes ≤ 140737488355328) (hbase : base ≤ w.heap.size) (N : Nat) (hN : n + m = N)
    (h : ∀ A' c' w', w'.ownsRow base e size (.slice A' N c') N (xs ++ news) → w.grownBy w' v.ownBlock → ((Value.slice A' N c').ownBlock = v.ownBlock ∨ (Value.slice A' N c').ownBlock = some w.heap.size) → wpList P ops Q rest (a.put o.dst (.slice A' N c')) w') :
    wpList P ops Q (o :: rest) a w :=
  wpList_step fun K hK => by
    rw [if_pos hw]
    exact wp_append_src w s x t ho base e i z size bytes ht hi hz hsize hby hzs hsz v n xs hs hown A m c news hx hA hr hl h1 h63 hbytes hbase N hN fun A' c' w' h2 h3 h4 => hK _ _ (h A' c' w' h2 h3 h4)
/-- the same at a step of a region that draws -/
theorem step_append_src {ops : Array Oper} {o : Oper} {a : Act} {K : Act → World → Prop} {Q : Exit → Act → World → Prop} {E : Prop} (hgd : o.guard = none) (s x : Operand) (t : TypeId)
    (ho : o.op = .call { callee := .builtin .append, args := #[s, x], argTypes := #[t, t] })
    (base : Nat) (e : TypeId) (i : TypeInfo) (z : Value) (size bytes : Nat) (ht : P.underlying t = some (.slice e)) (hi : P.info? e = some i) (hz : i.zero = some z)
    (hsize : i.size = size) (hby : i.bytes = bytes) (hzs : z.cells.size = size) (hsz : 0 < size)
    (v : Value) (n : Nat) (xs : List Value) (hs : a.eval s = v) (hown : w.ownsRow base e size v n xs)
    (A : Option Addr) (m c : Nat) (news : List Value) (hx : a.eval x = .slice A m c) (hA : A = none → c = 0) (hr : Lies w A news) (hl : news.length = m * size) (h1 : ∀ u ∈ news, u.oneCell' = true)
    (h63 : n + m ≤ maxLen) (hbytes : (n + m) * bytes ≤ 140737488355328) (hbase : base ≤ w.heap.size) (N : Nat) (hN : n + m = N)
    (h : ∀ A' c' w', w'.ownsRow base e size (.slice A' N c') N (xs ++ news) → w.grownBy w' v.ownBlock → ((Value.slice A' N c').ownBlock = v.ownBlock ∨ (Value.slice A' N c').ownBlock = some w.heap.size) → K (a.put o.dst (.slice A' N c')) w') :
    if Region.wanted o (yielded ops a.tmps) = true then Oper.wp P o a w K Q else E := by
  have hw : Region.wanted o (yielded ops a.tmps) = true := by simp [Region.wanted, hgd]
  rw [if_pos hw]
  exact wp_append_src w s x t ho base e i z size bytes ht hi hz hsize hby hzs hsz v n xs hs hown A m c news hx hA hr hl h1 h63 hbytes hbase N hN h
end
theorem Lies.past {wa w w' : World} {A : Option Addr} {xs : List Value} {p : Nat} (ha : Lies wa A xs) (h : Lies w A xs) (hg : w.grownBy w' (some p)) (hp : wa.heap.size ≤ p) : Lies w' A xs := fun h0 => by
  obtain ⟨b, off, e, hb, hc⟩ := ha h0
  exact h.grown hg (fun b' off' e' e2 => by
    rw [e] at e'
    injection e' with e'
    injection e' with e3 _ _
    injection e2 with e2
    omega) h0
theorem Led.past {w0 wa w w' : World} {F : List (Option Addr × List Value)} {p : Nat} (ha : Led w0 wa F) (h : Led w0 w F) (hg : w.grownBy w' (some p)) (hp : wa.heap.size ≤ p) : Led w0 w' F :=
  ⟨h.bel.trans (Below.of_only hg h.bel.size (Nat.le_trans ha.bel.size hp)), fun i A xs e => (ha.lies i A xs e).past (h.lies i A xs e) hg hp⟩
theorem only_none {w w' : World} (hb : Below w.heap.size w w') : w.grownBy w' none := ⟨hb.os, hb.tape, hb.output, hb.size, fun i hi _ => hb.block i hi⟩
theorem below_none {w w' : World} (h : w.grownBy w' none) : Below w.heap.size w w' := ⟨h.os, h.tape, h.output, h.size, fun i hi => h.block i hi (by simp)⟩
theorem below_undrew {w w' : World} (h : Below w.drew.heap.size w.drew w') : Below w.heap.size w w' := ⟨h.os, h.tape, h.output, h.size, h.block⟩
theorem own_below {w w' : World} {base : Nat} {e : TypeId} {size n : Nat} {v : Value} {xs : List Value} (h : w.ownsRow base e size v n xs) (hb : Below w.heap.size w w') : w'.ownsRow base e size v n xs :=
  h.kept (only_none hb) (by cases hx : v.ownBlock <;> simp)
/-- what is owned stays if another row turns -/
theorem own_apart {w w' : World} {base : Nat} {e : TypeId} {size n : Nat} {v : Value} {xs : List Value} {row : Option Nat} (h : w.ownsRow base e size v n xs) (hg : w.grownBy w' row) (hr : ∀ k, v.ownBlock = some k → row ≠ some k) : w'.ownsRow base e size v n xs :=
  h.kept hg (by
    cases hx : v.ownBlock with
    | none => exact .inl rfl
    | some k => exact .inr (fun e => hr k hx e.symm))
/-- a row that the call owns, or one without spare room that may be marked -/
def OwnFull (w : World) (base : Nat) (e : TypeId) (size : Nat) (A : Option Addr) (n c : Nat) (xs : List Value) : Prop :=
  w.ownsRow base e size (.slice A n c) n xs ∨ (c = n ∧ xs.length = n * size ∧ ∃ g cs fr, A = some ⟨g, 0, none⟩ ∧ base ≤ g ∧ w.heap[g]? = some (.cells cs e fr) ∧ ∀ (j : Nat) (u : Value), xs[j]? = some u → cs[j]? = some u)
theorem OwnFull.lies {w : World} {base : Nat} {e : TypeId} {size n c : Nat} {A : Option Addr} {xs : List Value} (h : OwnFull w base e size A n c xs) : Lies w A xs := by
  rcases h with h | ⟨_, _, g, cs, fr, rfl, _, hg, hc⟩
  · exact Lies.of_own h
  · exact fun _ => ⟨g, 0, rfl, (Array.getElem?_eq_some_iff.1 hg).1, fun k u hu => by rw [Nat.zero_add, cell_of_row w g k _ _ _ hg]; exact hc k u hu⟩
theorem OwnFull.alloc {w : World} {base : Nat} {e : TypeId} {size n c : Nat} {A : Option Addr} {xs : List Value} (h : OwnFull w base e size A n c xs) (o : Obj) : OwnFull (w.alloc o) base e size A n c xs := by
  rcases h with h | ⟨h1, h2, g, cs, fr, rfl, h3, hg, hc⟩
  · exact .inl (h.alloc _)
  · exact .inr ⟨h1, h2, g, cs, fr, rfl, h3, (Below.heap_alloc w o g (Array.getElem?_eq_some_iff.1 hg).1).trans hg, hc⟩
theorem OwnFull.lt {w : World} {base : Nat} {e : TypeId} {size n c : Nat} {A : Option Addr} {xs : List Value} (h : OwnFull w base e size A n c xs) : ∀ k, (Value.slice A n c).ownBlock = some k → base ≤ k ∧ k < w.heap.size := by
  rcases h with h | ⟨_, _, g, cs, fr, rfl, h3, hg, _⟩
  · exact h.lt
  · intro k hk; simp [Value.ownBlock] at hk; have := (Array.getElem?_eq_some_iff.1 hg).1; omega
theorem OwnFull.ne {w : World} {base : Nat} {e t : TypeId} {size n c : Nat} {A : Option Addr} {xs : List Value} (h : OwnFull w base e size A n c xs) {k b : Nat} (hk : (Value.slice A n c).ownBlock = some k) {cs : Array Value} (hb : w.heap[b]? = some (.cells cs t (0, 0))) (hne : e ≠ t) : k ≠ b := by
  rintro rfl
  have key : ∃ cur fr, w.heap[k]? = some (.cells cur e fr) := by
    rcases h with h | ⟨_, _, g, cs, fr, rfl, h3, hg, _⟩
    · rcases h.2 with ⟨e1, _⟩ | ⟨g, cap, cur, e1, _, hg, _⟩
      · rw [e1] at hk; simp [Value.ownBlock] at hk
      · rw [e1] at hk
        simp [Value.ownBlock] at hk
        subst hk
        exact ⟨cur, _, hg⟩
    · simp [Value.ownBlock] at hk; subst hk; exact ⟨cs, fr, hg⟩
  obtain ⟨cur, fr, h1⟩ := key
  rw [h1] at hb
  injection hb with hb
  injection hb with _ h2 _
  exact hne h2
/-- append of something to such a row -/
theorem wpList_append_full {P : Program} (w : World) {ops : Array Oper} {rest : List Oper} {o : Oper} {a : Act} {Q : Exit → Act → World → Prop} (hgd : o.guard = none) (s x : Operand) (t : TypeId)
    (ho : o.op = .call { callee := .builtin .append, args := #[s, x], argTypes := #[t, t] })
    (base : Nat) (e : TypeId) (i : TypeInfo) (z : Value) (size bytes : Nat) (ht : P.underlying t = some (.slice e)) (hi : P.info? e = some i) (hz : i.zero = some z)
    (hsize : i.size = size) (hby : i.bytes = bytes) (hzs : z.cells.size = size) (hsz : 0 < size)
    (A0 : Option Addr) (n c0 : Nat) (xs : List Value) (hs : a.eval s = .slice A0 n c0) (hown : OwnFull w base e size A0 n c0 xs)
    (ad : Addr) (m c : Nat) (news : List Value) (hx : a.eval x = .slice (some ad) m c) (hr : Lies w (some ad) news) (hl : news.length = m * size) (h1 : ∀ u ∈ news, u.oneCell' = true) (hm : 0 < m)
    (h63 : n + m ≤ maxLen) (hbytes : (n + m) * bytes ≤ 140737488355328) (hbase : base ≤ w.heap.size) (N : Nat) (hN : n + m = N)
    (h : ∀ A' c' w', w'.ownsRow base e size (.slice A' N c') N (xs ++ news) → w.grownBy w' (Value.slice A0 n c0).ownBlock → ((Value.slice A' N c').ownBlock = (Value.slice A0 n c0).ownBlock ∨ ∀ k, (Value.slice A' N c').ownBlock = some k → w.heap.size ≤ k) → wpList P ops Q rest (a.put o.dst (.slice A' N c')) w') :
    wpList P ops Q (o :: rest) a w := by
  rcases hown with hown | ⟨hc, hlx, g, cs, fr, rfl, hb, hg, hcell⟩
  · refine wpList_append_srcG w (by simp [Region.wanted, hgd]) s x t ho base e i z size bytes ht hi hz hsize hby hzs hsz _ n xs hs hown (some ad) m c news hx (fun e => by cases e) hr hl h1 h63 hbytes hbase N hN ?_
    intro A' c' w' h2 h3 h4
    refine h A' c' w' h2 h3 ?_
    rcases h4 with h4 | h4
    · exact .inl h4
    · exact .inr (fun k hk => by rw [h4] at hk; injection hk with hk; omega)
  · subst hN
    refine wpList_append_grows w hgd s x t ho e i z size bytes ht hi hz hsize hby hzs hsz (some ⟨g, 0, none⟩) n c0 xs hs (fun e => by cases e) hlx (fun b e j u hu => by cases e; rw [Addr.add_lit, Nat.zero_add, cell_of_row w g j _ _ _ hg]; exact hcell j u hu) ad m c news hx hl (fun j u hu => hr.cells_add j u hu) h1 (by omega) h63 hbytes ?_
    intro v' w' h2 h3
    obtain ⟨A', c', rfl⟩ := own_slice h2
    refine h A' c' w' (ownsRow_le h2 hbase) ⟨h3.os, h3.tape, h3.output, h3.size, fun k hk _ => h3.block k hk (by simp)⟩ (.inr (fun k hk => (h2.lt k hk).1))
theorem own_cap {w : World} {base : Nat} {e : TypeId} {size n c : Nat} {A : Option Addr} {xs : List Value} (h : w.ownsRow base e size (.slice A n c) n xs) : n ≤ c := by
  rcases h.2 with ⟨e1, e2⟩ | ⟨gg, cap, cur, e1, _, _, e2, _⟩
  · injection e1 with _ e3 _; omega
  · injection e1 with _ _ e3; omega
/-- two rows that are owned and turn -/
theorem only_two {V w1 w2 : World} {p : Nat} {row : Option Nat} (h : V.grownBy w1 (some p)) (hg : w1.grownBy w2 row) (hr : ∀ k, row = some k → V.heap.size ≤ k) : V.grownBy w2 (some p) := only_grown h hg hr

theorem Led.pastR {w0 wa w w' : World} {F : List (Option Addr × List Value)} {row : Option Nat} (ha : Led w0 wa F) (h : Led w0 w F) (hg : w.grownBy w' row) (hr : ∀ k, row = some k → wa.heap.size ≤ k) : Led w0 w' F := by
  cases row with
  | none => exact h.below (below_none hg)
  | some k => exact ha.past h hg (hr k rfl)
theorem ics_append (a b : List Int) : ics (a ++ b) = ics a ++ ics b := by simp [ics]
/-- what is new in a row stays apart from another row -/
theorem apart_next {new old other : Value} {H : Nat} (hat : new.ownBlock = old.ownBlock ∨ new.ownBlock = some H) (hap : ∀ b, old.ownBlock = some b → other.ownBlock ≠ some b) (hlt : ∀ b, other.ownBlock = some b → b < H) : ∀ b, new.ownBlock = some b → other.ownBlock ≠ some b := fun b h1 h2 => by
  rcases hat with h | h
  · rw [h] at h1; exact hap b h1 h2
  · rw [h] at h1; injection h1 with h1; have := hlt b h2; omega
theorem apart_swap {a b : Value} (h : ∀ k, a.ownBlock = some k → b.ownBlock ≠ some k) : ∀ k, b.ownBlock = some k → a.ownBlock ≠ some k := fun k h1 h2 => h k h2 h1
theorem Led.belowR {w0 wa w w' : World} {F : List (Option Addr × List Value)} (ha : Led w0 wa F) (h : Led w0 w F) (hb : Below wa.heap.size w w') : Led w0 w' F :=
  ⟨h.bel.trans (hb.mono ha.bel.size), fun i A xs e h0 => by
    obtain ⟨b, off, eA, hbl, hc⟩ := ha.lies i A xs e h0
    obtain ⟨b', off', eA', hbl', hc'⟩ := h.lies i A xs e h0
    rw [eA] at eA'
    cases eA'
    exact ⟨b, off, eA, Nat.lt_of_lt_of_le hbl' hb.size, fun k u hu => (hb.cell (p := ⟨b, off + k, none⟩) hbl).trans (hc' k u hu)⟩⟩
end Go.Proofs.Ytnflpnbpigcfhaa
