/- the reference's rational numbers: what they are; integers made -/
import Derived.Test.YtnflpnbpigcfhabGreatDoorRNatB
namespace Go.Proofs.YtnflpnbpigcfhabGreatDoor
open Go.RowKit Ear

/-- a rational number as it lies -/
structure Fr where
  neg : Bool
  A : Option Addr
  c : Nat
  N : List Int
  B : Option Addr
  d : Nat
  D : List Int
abbrev Fr.val (x : Fr) : Value := .agg #[.bool x.neg, .slice x.A x.N.length x.c, .slice x.B x.D.length x.d]
structure Dg (w : World) (A : Option Addr) (c : Nat) (l : List Int) : Prop where
  lies : Lies w A (ucs l)
  dig : dgs l
  cap : l.length ≤ c
  nil : A = none → c = 0
structure FrOk (w : World) (x : Fr) : Prop where
  n : Dg w x.A x.c x.N
  d : Dg w x.B x.d x.D
theorem Dg.below {w w' : World} {A : Option Addr} {c : Nat} {l : List Int} (h : Dg w A c l) (hb : Below w.heap.size w w') : Dg w' A c l := ⟨h.lies.below hb, h.dig, h.cap, h.nil⟩
theorem Dg.nd {w : World} {A : Option Addr} {c : Nat} {l : List Int} (h : Dg w A c l) {v : Nat} (hv : vl l = v) : Dg w A c (nd v) := ⟨h.lies.ndl h.dig hv, dgs_nd v, Nat.le_trans (nd_le_len h.dig hv) h.cap, h.nil⟩
theorem Dg.none (w : World) : Dg w none 0 [] := ⟨Lies.nil _ _, fun x hx => by simp at hx, Nat.le_refl _, fun _ => rfl⟩
theorem FrOk.below {w w' : World} {x : Fr} (h : FrOk w x) (hb : Below w.heap.size w w') : FrOk w' x := ⟨h.n.below hb, h.d.below hb⟩
/-- the canonical denominator -/
def den (d : Nat) : List Int := if d = 1 then [] else nd d
/-- a rational number comes back, canonical -/
def RetFr (neg : Bool) (n d : Nat) (w : World) (e : Ending) (w' : World) : Prop :=
  ∃ x : Fr, e = .returned x.val ∧ FrOk w' x ∧ x.neg = neg ∧ x.N = nd n ∧ x.D = den d ∧ Below w.heap.size w w'
theorem bcell' {W w1 : World} (hb : Below W.heap.size W w1) : (∀ b o, b < W.heap.size → w1.cell? ⟨b, o, none⟩ = W.cell? ⟨b, o, none⟩) ∧ (∀ b o, b < W.heap.size → w1.frozen? ⟨b, o, none⟩ = W.frozen? ⟨b, o, none⟩) :=
  ⟨fun b o h => hb.cell (p := ⟨b, o, none⟩) h, fun b o h => hb.frozen (p := ⟨b, o, none⟩) h⟩
theorem dg_lit (w : World) (v : Int) (h : 0 ≤ v ∧ v ≤ 4294967295) (t : TypeId) : Dg (w.alloc (.cells #[.int .u32 v] t)) (some ⟨w.heap.size, 0, none⟩) 1 [v] :=
  ⟨lies_newu _ _ _, fun x hx => by simp at hx; subst hx; exact h, by simp, fun e => by cases e⟩

/-- the box of a result, fresh -/
def Bx (w : World) (k : Nat) : Prop := w.heap[k]? = some (.cells #[.bool false, .slice none 0 0, .slice none 0 0] 80 (0, 0))
theorem Bx.new (w : World) : Bx (w.alloc (.cells #[.bool false, .slice none 0 0, .slice none 0 0] 80)) w.heap.size := heap_alloc_new w _
theorem Bx.lt {w : World} {k : Nat} (h : Bx w k) : k < w.heap.size := (Array.getElem?_eq_some_iff.1 h).1
theorem Bx.below {w w' : World} {k : Nat} (h : Bx w k) (hb : Below w.heap.size w w') : Bx w' k := (hb.block k h.lt).trans h
theorem Bx.alloc {w : World} {k : Nat} (h : Bx w k) (o : Obj) : Bx (w.alloc o) k := h.below ((Below.refl _ w).alloc (Nat.le_refl _) o)
theorem Bx.facts {w : World} {k : Nat} (h : Bx w k) : w.cell? ⟨k, 0, none⟩ = some (.bool false) ∧ w.cell? ⟨k, 1, none⟩ = some (.slice none 0 0) ∧ w.cell? ⟨k, 2, none⟩ = some (.slice none 0 0) ∧ w.frozen? ⟨k, 0, none⟩ = false ∧ w.frozen? ⟨k, 1, none⟩ = false ∧ w.frozen? ⟨k, 2, none⟩ = false :=
  ⟨by rw [cell_of_row w k 0 _ _ _ h]; rfl, by rw [cell_of_row w k 1 _ _ _ h]; rfl, by rw [cell_of_row w k 2 _ _ _ h]; rfl, by simp [World.frozen?, show w.heap[k]? = _ from h], by simp [World.frozen?, show w.heap[k]? = _ from h], by simp [World.frozen?, show w.heap[k]? = _ from h]⟩
theorem Lies.apartBox {w w' : World} {A : Option Addr} {l : List Int} {k : Nat} (h : Lies w A (ucs l)) (hb : Bx w k) (hs : w.heap.size ≤ w'.heap.size) (hk : ∀ b, b ≠ k → b < w.heap.size → w'.heap[b]? = w.heap[b]?) : Lies w' A (ucs l) := fun h0 => by
  obtain ⟨b, off, e, hlt, hc⟩ := h h0
  have hne : b ≠ k := by
    rintro rfl
    have hl : 0 < l.length := by simpa using h0
    have := hc 0 (.int .u32 l[0]) (by simp [List.getElem?_eq_getElem hl])
    rw [cell_of_row w b _ _ _ _ hb] at this
    rcases (show off + 0 = 0 ∨ off + 0 = 1 ∨ off + 0 = 2 ∨ 3 ≤ off + 0 by omega) with e | e | e | e
    · rw [e] at this; simp at this
    · rw [e] at this; simp at this
    · rw [e] at this; simp at this
    · rw [Array.getElem?_eq_none (by simpa using e)] at this; cases this
  exact ⟨b, off, e, by omega, fun j u hu => by
    rw [← hc j u hu]
    exact World.cell?_of_block (a := ⟨b, off + j, none⟩) (hk b hne hlt)⟩
theorem FrOk.boxed {w : World} {x : Fr} {k : Nat} (h : FrOk w x) (hb : Bx w k) (v0 v1 v2 : Value) : FrOk (((w.setCell ⟨k, 0, none⟩ v0).setCell ⟨k, 1, none⟩ v1).setCell ⟨k, 2, none⟩ v2) x := by
  have hk : ∀ b, b ≠ k → b < w.heap.size → (((w.setCell ⟨k, 0, none⟩ v0).setCell ⟨k, 1, none⟩ v1).setCell ⟨k, 2, none⟩ v2).heap[b]? = w.heap[b]? := fun b hne _ =>
    (Below.heap_setCell _ ⟨k, 2, none⟩ v2 b hne).trans ((Below.heap_setCell _ ⟨k, 1, none⟩ v1 b hne).trans (Below.heap_setCell _ ⟨k, 0, none⟩ v0 b hne))
  exact ⟨⟨h.n.lies.apartBox hb (by simp) hk, h.n.dig, h.n.cap, h.n.nil⟩, ⟨h.d.lies.apartBox hb (by simp) hk, h.d.dig, h.d.cap, h.d.nil⟩⟩
set_option maxRecDepth 100000 in
set_option maxHeartbeats 1000000 in
theorem natural_any (n : Nat) (w : World) (h : n ≤ 18446744073709551615) : Calls Tryz.prog 89 #[.int .u64 n] w (RetNd n w) := by
  have b1 : (n : Int) / 4294967296 ≤ 4294967295 := by omega
  have b0 : 0 ≤ (n : Int) / 4294967296 := by omega
  have hv : Hid (vl [(n : Int) % 4294967296, (n : Int) / 4294967296] = n) := Lib.hid (by simp [vl, BB]; omega)
  have hd : Hid (dgs [(n : Int) % 4294967296, (n : Int) / 4294967296]) := Lib.hid (by
    intro x hx
    simp at hx
    rcases hx with rfl | rfl <;> omega)
  go_enter Tryz.func89, Tryz.ntmps89
  go_wp2_with fail
  obtain ⟨W, hW⟩ : ∃ W, W = w.alloc (Obj.cells #[.int .u32 ((n : Int) % 4294967296), .int .u32 ((n : Int) / 4294967296)] 87) := ⟨_, rfl⟩
  have hL0 : Lies W (some ⟨w.heap.size, 0, none⟩) (ucs [(n : Int) % 4294967296, (n : Int) / 4294967296]) := by
    rw [hW]
    exact fun _ => ⟨w.heap.size, 0, rfl, by simp, fun k u hu => by
      rw [Nat.zero_add, cell_of_row _ _ k _ _ _ (heap_alloc_new w _)]
      simpa using hu⟩
  have hB0 : Below w.heap.size w W := by rw [hW]; exact (Below.refl _ _).alloc (Nat.le_refl _) _
  have HL := Lib.hid (hL0.ndl hd.out hv.out)
  have HN := nd_le_len hd.out hv.out
  simp only [List.length_cons, List.length_nil] at HN
  rw [← hW]
  clear hW
  refine (trim_any (some ⟨w.heap.size, 0, none⟩) 2 [(n : Int) % 4294967296, (n : Int) / 4294967296] W hL0 hd (by simp) (by simp) n hv).mono ?_
  rintro e w' ⟨rfl, rfl⟩
  go_wp2_with fail
  go_ret
  exact ⟨_, _, rfl, HL.out, HN, (fun e => by cases e), hB0⟩
set_option maxHeartbeats 400000 in
theorem size_pos (n : Nat) (w : World) (h : n ≤ 9223372036854775807) : Calls Tryz.prog 90 #[.int .i64 n] w fun e w' => e = .returned (.int .u64 n) ∧ w = w' := by
  go_enter Tryz.func90, Tryz.ntmps90
  go_wp2_with fail
  go_ret
  exact ⟨rfl, rfl⟩
set_option maxHeartbeats 400000 in
theorem size_neg (n : Nat) (w : World) (h : 0 < n) (h2 : n ≤ 9223372036854775808) : Calls Tryz.prog 90 #[.int .i64 (-(n : Int))] w fun e w' => e = .returned (.int .u64 n) ∧ w = w' := by
  have hn : -(n : Int) < 0 := by omega
  go_enter Tryz.func90, Tryz.ntmps90
  go_wp2_with fail
  go_ret
  exact ⟨ret_int (by rw [IntKind.wrap_u64, IntKind.wrap_u64]; omega), rfl⟩
theorem size_any (z : Int) (w : World) (h1 : -9223372036854775808 ≤ z) (h2 : z ≤ 9223372036854775807) : Calls Tryz.prog 90 #[.int .i64 z] w fun e w' => e = .returned (.int .u64 z.natAbs) ∧ w = w' := by
  by_cases h : z < 0
  · have := size_neg z.natAbs w (by omega) (by omega)
    rwa [show -((z.natAbs : Nat) : Int) = z by omega] at this
  · have e : z = ((z.natAbs : Nat) : Int) := by omega
    generalize z.natAbs = m at *
    subst e
    exact size_pos m w (by omega)
set_option maxRecDepth 100000 in
set_option maxHeartbeats 1000000 in
/-- low: the denominator -/
theorem low_any (x : Fr) (w : World) (hx : FrOk w x) (hn : x.D.length ≤ 1000000) (v : Nat) (hv : Hid (vl x.D = v)) :
    Calls Tryz.prog 93 #[x.val] w (RetNd (if v = 0 then 1 else v) w) := by
  obtain ⟨neg, A, c, N, B, d, D⟩ := x
  obtain ⟨h1, h2⟩ := hx
  simp only at *
  have LD := Lib.hid (h2.lies.ndl h2.dig hv.out)
  have HL := nd_le_len h2.dig hv.out
  have HD := Lib.hid h2
  have hcap := h2.cap
  have hW := Lib.hid (fun o => (h2.lies.alloc (w := w) o))
  clear h1 h2
  by_cases h0 : v = 0
  · rw [if_pos h0]
    have HZ : Hid ((nd v).length = 0) := Lib.hid (by rw [h0, nd_zero]; rfl)
    go_enter Tryz.func93, Tryz.ntmps93
    go_wp2_with fail
    refine (trim_any B d D _ (hW.out _) (Lib.hid HD.out.dig) hcap (by omega) v hv).mono ?_
    rintro e w' ⟨rfl, rfl⟩
    have hz := HZ.out
    rw [hz]
    clear hz
    go_wp2_with fail
    go_ret
    exact ⟨some ⟨w.heap.size + 1, 0, none⟩, 1, by rw [nd_one]; rfl, by rw [nd_one]; have h := lies_newu (w.alloc (.cells #[.bool neg, .slice A N.length c, .slice B D.length d] 80)) (.int .u32 1) 87; simpa using h, by rw [nd_one]; simp, (fun e => by cases e), ((Below.refl _ _).alloc (Nat.le_refl _) _).alloc (by simp) _⟩
  · rw [if_neg h0]
    have hz : (nd v).length ≠ 0 := fun h => h0 (nd_len_zero.1 h)
    go_enter Tryz.func93, Tryz.ntmps93
    go_wp2_with fail
    refine (trim_any B d D _ (hW.out _) (Lib.hid HD.out.dig) hcap (by omega) v hv).mono ?_
    rintro e w' ⟨rfl, rfl⟩
    have q : (((nd v).length : Int) == 0) = false := beq_eq_false_iff_ne.2 (by omega)
    have HC : Hid ((nd v).length ≤ d) := Lib.hid (by omega)
    go_wp2_with fail
    go_ret
    exact ⟨B, d, rfl, LD.out.alloc _, HC.out, HD.out.nil, (Below.refl _ _).alloc (Nat.le_refl _) _⟩
end Go.Proofs.YtnflpnbpigcfhabGreatDoor
