/- a part of TalkUnlearns -/
import Derived.Test.YtcjicjfbippmnaaGreatMTU24
import Derived.Test.YtcjicjfbippmnaaGreatMTU25
import Derived.Test.YtcjicjfbippmnaaGreatMTU2
import Derived.Laws.IdiomCopy
set_option maxRecDepth 100000
set_option maxHeartbeats 32000000
namespace Ear
structure PFl where
  st : Int
  val : BA
  ref : List BA
structure PDl where
  pat : Int
  prm : Int
  need : Int
  S : List PSl
  F : List PFl
  stand : Int
  bad : Int
  cuts : Int
  prompt : Int
  last : Int
end Ear
namespace Go.Proofs.YtcjicjfbippmnaaGreat
open Go.RowKit Ear

def notU (v : Value) : Prop := ∀ n, v ≠ .int .u32 n
def KU (w w' : World) : Prop := ∀ A l, Lies w A (ucs l) -> Lies w' A (ucs l)
theorem KU.trans {a b c : World} (h : KU a b) (k : KU b c) : KU a c := fun A l x => k A l (h A l x)
theorem KU.below {w w' : World} (hb : Below w.heap.size w w') : KU w w' := fun _ _ h => h.below hb
theorem KU.set {w : World} {a : Addr} {v0 : Value} (h0 : w.cell? a = some v0) (hn : notU v0) (u : Value) : KU w (w.setCell a u) := fun A l h hl => by
  obtain ⟨b, off, e, hb, hc⟩ := h hl
  refine ⟨b, off, e, by simpa [World.setCell] using hb, fun k x hx => ?_⟩
  rw [World.cell?_setCell_other _ _ _ _ ?_]
  · exact hc k x hx
  · rintro rfl
    rw [hc k x hx] at h0
    injection h0 with h0
    subst h0
    simp only [List.getElem?_map] at hx
    cases hq : l[k]? with
    | none => rw [hq] at hx; cases hx
    | some y => rw [hq] at hx; injection hx with hx; exact hn y hx.symm
theorem KU.sets {g : Nat} : ∀ (vs : List Value) (o : Nat) (w : World), (∀ j, j < vs.length -> ∃ v0, w.cell? ⟨g, o + j, none⟩ = some v0 /\ notU v0) -> KU w (w.setCells g o vs)
  | [], _, _, _ => fun _ _ h => h
  | v :: r, o, w, h => by
    obtain ⟨v0, h0, hn⟩ := h 0 (by simp)
    refine (KU.set (a := ⟨g, o, none⟩) (by simpa using h0) hn v).trans (KU.sets r (o + 1) _ fun j hj => ?_)
    obtain ⟨v1, h1, hn1⟩ := h (j + 1) (by simpa using hj)
    exact ⟨v1, by rw [World.cell?_setCell_other _ _ _ _ (by intro h; injection h with _ h; omega), show o + 1 + j = o + (j + 1) by omega]; exact h1, hn1⟩
theorem KU.all {w w' : World} {g : Nat} (ha : AllC notU w g) (hg : w.grownBy w' (some g)) : KU w w' := fun A l h hl => by
  obtain ⟨b, off, e, hb, hc⟩ := h hl
  have hne : b ≠ g := by
    rintro rfl
    have hl' : 0 < l.length := by simpa using hl
    have := hc 0 (.int .u32 l[0]) (by simp [List.getElem?_eq_getElem hl'])
    exact (ha.cell this) _ rfl
  exact ⟨b, off, e, Nat.lt_of_lt_of_le hb hg.size, fun k x hx => (World.cell?_of_block (a := ⟨b, off + k, none⟩) (hg.block b hb (by intro e; injection e with e; exact hne e))).trans (hc k x hx)⟩
theorem Dg.ku {w w' : World} {A : Option Addr} {c : Nat} {l : List Int} (h : Dg w A c l) (k : KU w w') : Dg w' A c l := ⟨k A l h.lies, h.dig, h.cap, h.nil⟩
theorem Fq.ku {w w' : World} {x : Fr} {q : Rat} (h : Fq w x q) (k : KU w w') : Fq w' x q := ⟨⟨h.ok.n.ku k, h.ok.d.ku k⟩, h.neg, h.num, h.dn⟩
structure FlM where
  st : Int
  val : BA
  A : Option Addr
  c : Nat
  ref : List BA
def FlM.pure (f : FlM) : PFl := ⟨f.st, f.val, f.ref⟩
def flc (f : FlM) : List Value := [.int .i64 f.st, .string f.val, .slice f.A f.ref.length f.c]
def flcs (Fs : List FlM) : List Value := Fs.flatMap flc
theorem flcs_length (Fs : List FlM) : (flcs Fs).length = Fs.length * 3 := by
  induction Fs with
  | nil => rfl
  | cons x l ih => simp only [flcs, List.flatMap_cons, List.length_append] at ih ⊢; rw [ih]; simp [flc]; omega
theorem flcs_append (a b : List FlM) : flcs (a ++ b) = flcs a ++ flcs b := by simp [flcs]
theorem flcs_get : ∀ (Fs : List FlM) {k : Nat} (hk : k < Fs.length) (j : Nat), j < 3 -> (flcs Fs)[k * 3 + j]? = (flc Fs[k])[j]?
  | s :: l, 0, _, j, hj => by
    simp only [flcs, List.flatMap_cons, Nat.zero_mul, Nat.zero_add, List.getElem_cons_zero]
    exact List.getElem?_append_left (by simp [flc]; exact hj)
  | s :: l, k + 1, hk, j, hj => by
    have ih := flcs_get l (k := k) (by simpa using hk) j hj
    simp only [flcs, List.flatMap_cons, List.getElem_cons_succ] at ih ⊢
    rw [List.getElem?_append_right (by simp [flc]; omega), <- ih]
    congr 1
    simp [flc]
    omega
theorem Lies.same {w w' : World} {A : Option Addr} {xs : List Value} (h : Lies w A xs) (hs : w.heap.size <= w'.heap.size) (hk : ∀ b off, A = some ⟨b, off, none⟩ -> 0 < xs.length -> b < w.heap.size -> (∀ k v, xs[k]? = some v -> w.cell? ⟨b, off + k, none⟩ = some v) -> w'.heap[b]? = w.heap[b]?) : Lies w' A xs := fun hl => by
  obtain ⟨b, off, e, hb, hc⟩ := h hl
  have hbl := hk b off e hl hb hc
  exact ⟨b, off, e, Nat.lt_of_lt_of_le hb hs, fun k v hv => (World.cell?_of_block (a := ⟨b, off + k, none⟩) hbl).trans (hc k v hv)⟩
theorem digit_ne {w : World} {b off g : Nat} {l : List Int} (hl : 0 < (ucs l).length) (hc : ∀ k v, (ucs l)[k]? = some v -> w.cell? ⟨b, off + k, none⟩ = some v) (ha : AllC notU w g) : b ≠ g := by
  rintro rfl
  have hl' : 0 < l.length := by simpa using hl
  have := hc 0 (.int .u32 l[0]) (by simp [List.getElem?_eq_getElem hl'])
  exact (ha.cell this) _ rfl
theorem pw_replicate {α : Type} {R : α -> α -> Prop} {x : α} (h : R x x) : ∀ n, (List.replicate n x).Pairwise R
  | 0 => .nil
  | n + 1 => by
    rw [List.replicate_succ, List.pairwise_cons]
    exact ⟨fun y hy => by rw [List.eq_of_mem_replicate hy]; exact h, pw_replicate h n⟩
structure DlA where
  q : Nat
  gF : Nat
  PA : Option Addr
  pc : Nat
  Ss : List SlM
  fc : Nat
  Fm : List FlM
def dlc (a : DlA) (D : PDl) : Array Value := #[.slice a.PA a.Ss.length a.pc, .int .i64 D.pat, .int .i64 D.prm, .int .i64 D.need, .slice (some ⟨a.gF, 0, none⟩) a.Fm.length a.fc, .int .i64 D.stand, .int .i64 D.bad, .int .i64 D.cuts, .int .i64 D.prompt, .int .i64 D.last]
structure DlM (w : World) (bs : Nat) (a : DlA) (D : PDl) : Prop where
  cell : w.heap[a.q]? = some (.cells (dlc a D) 133 (0, 0))
  stab : ∀ w' : World, w.heap.size <= w'.heap.size -> (∀ b, b < bs -> b ≠ a.q -> b ≠ a.gF -> w'.heap[b]? = w.heap[b]?) -> PlM w' a.PA a.Ss D.S
  row : w.ownsRow 0 76 3 (.slice (some ⟨a.gF, 0, none⟩) a.Fm.length a.fc) a.Fm.length (flcs a.Fm)
  ref : ∀ f ∈ a.Fm, w.ownsRow bs 9 1 (.slice f.A f.ref.length f.c) f.ref.length (sbs f.ref)
  apart : a.Fm.Pairwise fun x y => ∀ k, blk x.A = some k -> blk y.A ≠ some k
  pure : a.Fm.map FlM.pure = D.F
  len : a.Fm.length = a.Ss.length
  pos : 0 < a.Fm.length
  lt : a.q < bs /\ a.gF < bs /\ bs <= w.heap.size
theorem DlM.below {w w' : World} {bs : Nat} {a : DlA} {D : PDl} (h : DlM w bs a D) (hb : Below w.heap.size w w') : DlM w' bs a D :=
  ⟨(hb.block _ (Array.getElem?_eq_some_iff.1 h.cell).1).trans h.cell, fun w2 hs hk => h.stab w2 (Nat.le_trans hb.size hs) (fun b h1 h2 h3 => (hk b h1 h2 h3).trans (hb.block b (Nat.lt_of_lt_of_le h1 h.lt.2.2))),
   own_below h.row hb, fun f hf => own_below (h.ref f hf) hb, h.apart, h.pure, h.len, h.pos, h.lt.1, h.lt.2.1, Nat.le_trans h.lt.2.2 hb.size⟩
theorem DlM.plan {w : World} {bs : Nat} {a : DlA} {D : PDl} (h : DlM w bs a D) : PlM w a.PA a.Ss D.S := h.stab w (Nat.le_refl _) (fun _ _ _ _ => rfl)
end Go.Proofs.YtcjicjfbippmnaaGreat
namespace Ear
def askN (F : List PFl) : Nat := F.findIdx fun f => decide (f.st ≠ 3)
def askI (F : List PFl) : Int := if askN F < F.length then (askN F : Int) else -1
theorem askN_at {F : List PFl} {k : Nat} (hk : k < F.length) (h : F[k].st ≠ 3) (h2 : ∀ (j : Nat) (hj : j < F.length), j < k -> F[j].st = 3) : askN F = k := by
  unfold askN
  rw [List.findIdx_eq hk]
  exact ⟨by simpa using h, fun j hj => by simpa using h2 j (by omega) hj⟩
theorem askN_none {F : List PFl} (h2 : ∀ (j : Nat) (hj : j < F.length), F[j].st = 3) : askN F = F.length := by
  unfold askN
  refine List.findIdx_eq_length_of_false fun x hx => ?_
  obtain ⟨j, hj, rfl⟩ := List.getElem_of_mem hx
  simpa using h2 j hj
theorem askI_at {F : List PFl} {k : Nat} (hk : k < F.length) (h : F[k].st ≠ 3) (h2 : ∀ (j : Nat) (hj : j < F.length), j < k -> F[j].st = 3) : askI F = k := by
  unfold askI
  rw [askN_at hk h h2, if_pos hk]
theorem askI_none {F : List PFl} (h2 : ∀ (j : Nat) (hj : j < F.length), F[j].st = 3) : askI F = -1 := by
  unfold askI
  rw [askN_none h2, if_neg (by omega)]
end Ear
namespace Go.Proofs.YtcjicjfbippmnaaGreat
open Go.RowKit Ear

theorem asked1_any (f : FlM) (w : World) (r : Bool) (hr : Hid (decide (f.st ≠ 3) = r)) : Calls Tryz.prog 143 #[.agg #[.int .i64 f.st, .string f.val, .slice f.A f.ref.length f.c]] w (RetB r w) := by
  obtain ⟨W0, hW0⟩ : ∃ W0 : World, W0 = w.alloc (.cells #[.int .i64 f.st, .string f.val, .slice f.A f.ref.length f.c] 76) := ⟨_, rfl⟩
  have HB0 : Hid (Below w.heap.size w W0) := zH (by rw [hW0]; exact (Below.refl _ _).alloc (Nat.le_refl _) _)
  have HX0 : Hid (W0.heap[w.heap.size]? = some (.cells #[.int .i64 f.st, .string f.val, .slice f.A f.ref.length f.c] 76 (0, 0))) := zH (by rw [hW0]; exact heap_alloc_new w _)
  have c0 : W0.cell? ⟨w.heap.size, 0, none⟩ = some (.int .i64 f.st) := (cell_of_row _ _ 0 _ _ _ HX0.out).trans rfl
  have hrr := hr.out
  obtain ⟨st, val, A, c, ref⟩ := f
  simp only at *
  clear hr
  have HR := zH hrr
  clear hrr
  go_enter Tryz.func143, Tryz.ntmps143
  go_wp2_with fail
  rw [<- hW0]
  clear hW0
  go_wp2_with fail
  go_ret
  refine ⟨?_, HB0.out⟩
  rw [<- HR.out]
  by_cases h3 : st = 3
  · subst h3; rfl
  · rw [decide_eq_true h3]
    have : (st != 3) = true := by simp [h3]
    rw [<- this]
    rfl
theorem flc_at {w : World} {g c n : Nat} {Fm : List FlM} (h : w.ownsRow 0 76 3 (.slice (some ⟨g, 0, none⟩) n c) n (flcs Fm)) (hn : n = Fm.length) {k : Nat} (hk : k < Fm.length) : w.cell? ⟨g, k * 3, none⟩ = some (.int .i64 Fm[k].st) /\ w.cell? ⟨g, k * 3 + 1, none⟩ = some (.string Fm[k].val) /\ w.cell? ⟨g, k * 3 + 2, none⟩ = some (.slice Fm[k].A Fm[k].ref.length Fm[k].c) /\ w.frozen? ⟨g, k * 3, none⟩ = false /\ w.frozen? ⟨g, k * 3 + 1, none⟩ = false /\ w.frozen? ⟨g, k * 3 + 2, none⟩ = false :=
  ⟨(h.cellAt (k * 3 + 0) (by omega)).trans (flcs_get Fm hk 0 (by omega)), (h.cellAt (k * 3 + 1) (by omega)).trans (flcs_get Fm hk 1 (by omega)), (h.cellAt (k * 3 + 2) (by omega)).trans (flcs_get Fm hk 2 (by omega)), h.frozenAt _, h.frozenAt _, h.frozenAt _⟩
theorem IndexF_any (g c : Nat) (Fm : List FlM) (w : World) (h : w.ownsRow 0 76 3 (.slice (some ⟨g, 0, none⟩) Fm.length c) Fm.length (flcs Fm)) (hn : Fm.length <= 1000000) (r : Int) (hr : Hid (askI (Fm.map FlM.pure) = r)) :
    Calls Tryz.prog 142 #[.slice (some ⟨g, 0, none⟩) Fm.length c, .func (.func 143) #[] #[]] w fun e w' => e = .returned (.int .i64 r) /\ Below w.heap.size w w' := by
  have heg := enters_of Tryz.func143 (by kernel_rfl) rfl
  have HO := zH h
  clear h
  go_enter Tryz.func142, Tryz.ntmps142
  go_wp2_with fail
  go_loopw [8] (fun i wr => ∃ k : Nat, k <= Fm.length /\ i = .int .i64 k /\ Hid (∀ (j : Nat) (hj : j < Fm.length), j < k -> Fm[j].st = 3) /\ Hid (Below w.heap.size w wr)) (fun i _ => Fm.length - (intOf i).toNat)
  case atStart => exact ⟨0, Nat.zero_le _, rfl, zH (fun j _ h => by omega), zH (Below.refl _ _)⟩
  case round =>
    obtain ⟨k, hk, rfl, HN, HB⟩ := hrel
    by_cases hlt : k < Fm.length
    · obtain ⟨c0, c1, c2, -⟩ := flc_at (own_below HO.out HB.out) rfl hlt
      have HT : Hid (Fm[k].st ≠ 3 -> r = (k : Int)) := zH (fun hx => by
        rw [<- hr.out]
        exact askI_at (by simpa using hlt) (by simpa [FlM.pure] using hx) (fun j hj hjk => by simpa [FlM.pure] using HN.out j (by simpa using hj) hjk))
      have HF : Hid (¬ Fm[k].st ≠ 3 -> ∀ (j : Nat) (hj : j < Fm.length), j < k + 1 -> Fm[j].st = 3) := zH (fun hx j hj hjk => by
        by_cases e : j = k
        · subst e; exact Classical.not_not.1 hx
        · exact HN.out j hj (by omega))
      generalize Fm[k] = X at *
      go_wp2_with fail
      refine (asked1_any X wr (decide (X.st ≠ 3)) (zH rfl)).mono ?_
      rintro e w1 ⟨rfl, hb1⟩
      have HB1 := zH (HB.out.trans (hb1.mono HB.out.size))
      clear hb1 c0 c1 c2
      by_cases h3 : X.st ≠ 3
      · have HR := zH (HT.out h3)
        rw [decide_eq_true h3]
        clear HT HF h3
        go_wp2_with fail
        go_ret
        exact ⟨by rw [HR.out]; rfl, HB1.out⟩
      · have HR := zH (HF.out h3)
        rw [decide_eq_false h3]
        clear HT HF h3
        go_wp2_with fail
        exact ⟨⟨k + 1, by omega, by go_num, HR, HB1⟩, by simp [intOf]; omega⟩
    · have HR : Hid (r = -1) := zH (by
        rw [<- hr.out]
        exact askI_none (fun j hj => by have hj' : j < Fm.length := by simpa using hj
                                        simpa [FlM.pure] using HN.out j hj' (by omega)))
      have hlt' : ¬ (k : Int) < (Fm.length : Int) := by omega
      go_wp2_with fail
      go_ret
      exact ⟨by rw [HR.out]; rfl, HB.out⟩
theorem DlM.cells {w : World} {bs : Nat} {a : DlA} {D : PDl} (h : DlM w bs a D) : w.cell? ⟨a.q, 0, none⟩ = some (.slice a.PA a.Ss.length a.pc) /\ w.cell? ⟨a.q, 1, none⟩ = some (.int .i64 D.pat) /\ w.cell? ⟨a.q, 2, none⟩ = some (.int .i64 D.prm) /\ w.cell? ⟨a.q, 3, none⟩ = some (.int .i64 D.need) /\ w.cell? ⟨a.q, 4, none⟩ = some (.slice (some ⟨a.gF, 0, none⟩) a.Fm.length a.fc) /\ w.cell? ⟨a.q, 5, none⟩ = some (.int .i64 D.stand) /\ w.cell? ⟨a.q, 6, none⟩ = some (.int .i64 D.bad) /\ w.cell? ⟨a.q, 7, none⟩ = some (.int .i64 D.cuts) /\ w.cell? ⟨a.q, 8, none⟩ = some (.int .i64 D.prompt) /\ w.cell? ⟨a.q, 9, none⟩ = some (.int .i64 D.last) :=
  ⟨(cell_of_row _ _ 0 _ _ _ h.cell).trans rfl, (cell_of_row _ _ 1 _ _ _ h.cell).trans rfl, (cell_of_row _ _ 2 _ _ _ h.cell).trans rfl, (cell_of_row _ _ 3 _ _ _ h.cell).trans rfl, (cell_of_row _ _ 4 _ _ _ h.cell).trans rfl, (cell_of_row _ _ 5 _ _ _ h.cell).trans rfl, (cell_of_row _ _ 6 _ _ _ h.cell).trans rfl, (cell_of_row _ _ 7 _ _ _ h.cell).trans rfl, (cell_of_row _ _ 8 _ _ _ h.cell).trans rfl, (cell_of_row _ _ 9 _ _ _ h.cell).trans rfl⟩
theorem asked_any (bs : Nat) (a : DlA) (D : PDl) (w : World) (h : DlM w bs a D) (hn : a.Fm.length <= 1000000) (r : Int) (hr : Hid (askI D.F = r)) : Calls Tryz.prog 86 #[.pointer (some ⟨a.q, 0, none⟩)] w fun e w' => e = .returned (.int .i64 r) /\ Below w.heap.size w w' := by
  obtain ⟨-, -, -, -, c4, -, -, -, -, -⟩ := h.cells
  have HI := zH (IndexF_any a.gF a.fc a.Fm w h.row hn r (zH (by rw [h.pure]; exact hr.out)))
  clear h
  go_enter Tryz.func86, Tryz.ntmps86
  go_wp2_with fail
  refine HI.out.mono ?_
  rintro e w1 ⟨rfl, hb⟩
  have HB := zH hb
  clear hb
  go_wp2_with fail
  go_ret
  exact ⟨rfl, HB.out⟩
theorem tready_any (bs : Nat) (a : DlA) (D : PDl) (w : World) (h : DlM w bs a D) : Calls Tryz.prog 83 #[.pointer (some ⟨a.q, 0, none⟩)] w fun e w' => e = .returned (.bool true) /\ w' = w := by
  obtain ⟨-, -, -, -, c4, -, -, -, -, -⟩ := h.cells
  have hp := h.pos
  have hp2 : (0 : Int) < (a.Fm.length : Int) := by omega
  clear h
  go_enter Tryz.func83, Tryz.ntmps83
  go_wp2_with fail
  go_ret
  exact ⟨rfl, rfl⟩
end Go.Proofs.YtcjicjfbippmnaaGreat
namespace Go.Proofs.YtcjicjfbippmnaaGreat
open Go.RowKit Ear

structure EvM where
 kind : Int
 val : BA
 W : Fr
 at_ : Int
def EvM.v (E : EvM) : Value := .agg #[.int .i64 E.kind, .string E.val, .bool E.W.neg, .slice E.W.A E.W.N.length E.W.c, .slice E.W.B E.W.D.length E.W.d, .int .i64 E.at_]
def ansB (D : PDl) (f : PFl) (s : PSl) (q : Rat) (at_ : Int) : Bool := decide (f.st = 2) && decide (D.prompt + D.need <= at_) && decide (0 <= qsgn (q + -s.le))
theorem answers_any (bs : Nat) (a : DlA) (D : PDl) (E : EvM) (q : Rat) (w : World) (h : DlM w bs a D) (hE : Fv w E.W q) (fE : Few E.W 90000) (k : Nat) (f : PFl) (ps : PSl) (hk : D.F[k]? = some f) (hs : D.S[k]? = some ps) (ha : askI D.F = k) (hn : a.Fm.length <= 1000000) (hp : 0 <= D.prompt /\ D.prompt <= 2199023255552) (hd : 0 <= D.need /\ D.need <= 10000) (r : Bool) (hr : Hid (ansB D f ps q E.at_ = r)) :
  Calls Tryz.prog 172 #[.pointer (some ⟨a.q, 0, none⟩), E.v] w fun e w' => e = .returned (.tuple #[.int .i64 k, .bool r]) /\ Below w.heap.size w w' := by
 obtain ⟨W0, hW0⟩ : ∃ W0 : World, W0 = w.alloc (.cells #[.int .i64 E.kind, .string E.val, .bool E.W.neg, .slice E.W.A E.W.N.length E.W.c, .slice E.W.B E.W.D.length E.W.d, .int .i64 E.at_] 61) := ⟨_, rfl⟩
 have HB0 : Hid (Below w.heap.size w W0) := zH (by rw [hW0]; exact (Below.refl _ _).alloc (Nat.le_refl _) _)
 have HX0 : Hid (W0.heap[w.heap.size]? = some (.cells #[.int .i64 E.kind, .string E.val, .bool E.W.neg, .slice E.W.A E.W.N.length E.W.c, .slice E.W.B E.W.D.length E.W.d, .int .i64 E.at_] 61 (0, 0))) := zH (by rw [hW0]; exact heap_alloc_new w _)
 have HD0 := zH (h.below HB0.out)
 have HA := zH ha
 have HE0 := zH (hE.below HB0.out)
 have HFE := zH fE
 have hws : w.heap.size < W0.heap.size := (Array.getElem?_eq_some_iff.1 HX0.out).1
 have HKF := zH hk
 have HKS := zH hs
 clear h ha hE fE hk hs
 unfold EvM.v
 go_enter Tryz.func172, Tryz.ntmps172
 go_wp2_with fail
 rw [<- hW0]
 clear hW0
 refine (asked_any bs a D W0 HD0.out hn k HA).mono ?_
 rintro e W1 ⟨rfl, hb1⟩
 have HD1 := zH (HD0.out.below hb1)
 have HEV := zH (HE0.out.below hb1)
 have HX1 : Hid (W1.heap[w.heap.size]? = some (.cells #[.int .i64 E.kind, .string E.val, .bool E.W.neg, .slice E.W.A E.W.N.length E.W.c, .slice E.W.B E.W.D.length E.W.d, .int .i64 E.at_] 61 (0, 0))) := zH ((hb1.block _ hws).trans HX0.out)
 have HB1 := zH (HB0.out.trans (hb1.mono HB0.out.size))
 have hws1 : w.heap.size < W1.heap.size := (Array.getElem?_eq_some_iff.1 HX1.out).1
 clear hb1
 have hkS : k < a.Ss.length := by
  have h1 := (List.getElem?_eq_some_iff.1 HKS.out).1
  rw [HD1.out.plan.len]
  exact h1
 have hkF : k < a.Fm.length := by rw [HD1.out.len]; exact hkS
 obtain ⟨gb, go, ePA, hgb, hcell⟩ := HD1.out.plan.at_ hkS
 have HOK := zH (HD1.out.plan.ok k _ _ (List.getElem?_eq_getElem hkS) HKS.out)
 have efm : a.Fm[k].st = f.st := by
  have h1 : (a.Fm.map FlM.pure)[k]? = some f := by rw [HD1.out.pure]; exact HKF.out
  rw [List.getElem?_map, List.getElem?_eq_getElem hkF] at h1
  injection h1 with h1
  rw [<- h1]
  rfl
 obtain ⟨k0, -, -, -, -, -⟩ := flc_at HD1.out.row rfl hkF
 rw [efm] at k0
 generalize a.Ss[k] = s at *
 have HSL := zH HOK.out.L
 have HFS := zH HOK.out.fL
 obtain ⟨st, fval, fref⟩ := f
 obtain ⟨pnm, pvs, le, su⟩ := ps
 simp only at *
 have HCA : Hid (∀ w', Below W1.heap.size W1 w' -> w'.cell? ⟨a.q, 0, none⟩ = some (.slice (some ⟨gb, go, none⟩) a.Ss.length a.pc) /\ w'.cell? ⟨a.q, 3, none⟩ = some (.int .i64 D.need) /\ w'.cell? ⟨a.q, 4, none⟩ = some (.slice (some ⟨a.gF, 0, none⟩) a.Fm.length a.fc) /\ w'.cell? ⟨a.q, 8, none⟩ = some (.int .i64 D.prompt) /\ w'.cell? ⟨a.gF, k * 3, none⟩ = some (.int .i64 st) /\ w'.cell? ⟨w.heap.size, 2, none⟩ = some (.bool E.W.neg) /\ w'.cell? ⟨w.heap.size, 3, none⟩ = some (.slice E.W.A E.W.N.length E.W.c) /\ w'.cell? ⟨w.heap.size, 4, none⟩ = some (.slice E.W.B E.W.D.length E.W.d) /\ w'.cell? ⟨w.heap.size, 5, none⟩ = some (.int .i64 E.at_) /\ w'.cell? ⟨gb, go + k * 8 + 2, none⟩ = some (.bool s.L.neg) /\ w'.cell? ⟨gb, go + k * 8 + 3, none⟩ = some (.slice s.L.A s.L.N.length s.L.c) /\ w'.cell? ⟨gb, go + k * 8 + 4, none⟩ = some (.slice s.L.B s.L.D.length s.L.d)) := zH (fun w' hw => by
  obtain ⟨c0, -, -, c3, c4, -, -, -, c8, -⟩ := (HD1.out.below hw).cells
  rw [ePA] at c0
  have hx := (hw.block _ hws1).trans HX1.out
  exact ⟨c0, c3, c4, c8, (hw.cell (p := ⟨a.gF, k * 3, none⟩) (World.block_lt_of_cell? W1 _ k0)).trans k0, (cell_of_row _ _ 2 _ _ _ hx).trans rfl, (cell_of_row _ _ 3 _ _ _ hx).trans rfl, (cell_of_row _ _ 4 _ _ _ hx).trans rfl, (cell_of_row _ _ 5 _ _ _ hx).trans rfl,
   (hw.cell (p := ⟨gb, go + k * 8 + 2, none⟩) hgb).trans (hcell 2 _ rfl), (hw.cell (p := ⟨gb, go + k * 8 + 3, none⟩) hgb).trans (hcell 3 _ rfl), (hw.cell (p := ⟨gb, go + k * 8 + 4, none⟩) hgb).trans (hcell 4 _ rfl)⟩)
 have HC := zH (HCA.out W1.drew (Below.refl _ _).drew)
 have hkSi : (k : Int) < (a.Ss.length : Int) := by omega
 have hkFi : (k : Int) < (a.Fm.length : Int) := by omega
 have p1 : IntKind.i64.wrap (D.prompt + D.need) = D.prompt + D.need := IntWalk.i64_in _ (by omega)
 obtain ⟨R, hR⟩ : ∃ R, qsgn (q + -le) = R := ⟨_, rfl⟩
 have HR := zH hR
 have HRR : Hid (r = (decide (st = 2) && decide (D.prompt + D.need <= E.at_) && decide (0 <= R))) := zH (by rw [<- hr.out, <- hR]; rfl)
 clear hR hr k0 hcell efm
 go_upto_region 2 with fail
 by_cases h2 : st = 2
 rotate_left
 ·have g2 : (st == 2) = false := by simp [h2]
  have H2 := zH h2
  clear h2
  refine wp_region_held0 (S := fun w' => w'.cell? ⟨a.q, 0, none⟩ = some (.slice (some ⟨gb, go, none⟩) a.Ss.length a.pc) /\ w'.cell? ⟨a.q, 3, none⟩ = some (.int .i64 D.need) /\ w'.cell? ⟨a.q, 4, none⟩ = some (.slice (some ⟨a.gF, 0, none⟩) a.Fm.length a.fc) /\ w'.cell? ⟨a.q, 8, none⟩ = some (.int .i64 D.prompt) /\ w'.cell? ⟨a.gF, k * 3, none⟩ = some (.int .i64 st) /\ w'.cell? ⟨w.heap.size, 2, none⟩ = some (.bool E.W.neg) /\ w'.cell? ⟨w.heap.size, 3, none⟩ = some (.slice E.W.A E.W.N.length E.W.c) /\ w'.cell? ⟨w.heap.size, 4, none⟩ = some (.slice E.W.B E.W.D.length E.W.d) /\ w'.cell? ⟨w.heap.size, 5, none⟩ = some (.int .i64 E.at_) /\ w'.cell? ⟨gb, go + k * 8 + 2, none⟩ = some (.bool s.L.neg) /\ w'.cell? ⟨gb, go + k * 8 + 3, none⟩ = some (.slice s.L.A s.L.N.length s.L.c) /\ w'.cell? ⟨gb, go + k * 8 + 4, none⟩ = some (.slice s.L.B s.L.D.length s.L.d)) 42 rfl (by kernel_rfl) HC.out (fun hHeld => ?_)
  iterate 42 (first | ((refine wpAnyH_takeN (v := ?_) rfl (by kernel_rfl) (fun _ _ _ h => h) ⟨by rfl, ?_⟩ hHeld ?_; rotate_left; · intro w' hSw; obtain ⟨hS1, hS2, hS3, hS4, hS5, hS6, hS7, hS8, hS9, hS10, hS11, hS12⟩ := hSw; go_simp; try with_reducible rfl); simp only [List.setIfInBounds_toArray, List.set_cons_zero, List.set_cons_succ]) | (refine wpAnyH_skipN rfl (by kernel_rfl) (fun _ _ _ h => h) (by rfl) hHeld ?_; simp only [List.setIfInBounds_toArray, List.set_cons_zero, List.set_cons_succ]))
  refine wpAnyH_done (by kernel_rfl) ?_ _
  go_wp2_with fail
  go_ret2
  exact ⟨by rw [HRR.out, decide_eq_false H2.out]; rfl, HB1.out.drew⟩
 ·have g2 : (st == 2) = true := by simp [h2]
  have H2 := zH h2
  clear h2
  by_cases h3 : D.prompt + D.need <= E.at_
  rotate_left
  ·have g3 : decide (D.prompt + D.need <= E.at_) = false := decide_eq_false h3
   have H3 := zH h3
   clear h3
   refine wp_region_held0 (S := fun w' => w'.cell? ⟨a.q, 0, none⟩ = some (.slice (some ⟨gb, go, none⟩) a.Ss.length a.pc) /\ w'.cell? ⟨a.q, 3, none⟩ = some (.int .i64 D.need) /\ w'.cell? ⟨a.q, 4, none⟩ = some (.slice (some ⟨a.gF, 0, none⟩) a.Fm.length a.fc) /\ w'.cell? ⟨a.q, 8, none⟩ = some (.int .i64 D.prompt) /\ w'.cell? ⟨a.gF, k * 3, none⟩ = some (.int .i64 st) /\ w'.cell? ⟨w.heap.size, 2, none⟩ = some (.bool E.W.neg) /\ w'.cell? ⟨w.heap.size, 3, none⟩ = some (.slice E.W.A E.W.N.length E.W.c) /\ w'.cell? ⟨w.heap.size, 4, none⟩ = some (.slice E.W.B E.W.D.length E.W.d) /\ w'.cell? ⟨w.heap.size, 5, none⟩ = some (.int .i64 E.at_) /\ w'.cell? ⟨gb, go + k * 8 + 2, none⟩ = some (.bool s.L.neg) /\ w'.cell? ⟨gb, go + k * 8 + 3, none⟩ = some (.slice s.L.A s.L.N.length s.L.c) /\ w'.cell? ⟨gb, go + k * 8 + 4, none⟩ = some (.slice s.L.B s.L.D.length s.L.d)) 42 rfl (by kernel_rfl) HC.out (fun hHeld => ?_)
   iterate 42 (first | ((refine wpAnyH_takeN (v := ?_) rfl (by kernel_rfl) (fun _ _ _ h => h) ⟨by rfl, ?_⟩ hHeld ?_; rotate_left; · intro w' hSw; obtain ⟨hS1, hS2, hS3, hS4, hS5, hS6, hS7, hS8, hS9, hS10, hS11, hS12⟩ := hSw; go_simp; try with_reducible rfl); simp only [List.setIfInBounds_toArray, List.set_cons_zero, List.set_cons_succ]) | (refine wpAnyH_skipN rfl (by kernel_rfl) (fun _ _ _ h => h) (by rfl) hHeld ?_; simp only [List.setIfInBounds_toArray, List.set_cons_zero, List.set_cons_succ]))
   refine wpAnyH_done (by kernel_rfl) ?_ _
   go_wp2_with fail
   go_ret2
   exact ⟨by rw [HRR.out, decide_eq_true H2.out, g3]; rfl, HB1.out.drew⟩
  ·have g3 : decide (D.prompt + D.need <= E.at_) = true := decide_eq_true h3
   have H3 := zH h3
   clear h3
   refine wp_region_held0 (S := fun w' => w'.cell? ⟨a.q, 0, none⟩ = some (.slice (some ⟨gb, go, none⟩) a.Ss.length a.pc) /\ w'.cell? ⟨a.q, 3, none⟩ = some (.int .i64 D.need) /\ w'.cell? ⟨a.q, 4, none⟩ = some (.slice (some ⟨a.gF, 0, none⟩) a.Fm.length a.fc) /\ w'.cell? ⟨a.q, 8, none⟩ = some (.int .i64 D.prompt) /\ w'.cell? ⟨a.gF, k * 3, none⟩ = some (.int .i64 st) /\ w'.cell? ⟨w.heap.size, 2, none⟩ = some (.bool E.W.neg) /\ w'.cell? ⟨w.heap.size, 3, none⟩ = some (.slice E.W.A E.W.N.length E.W.c) /\ w'.cell? ⟨w.heap.size, 4, none⟩ = some (.slice E.W.B E.W.D.length E.W.d) /\ w'.cell? ⟨w.heap.size, 5, none⟩ = some (.int .i64 E.at_) /\ w'.cell? ⟨gb, go + k * 8 + 2, none⟩ = some (.bool s.L.neg) /\ w'.cell? ⟨gb, go + k * 8 + 3, none⟩ = some (.slice s.L.A s.L.N.length s.L.c) /\ w'.cell? ⟨gb, go + k * 8 + 4, none⟩ = some (.slice s.L.B s.L.D.length s.L.d)) 42 rfl (by kernel_rfl) HC.out (fun hHeld => ?_)
   iterate 37 (((refine wpAnyH_takeN (v := ?_) rfl (by kernel_rfl) (fun _ _ _ h => h) ⟨by rfl, ?_⟩ hHeld ?_; rotate_left; · intro w' hSw; obtain ⟨hS1, hS2, hS3, hS4, hS5, hS6, hS7, hS8, hS9, hS10, hS11, hS12⟩ := hSw; go_simp; try with_reducible rfl); simp only [List.setIfInBounds_toArray, List.set_cons_zero, List.set_cons_succ]))
   refine wpAnyH_oneW 37 rfl (by kernel_rfl) (by rfl) (fun K hK => ?_)
   go_simp
   refine (qCmp_any E.W s.L q le W1.drew (HEV.out.below (Below.refl _ _).drew) (HSL.out.below (Below.refl _ _).drew) HFE.out HFS.out R HR).mono ?_
   rintro e u1 ⟨rfl, hb1⟩
   have HB9 := zH (HB1.out.trans ((below_undrew hb1).mono HB1.out.size))
   have hC9 := HCA.out u1 (below_undrew hb1)
   go_simp
   refine hK _ _ hC9 (fun hHeld => ?_)
   clear hK K
   iterate 4 (((refine wpAnyH_takeN (v := ?_) rfl (by kernel_rfl) (fun _ _ _ h => h) ⟨by rfl, ?_⟩ hHeld ?_; rotate_left; · intro w' hSw; obtain ⟨hS1, hS2, hS3, hS4, hS5, hS6, hS7, hS8, hS9, hS10, hS11, hS12⟩ := hSw; go_simp; try with_reducible rfl); simp only [List.setIfInBounds_toArray, List.set_cons_zero, List.set_cons_succ]))
   refine wpAnyH_done (by kernel_rfl) ?_ _
   go_wp2_with fail
   go_ret2
   exact ⟨by rw [HRR.out, decide_eq_true H2.out, g3]; rfl, HB9.out⟩
end Go.Proofs.YtcjicjfbippmnaaGreat
