/- a listener that is fed piece by piece -/
import Derived.Test.YtnhkngmdjomfjaaSegsNo
import Derived.Test.YtnhkngmdjomfjaaPFed
namespace Go.Proofs.Ytnhkngmdjomfjaa
open Go.RowKit Ear

/-- the listener at p has got all samples of a list; its open block lies behind N -/
def FedAt (w : World) (p : Nat) (g : Gt) (B : Nat) (all : List Int) (N : Nat) : Prop :=
  ∃ A1 c1, Lsn w p g (Fed g B all).1 (.slice A1 (rest_ B all).length c1) ∧ Lies w A1 (ics (rest_ B all)) ∧ (A1 = none → c1 = 0) ∧ ∀ b off, A1 = some ⟨b, off, none⟩ → N ≤ b

theorem FedAt.below {w w' : World} {p : Nat} {g : Gt} {B : Nat} {all : List Int} {N : Nat} (h : FedAt w p g B all N) (hb : Below w.heap.size w w') : FedAt w' p g B all N := by
  obtain ⟨A1, c1, h1, h2, h3, h4⟩ := h
  exact ⟨A1, c1, (hb.block p (row_lt h1)).trans h1, h2.below hb, h3, h4⟩
theorem FedAt.grown {w w' : World} {p : Nat} {g : Gt} {B : Nat} {all : List Int} {N : Nat} {row : Option Nat} (h : FedAt w p g B all N) (hg : w.grownBy w' row) (hr : ∀ k, row = some k → k ≠ p ∧ k < N) : FedAt w' p g B all N := by
  obtain ⟨A1, c1, h1, h2, h3, h4⟩ := h
  refine ⟨A1, c1, (hg.block p (row_lt h1) (fun e => (hr p e.symm).1 rfl)).trans h1, h2.grown hg (fun b off e e2 => ?_), h3, h4⟩
  have := h4 b off e
  have := (hr b e2).2
  omega
theorem FedAt.lt {w : World} {p : Nat} {g : Gt} {B : Nat} {all : List Int} {N : Nat} (h : FedAt w p g B all N) : p < w.heap.size := by
  obtain ⟨A1, c1, h1, _⟩ := h
  exact row_lt h1
/-- segments end, and the listener goes on -/
def FedPost (p : Nat) (g : Gt) (B : Nat) (all x : List Int) (w : World) (e : Ending) (w' : World) : Prop :=
  ∃ (o : List (Int × Int)) (A : Option Addr) (c : Nat), e = .returned (.tuple #[.slice A o.length c, .int .i64 0]) ∧ (Fed g B (all ++ x)).2 = (Fed g B all).2 ++ o ∧
    w'.ownsRow w.heap.size 57 2 (.slice A o.length c) o.length (scs o) ∧ FedAt w' p g B (all ++ x) w.heap.size ∧ w.grownBy w' (some p)

theorem smp_rest {B : Nat} {all : List Int} (h : smp all = true) : smp (rest_ B all) = true := smp_drop h _

theorem Feed_fed (g : Gt) (p : Nat) (B : Nat) (all x : List Int) (A : Option Addr) (c : Nat) (N : Nat) (w : World) (hF : FedAt w p g B all N) (h : Lies w A (ics x)) (hA : A = none → c = 0) (hva : Hid (smp all = true)) (hv : Hid (smp x = true))
    (hl : all.length + x.length ≤ 200000) (hg : Hid g.ok) (hB : Hid (g.block = B)) :
    Calls Try.prog 35 #[.pointer (some ⟨p, 0, none⟩), .slice A x.length c] w (FedPost p g B all x w) := by
  obtain ⟨A0, c0, h1, h2, h3, h4⟩ := hF
  have hgo := hg.out
  have hB1 : 1 ≤ B := by have := hB.out; have := hgo.1; omega
  have hB2 : B ≤ 4096 := by have := hB.out; have := hgo.2.1; omega
  have hi := Fed_inv hgo B all
  have hr := rest_len hB1 all
  have hq : all.length / B ≤ all.length := Nat.div_le_self _ _
  have hnx := fed_next g hB1 all x
  refine (Feed_ok g (Fed g B all).1 p A0 c0 (rest_ B all) A c x B w h1 h2 h3 h hA (Lib.hid (smp_rest hva.out)) hv (by omega) (by omega) hg hB hB1 hB2 (Lib.hid hi.1) (by rw [hi.2.2.1]; omega) (by rw [hi.2.2.1]; omega) (by rw [hi.2.1, hi.2.2.1]; omega)).mono ?_
  rintro e w' ⟨A1, c1, ⟨O, oc, he, ho, hL, hgr⟩, hlies, hn, hfr⟩
  obtain ⟨e1, e2, e3⟩ := hnx
  rw [e1] at hL
  rw [e3] at hL hlies
  exact ⟨_, O, oc, he, e2, ho, ⟨A1, c1, hL, hlies, hn, hfr⟩, hgr⟩

/-- the segment that ends with closing -/
def lastOf (g : Gt) (B : Nat) (all : List Int) : List (Int × Int) := if (Fed g B all).1.state = 1 then [((Fed g B all).1.begin_ * g.block, (all.length : Int))] else []
theorem segsOf_fed (g : Gt) (B : Nat) (all : List Int) : segsOf g B all = (Fed g B all).2 ++ lastOf g B all := by
  unfold segsOf segSt lastOf
  rw [seg_fed]
  rfl
theorem lastOf_len (g : Gt) (B : Nat) (all : List Int) : (lastOf g B all).length ≤ 1 := by
  unfold lastOf; split <;> simp
/-- the listener at p is closed -/
def ClosedAt (w : World) (p : Nat) (g : Gt) (n : Int) : Prop := ∃ s bl, Lsn w p g s bl ∧ s.state = 2 ∧ s.samples = n
theorem ClosedAt.keep {w w' : World} {p : Nat} {g : Gt} {n : Int} (h : ClosedAt w p g n) (hb : Below w.heap.size w w') : ClosedAt w' p g n := by
  obtain ⟨s, bl, h1, h2, h3⟩ := h
  exact ⟨s, bl, (hb.block p (row_lt h1)).trans h1, h2, h3⟩
def ClosePost (p : Nat) (g : Gt) (B : Nat) (all : List Int) (w : World) (e : Ending) (w' : World) : Prop :=
  ∃ A c, e = .returned (.tuple #[.slice A (lastOf g B all).length c, .int .i64 0]) ∧ w'.ownsRow w.heap.size 57 2 (.slice A (lastOf g B all).length c) (lastOf g B all).length (scs (lastOf g B all)) ∧
    ClosedAt w' p g all.length ∧ w.grownBy w' (some p)
theorem Close_fed (g : Gt) (p : Nat) (B : Nat) (all : List Int) (N : Nat) (w : World) (hF : FedAt w p g B all N) (hl : all.length ≤ 200000) (hg : Hid g.ok) :
    Calls Try.prog 36 #[.pointer (some ⟨p, 0, none⟩)] w (ClosePost p g B all w) := by
  obtain ⟨A0, c0, h1, h2, h3, h4⟩ := hF
  have hgo := hg.out
  have hi := Fed_inv hgo B all
  have hq : all.length / B ≤ all.length := Nat.div_le_self _ _
  obtain ⟨i1, i2, i3, i4, i5, i6, i7⟩ := hi.1
  have e2 := hi.2.1
  have e3 := hi.2.2.1
  rcases i1 with hs | hs
  · refine (Close_wait g _ _ p w h1 hs).mono ?_
    rintro e w' ⟨A, c, he, ho, hL, hgr⟩
    have hn : lastOf g B all = [] := by unfold lastOf; rw [if_neg (by omega)]
    unfold ClosePost
    rw [hn]
    exact ⟨A, c, he, ho, ⟨_, _, hL, rfl, e3⟩, hgr⟩
  · refine (Close_speech g _ _ p w h1 hs hgo.1 hgo.2.1 i6 (by omega)).mono ?_
    rintro e w' ⟨A, c, he, ho, hL, hgr⟩
    have hn : lastOf g B all = [((Fed g B all).1.begin_ * g.block, (Fed g B all).1.samples)] := by unfold lastOf; rw [if_pos hs, e3]
    unfold ClosePost
    rw [hn]
    exact ⟨A, c, he, ho, ⟨_, _, hL, rfl, e3⟩, hgr⟩
theorem FedAt.new {w : World} {p : Nat} {g : Gt} (B : Nat) (h : Lsn w p g Ls.new (.slice none 0 0)) (N : Nat) : FedAt w p g B [] N := by
  obtain ⟨h1, h2⟩ := Fed_nil g B
  refine ⟨none, 0, ?_, ?_, fun _ => rfl, fun b off e => by cases e⟩
  · rw [h1, h2]; exact h
  · rw [h2]; exact Lies.nil _ _
end Go.Proofs.Ytnhkngmdjomfjaa
