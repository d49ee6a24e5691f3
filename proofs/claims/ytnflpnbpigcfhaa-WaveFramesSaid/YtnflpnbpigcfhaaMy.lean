/- My: the texts Pos, Wth, Mak, Cos, Trf, Spc, Cpy, Sqr, Logf, Vec, Fit, Typ, OwnC, SmL, FrmP in one. -/
import Derived.Test.YtnflpnbpigcfhaaRnd
import Derived.Test.YtnflpnbpigcfhaaLed
import Derived.Test.YtnflpnbpigcfhaaLst
import Derived.Test.YtnflpnbpigcfhaaMx
import Derived.Test.YtnflpnbpigcfhaaEmphW
import Derived.Test.YtnflpnbpigcfhaaLen
import Derived.Test.YtnflpnbpigcfhaaLls
import Derived.Test.YtnflpnbpigcfhaaPop2
import Derived.Test.YtnflpnbpigcfhaaSame
import Derived.Test.YtnflpnbpigcfhaaPFrm
import Derived.OwnWalk
import Derived.OneCell
/- possible, Length, within, rounded, far -/
namespace Go.Proofs.Ytnflpnbpigcfhaa
open Go.RowKit Ear

/-- division with rounding by the rest -/
theorem rnd_far {a b : Int} (h : 0 ≤ a) (hb : 1 ≤ b) : rnd a b = if b - a % b ≤ a % b then a / b + 1 else a / b := by
  have h1 := Int.mul_ediv_add_emod a b
  have h2 := Int.emod_nonneg a (show b ≠ 0 by omega)
  have h3 := Int.emod_lt_of_pos a (show 0 < b by omega)
  generalize a / b = q at *
  generalize a % b = r at *
  have e : 2 * b * (q + 1) = 2 * (b * q) + 2 * b := by rw [Int.mul_add, Int.mul_assoc]; omega
  have e0 : 2 * b * q = 2 * (b * q) := by rw [Int.mul_assoc]
  have e2 : 2 * b * (q + 1 + 1) = 2 * (b * q) + 4 * b := by rw [Int.mul_add, Int.mul_add, Int.mul_assoc]; omega
  have key : ∀ c : Int, 2 * b * c ≤ 2 * a + b → 2 * a + b < 2 * b * (c + 1) → rnd a b = c := fun c hc1 hc2 => by
    have := le_rnd (a := a) (b := b) (q := c) h hb hc1
    have := rnd_le (a := a) (b := b) (q := c) h hb hc2
    omega
  split
  · exact key _ (by rw [e]; omega) (by rw [e2]; omega)
  · exact key _ (by rw [e0]; omega) (by rw [e]; omega)

/-- the post of a function that only reads (it may draw) -/
def RetI (v : Int) (w : World) (e : Ending) (w' : World) : Prop := e = .returned (.int .i64 v) ∧ ∃ n, w' = w.drewN n

end Go.Proofs.Ytnflpnbpigcfhaa
/- within: all numbers are at most as great as a bound -/
namespace Go.Proofs.Ytnflpnbpigcfhaa
open Go.RowKit Ear

/-- a predicate on integers that has captured something and only computes, as long as the world is as it is -/
structure PredC (g : FuncId) (q : Value) (p : Int → Bool) (w : World) : Prop where
  enter : ∀ (args : Array Value) (w : World), (callFunc g args).run Try.prog w = .ok (.enter g args) w
  gives : ∀ (x : Int), Calls Try.prog g #[.int .i64 x, q] w fun e w' => e = .returned (.bool (p x)) ∧ w = w'

set_option maxRecDepth 100000 in
set_option maxHeartbeats 400000 in
theorem IndexI_c (g : FuncId) (q : Value) (p : Int → Bool) (A : Option Addr) (c : Nat) (l : List Int) (w : World) (hp : PredC g q p w) (h : Lies w A (ics l)) (hn : l.length ≤ 9223372036854775807) :
    Calls Try.prog 40 #[.slice A l.length c, .func (.func g) #[] #[q]] w (IdxPost p l w) := by
  have heg := hp.enter
  go_enter Try.func40, Try.ntmps40
  go_wp2
  go_loop [5, 8] (fun _ i => ∃ k : Nat, k ≤ l.length ∧ i = .int .i64 k ∧ (l.take k).any p = false) (fun _ i => l.length - (intOf i).toNat)
  case atStart => exact ⟨0, Nat.zero_le _, rfl, rfl⟩
  case round =>
    obtain ⟨k, hk, rfl, hp'⟩ := hrel
    have HP := Lib.hid hp'
    clear hp'
    by_cases hlt : k < l.length
    · obtain ⟨bk, off, rfl, hb, hc⟩ := h.at_ hlt
      go_wp2_with fail
      refine (hp.gives _).mono ?_
      rintro e w' ⟨rfl, rfl⟩
      cases hpx : p l[k] with
      | true =>
        have HX := Lib.hid hpx
        clear hpx
        go_wp2_with fail
        go_ret
        exact ⟨k, rfl, rfl, by rw [any_true_at hlt HX.out]; simp⟩
      | false =>
        have HX := Lib.hid hpx
        clear hpx
        go_wp2_with fail
        exact ⟨⟨k + 1, by omega, by go_num, any_take_succ hlt HP.out HX.out⟩, by simp [intOf]; omega⟩
    · go_wp2
      go_ret
      exact ⟨-1, rfl, rfl, by have hh := HP.out; rw [List.take_of_length_le (by omega)] at hh; rw [hh]; rfl⟩

set_option maxHeartbeats 400000 in
theorem ContainsI_c (g : FuncId) (q : Value) (p : Int → Bool) (A : Option Addr) (c : Nat) (l : List Int) (w : World) (hp : PredC g q p w) (h : Lies w A (ics l)) (hn : l.length ≤ 9223372036854775807) :
    Calls Try.prog 30 #[.slice A l.length c, .func (.func g) #[] #[q]] w fun e w' => e = .returned (.bool (l.any p)) ∧ w = w' := by
  go_enter Try.func30, Try.ntmps30
  go_wp2_with fail
  refine (IndexI_c g q p A c l _ hp h hn).mono ?_
  rintro e w' ⟨r, rfl, rfl, hr⟩
  have HR := Lib.hid hr
  clear hr
  go_wp2_with fail
  go_ret
  exact ⟨ret_bool HR.out, rfl⟩

/-- the post of a function that only makes memory and answers a bool -/
def RetB (b : Bool) (w : World) (e : Ending) (w' : World) : Prop := e = .returned (.bool b) ∧ Below w.heap.size w w'

end Go.Proofs.Ytnflpnbpigcfhaa
/- make of integers, as an owned row of zeros -/
namespace Go.Proofs.Ytnflpnbpigcfhaa
open Go.RowKit Ear

theorem made_ints (n : Nat) : (madeCells (Value.int .i64 0).cells (n * 1)).toList = ics (List.replicate n 0) := by
  apply List.ext_getElem (by simp [madeCells])
  intro k h1 h2
  simp [madeCells, Value.cells, Nat.mod_one]
/-- the post of a function that makes a list of integers -/
def RetInts (out : List Int) (w : World) (e : Ending) (w' : World) : Prop :=
  ∃ A c, e = .returned (.slice A out.length c) ∧ w'.ownsRow w.heap.size 3 1 (.slice A out.length c) out.length (ics out) ∧ Below w.heap.size w w'

/-- make([]int, n) -/
theorem make_ints (w : World) (n : Nat) (hn : n ≤ 1000000000) (base : Nat) (hb : base ≤ w.heap.size) :
    ∃ w', (Instr.makeSlice 22 (.int .i64 (n : Int)) (.int .i64 (n : Int))).run Try.prog w = .ok (.slice (some ⟨w.heap.size, 0, none⟩) n n) w' ∧
      w'.ownsRow base 3 1 (.slice (some ⟨w.heap.size, 0, none⟩) n n) n (ics (List.replicate n 0)) ∧ Below w.heap.size w w' := by
  obtain ⟨i0, hi0, hz0, hz1, hz2⟩ := info_parts int_info
  obtain ⟨w', h1, h2, h3⟩ := run_make_full (P := Try.prog) w base 22 3 i0 _ 1 Try.underlying22 hi0 hz0 hz1 .i64 .i64 n (by rw [hz2]; omega) (by unfold maxLen; omega) hb
  rw [made_ints] at h2
  exact ⟨w', h1, h2, below_none h3⟩
end Go.Proofs.Ytnflpnbpigcfhaa
/- feature.cosine, the reference's C -/
namespace Go.Proofs.Ytnflpnbpigcfhaa
open Go.RowKit Ear

end Go.Proofs.Ytnflpnbpigcfhaa
/- transform, the reference's Transform -/
namespace Go.Proofs.Ytnflpnbpigcfhaa
open Go.RowKit Ear

end Go.Proofs.Ytnflpnbpigcfhaa
/- Transform, spectrum, Spectrum and the reference's -/
namespace Go.Proofs.Ytnflpnbpigcfhaa
open Go.RowKit Ear

/-- what Transform answers -/
def trfR (l : List Int) : Int × List Int := if lenOk l.length = true ∧ allR (-65536) 65536 l = true then (0, trf l) else (2, [])
/-- the spectrum -/
def spc (l : List Int) : List Int := (trf l).map (rnd · 16384)
theorem spc_length (l : List Int) : (spc l).length = l.length := by simp [spc, trf_length]
def spcR (l : List Int) : Int × List Int := if lenOk l.length = true ∧ allR (-65536) 65536 l = true then (0, spc l) else (2, [])
theorem trf_bd {l : List Int} (h : allR (-65536) 65536 l = true) (hn : l.length ≤ 64) (k : Nat) : -68719476736 ≤ (trf l)[k]?.getD 0 ∧ (trf l)[k]?.getD 0 ≤ 68719476736 := by
  by_cases hk : k < l.length
  · have := trS_bd64 h l.length k l.length hn
    rw [List.getElem?_eq_getElem (by rw [trf_length]; exact hk)]
    simpa [trf] using this
  · rw [List.getElem?_eq_none (by rw [trf_length]; omega)]; simp

theorem spc_fill (l : List Int) : fillTo (fun q => rnd ((trf l)[q]?.getD 0) 16384) l.length l.length = spc l := by
  rw [fillTo_all]
  have := range_map_get (trf l) (rnd · 16384)
  rw [trf_length] at this
  exact this

end Go.Proofs.Ytnflpnbpigcfhaa
/- copy into a row that the call owns whole; fitting, Padded, extended -/
namespace Go.Proofs.Ytnflpnbpigcfhaa
open Go.RowKit Ear

theorem own_whole {w : World} {base : Nat} {e : TypeId} {n g : Nat} {xs : List Value} (h : w.ownsRow base e 1 (.slice (some ⟨g, 0, none⟩) n n) n xs) : base ≤ g ∧ xs.length = n ∧ w.heap[g]? = some (.cells xs.toArray e (0, 0)) := by
  obtain ⟨h1, h2⟩ := h
  rcases h2 with ⟨h2, _⟩ | ⟨g', cap, cur, hv, hb, hg, _, _, hs, ht⟩
  · cases h2
  · injection hv with e1 _ e3
    injection e1 with e1
    injection e1 with e1 _ _
    subst e1 e3
    rw [List.take_of_length_le (by simp; omega)] at ht
    subst ht
    exact ⟨hb, by simpa using h1, by simpa using hg⟩
theorem own_of_row {w : World} {base : Nat} {e : TypeId} {n g : Nat} {xs : List Value} (hb : base ≤ g) (hg : w.heap[g]? = some (.cells xs.toArray e (0, 0))) (hl : xs.length = n) (hm : n ≤ maxLen) : w.ownsRow base e 1 (.slice (some ⟨g, 0, none⟩) n n) n xs :=
  ⟨by omega, .inr ⟨g, n, xs.toArray, rfl, hb, hg, Nat.le_refl _, hm, by simp [hl], List.take_of_length_le (by simp; omega)⟩⟩

/-- copy of integers into a row that is owned whole -/
theorem wpList_copy_ints {w : World} {ops : Array Oper} {rest : List Oper} {o : Oper} {a : Act} {Q : Exit → Act → World → Prop} (hgd : o.guard = none) (d s : Operand)
    (ho : o.op = .call { callee := .builtin .copy, args := #[d, s], argTypes := #[22, 22] })
    (g n c : Nat) (A : Option Addr) (l ys : List Int) (hd : a.eval d = .slice (some ⟨g, 0, none⟩) n n) (hs : a.eval s = .slice A l.length c) (hl : l.length ≤ n) (base : Nat)
    (hown : w.ownsRow base 3 1 (.slice (some ⟨g, 0, none⟩) n n) n (ics ys)) (hm : n ≤ maxLen) (hlie : Lies w A (ics l)) (B : Nat) (w0 : World) (hb : Below B w0 w) (hBg : B ≤ g)
    (h : ∀ w', w'.ownsRow base 3 1 (.slice (some ⟨g, 0, none⟩) n n) n (ics (l ++ ys.drop l.length)) → Below B w0 w' → wpList Try.prog ops Q rest (a.put o.dst (goInt l.length)) w') :
    wpList Try.prog ops Q (o :: rest) a w := by
  obtain ⟨hbg, hyl, hrow⟩ := own_whole hown
  have hcl : (ics l).length = l.length := by simp
  have hsz : (Try.prog.info? 3).map (·.size) = some 1 := by kernel_rfl
  refine wpList_copy_splice hgd d s 22 22 ho 3 Try.underlying22 hsz (some ⟨g, 0, none⟩) A n n l.length c hd hs g 0 (ics ys) 3 hrow (ics l) (by rw [hcl]; exact (Nat.min_eq_left hl).symm) ?_ (by omega) (ics_one l) B w0 hb hBg ?_
  · intro h0
    obtain ⟨b, off, e, _, _⟩ := hlie h0
    exact ⟨rfl, ⟨b, off, none⟩, e, fun j v hv => (e ▸ hlie).cells_add j v hv⟩
  · intro w' hrow' hb'
    have e : splice (ics ys) 0 (ics l) = ics (l ++ ys.drop l.length) := by simp [splice]
    rw [e] at hrow'
    rw [hcl]
    refine h w' (own_of_row hbg hrow'.out ?_ hm) hb'
    simp at hyl ⊢
    omega

/-- a list with zeros added -/
def ext (l : List Int) (n : Nat) : List Int := l ++ List.replicate (n - l.length) 0
theorem ext_length {l : List Int} {n : Nat} (h : l.length ≤ n) : (ext l n).length = n := by simp [ext]; omega

end Go.Proofs.Ytnflpnbpigcfhaa
/- square: a number in digits of 32 bits, times itself -/
namespace Go.Proofs.Ytnflpnbpigcfhaa
open Go.RowKit Ear

/-- digits as cells -/
abbrev ucs (l : List Int) : List Value := l.map (Value.int .u32)
theorem u32_info : (Try.prog.info? 90).map (fun i => (i.zero, i.size, i.bytes)) = some (some (.int .u32 0), 1, 4) := by kernel_rfl
theorem made_u32 (n : Nat) : (madeCells (Value.int .u32 0).cells (n * 1)).toList = ucs (List.replicate n 0) := by
  apply List.ext_getElem (by simp [madeCells])
  intro k h1 h2
  simp [madeCells, Value.cells, Nat.mod_one]
theorem Lies.uat {w : World} {A : Option Addr} {l : List Int} (h : Lies w A (ucs l)) {k : Nat} (hk : k < l.length) :
    ∃ b off, A = some ⟨b, off, none⟩ ∧ b < w.heap.size ∧ w.cell? ⟨b, off + k, none⟩ = some (.int .u32 (l[k]?.getD 0)) := by
  obtain ⟨b, off, e, hb, hc⟩ := h (by simp; omega)
  refine ⟨b, off, e, hb, hc k _ ?_⟩
  simp [List.getElem?_eq_getElem hk]
/-- the post of square -/
def SqPost (a : List Int) (w : World) (e : Ending) (w' : World) : Prop :=
  ∃ out A c, e = .returned (.slice A out.length c) ∧ w'.ownsRow w.heap.size 90 1 (.slice A out.length c) out.length (ucs out) ∧ Below w.heap.size w w' ∧ out.length = 2 * a.length ∧ dgs out ∧ vl out = vl a * vl a

end Go.Proofs.Ytnflpnbpigcfhaa
/- logarithm, Log -/
namespace Go.Proofs.Ytnflpnbpigcfhaa
open Go.RowKit Ear

/-- a number comes back; memory may have been made -/
def RetIB (v : Int) (w : World) (e : Ending) (w' : World) : Prop := e = .returned (.int .i64 v) ∧ Below w.heap.size w w'

/-- the power: its digits -/
structure Pw (e k : Nat) (p : List Int) : Prop where
  len : p.length = 2 ^ (k + 1)
  dig : dgs p
  val : vl p = ((e ^ 2 ^ k : Nat) : Int)

/-- the post of a function that answers a number and an error -/
def RetIE (v err : Int) (w : World) (e : Ending) (w' : World) : Prop := e = .returned (.tuple #[.int .i64 v, .int .i64 err]) ∧ Below w.heap.size w w'
end Go.Proofs.Ytnflpnbpigcfhaa
/- vectors, codebook, fits: what is a list of vectors -/
namespace Go.Proofs.Ytnflpnbpigcfhaa
open Go.RowKit Ear

/-- the numbers of lists -/
abbrev vsOf (L : List Inn) : List (List Int) := L.map fun x => x.2.2
theorem len0_at {L : List Inn} (h : 0 < L.length) : len0 (vsOf L) = L[0].2.2.length := by
  cases L with
  | nil => simp at h
  | cons x L => rfl
end Go.Proofs.Ytnflpnbpigcfhaa
/- codebook, fits (written by mk_fit.py) -/
namespace Go.Proofs.Ytnflpnbpigcfhaa
open Go.RowKit Ear

/-- what a list of lists is, as an argument -/
structure LL (w : World) (A : Option Addr) (L : List Inn) : Prop where
  lies : Lies w A (lcs L)
  inn : ∀ x ∈ L, InOk w x
theorem LL.below {w w' : World} {A : Option Addr} {L : List Inn} (h : LL w A L) (hb : Below w.heap.size w w') : LL w' A L := ⟨h.lies.below hb, fun x hx => (h.inn x hx).below hb⟩

end Go.Proofs.Ytnflpnbpigcfhaa
/- blocks that bear their type: lists of lists that the call itself makes -/
namespace Go.Proofs.Ytnflpnbpigcfhaa
open Go.RowKit Ear

/-- block b bears the type e -/
def BT (w : World) (b : Nat) (e : TypeId) : Prop := ∃ cur fr, w.heap[b]? = some (.cells cur e fr)
section
variable {w w' : World} {b b' : Nat} {e e' : TypeId}
theorem BT.lt (h : BT w b e) : b < w.heap.size := by obtain ⟨c, f, h⟩ := h; exact (Array.getElem?_eq_some_iff.1 h).1
theorem BT.ne (h : BT w b e) (h' : BT w b' e') (hne : e ≠ e') : b ≠ b' := by
  rintro rfl
  obtain ⟨c, f, h⟩ := h
  obtain ⟨c', f', h'⟩ := h'
  rw [h] at h'
  injection h' with h'
  injection h' with _ h2 _
  exact hne h2
theorem BT.block (h : BT w b e) (he : w'.heap[b]? = w.heap[b]?) : BT w' b e := by
  obtain ⟨c, f, h⟩ := h
  exact ⟨c, f, he.trans h⟩
theorem BT.set (h : BT w b e) (p : Addr) (u : Value) : BT (w.setCell p u) b e := by
  by_cases hp : p.block = b
  · obtain ⟨c, f, h⟩ := h
    have hlt := (Array.getElem?_eq_some_iff.1 h).1
    subst hp
    have h' : w.heap[p.block] = .cells c e f := by simpa [Array.getElem?_eq_getElem hlt] using h
    refine ⟨if p.spot.isSome then c else c.setIfInBounds p.off u, f, ?_⟩
    show (w.heap.modify p.block _)[p.block]? = _
    rw [Array.getElem?_eq_getElem (by simpa using hlt), Array.getElem_modify_self, h']
  · exact h.block (Below.heap_setCell w p u b (fun e => hp e.symm))
theorem BT.below (h : BT w b e) (hb : Below w.heap.size w w') : BT w' b e := h.block (hb.block b h.lt)
theorem BT.grown (h : BT w b e) {row : Option Nat} (hg : w.grownBy w' row) (hr : row ≠ some b) : BT w' b e := h.block (hg.block b h.lt (fun x => hr x.symm))
theorem BT.of_own {base size n : Nat} {v : Value} {xs : List Value} (h : w.ownsRow base e size v n xs) (hv : v.ownBlock = some b) : BT w b e := by
  rcases h.2 with ⟨rfl, _⟩ | ⟨g, cap, cur, rfl, _, hg, _⟩
  · simp [Value.ownBlock] at hv
  · simp [Value.ownBlock] at hv; subst hv; exact ⟨cur, _, hg⟩
end
/-- the slice's block bears the type -/
def Typed (w : World) (A : Option Addr) (e : TypeId) : Prop := ∀ b off, A = some ⟨b, off, none⟩ → BT w b e
/-- an inner list whose block bears its type -/
def InT (w : World) (x : Inn) : Prop := InOk w x ∧ Typed w x.1 3
theorem InT.below {w w' : World} {x : Inn} (h : InT w x) (hb : Below w.heap.size w w') : InT w' x := ⟨h.1.below hb, fun b off e => (h.2 b off e).below hb⟩
theorem InT.drew {w : World} {x : Inn} (h : InT w x) : InT w.drew x := h
theorem InT.drewN {w : World} {x : Inn} (h : InT w x) (n : Nat) : InT (w.drewN n) x := h
/-- an inner list stays if what turns is a row of another type -/
theorem InT.block {w w' : World} {x : Inn} (h : InT w x) (hs : w.heap.size ≤ w'.heap.size) (hk : ∀ b, BT w b 3 → w'.heap[b]? = w.heap[b]?) : InT w' x := by
  refine ⟨⟨fun h0 => ?_, h.1.2⟩, fun b off e => (h.2 b off e).block (hk b (h.2 b off e))⟩
  obtain ⟨b, off, e, hb, hc⟩ := h.1.1 h0
  exact ⟨b, off, e, Nat.lt_of_lt_of_le hb hs, fun k u hu => (World.cell?_of_block (a := ⟨b, off + k, none⟩) (hk b (h.2 b off e))).trans (hc k u hu)⟩
theorem InT.grown {w w' : World} {x : Inn} (h : InT w x) {row : Option Nat} (hg : w.grownBy w' row) {e : TypeId} (hr : ∀ k, row = some k → k < w.heap.size → BT w k e) (he : e ≠ 3) : InT w' x :=
  h.block hg.size fun b hb => hg.block b hb.lt fun e' => (hr b e'.symm hb.lt).ne hb he rfl
theorem InT.set {w : World} {x : Inn} (h : InT w x) {p : Addr} {e : TypeId} (hp : BT w p.block e) (he : e ≠ 3) (u : Value) : InT (w.setCell p u) x :=
  h.block (by simp [World.setCell]) fun b hb => Below.heap_setCell w p u b (fun e' => hp.ne hb he e'.symm)
theorem InT.of_own {w : World} {base n c : Nat} {A : Option Addr} {l : List Int} (h : w.ownsRow base 3 1 (.slice A n c) n (ics l)) (hn : n = l.length) (hl : n ≤ 9223372036854775807) (hB : ∀ y ∈ l, -9223372036854775808 ≤ y ∧ y ≤ 9223372036854775807) : InT w (A, c, l) := by
  subst hn
  refine ⟨⟨Lies.of_own h, fun e => ?_, hl, own_cap h, hB⟩, fun b off e => BT.of_own h (by simp only at e; subst e; rfl)⟩
  simp only at e
  subst e
  rcases h.2 with ⟨e1, e2⟩ | ⟨g, cap, cur, e1, _⟩
  · injection e1 with _ _ e3
    exact ⟨e3, List.length_eq_zero_iff.1 e2⟩
  · injection e1 with e3; cases e3
theorem InT.nil (w : World) : InT w (none, 0, []) := ⟨⟨Lies.nil _ _, fun _ => ⟨rfl, rfl⟩, by simp, by simp, by simp⟩, fun b off e => by cases e⟩
/-- a list of lists that the call has made -/
structure LLo (w : World) (base : Nat) (A : Option Addr) (c : Nat) (L : List Inn) : Prop where
  row : w.ownsRow base 22 1 (.slice A L.length c) L.length (lcs L)
  inn : ∀ x ∈ L, InT w x
theorem LLo.lies {w : World} {base c : Nat} {A : Option Addr} {L : List Inn} (h : LLo w base A c L) : Lies w A (lcs L) := Lies.of_own h.row
theorem LLo.nil (w : World) (base : Nat) : LLo w base none 0 [] := ⟨World.ownsRow_nil _ _ _ _, fun x h => by simp at h⟩
theorem LLo.below {w w' : World} {base c : Nat} {A : Option Addr} {L : List Inn} (h : LLo w base A c L) (hb : Below w.heap.size w w') : LLo w' base A c L := ⟨own_below h.row hb, fun x hx => (h.inn x hx).below hb⟩
theorem LLo.le {w : World} {base base' c : Nat} {A : Option Addr} {L : List Inn} (h : LLo w base A c L) (hb : base' ≤ base) : LLo w base' A c L := ⟨ownsRow_le h.row hb, h.inn⟩
theorem LLo.drew {w : World} {base c : Nat} {A : Option Addr} {L : List Inn} (h : LLo w base A c L) : LLo w.drew base A c L := ⟨h.row, h.inn⟩
theorem LLo.drewN {w : World} {base c : Nat} {A : Option Addr} {L : List Inn} (h : LLo w base A c L) (n : Nat) : LLo (w.drewN n) base A c L := ⟨h.row, h.inn⟩
/-- behind an append of one list -/
theorem LLo.snoc {w w' : World} {base base' c c' n : Nat} {A A' : Option Addr} {L : List Inn} {x : Inn} (h : LLo w base A c L) (hx : InT w x) (hg : w.grownBy w' (Value.slice A n c).ownBlock)
    (hr : w'.ownsRow base' 22 1 (.slice A' (L.length + 1) c') (L.length + 1) (lcs L ++ [Value.slice x.1 x.2.2.length x.2.1])) : LLo w' base' A' c' (L ++ [x]) := by
  have key : ∀ y, InT w y → InT w' y := fun y hy => hy.grown hg (e := 22) (fun k e _ => BT.of_own (v := .slice A L.length c) h.row (by rw [← e]; cases A <;> rfl)) (by decide)
  refine ⟨by simpa using hr, fun y hy => ?_⟩
  rcases List.mem_append.1 hy with hy | hy
  · exact key y (h.inn y hy)
  · simp at hy; subst hy; exact key y hx
/-- behind a store of a list into a place of the row -/
theorem LLo.put {w w' : World} {base n c g k : Nat} {L : List Inn} {x : Inn} (h : LLo w base (some ⟨g, 0, none⟩) c L) (hn : n = L.length) (hs : w.heap.size ≤ w'.heap.size)
    (hk : ∀ b, b < w.heap.size → b ≠ g → w'.heap[b]? = w.heap[b]?) (hg : w'.heap[g]? = (w.setCell ⟨g, k, none⟩ (.slice x.1 x.2.2.length x.2.1)).heap[g]?) (hx : InT w' x) (hkn : k < n) :
    LLo w' base (some ⟨g, 0, none⟩) c (L.set k x) := by
  subst hn
  have hbt : BT w g 22 := BT.of_own h.row rfl
  refine ⟨?_, fun y hy => ?_⟩
  · have h1 := (h.row.stored k (.slice x.1 x.2.2.length x.2.1)).1
    rw [List.length_set]
    have e : (lcs L).set k (.slice x.1 x.2.2.length x.2.1) = lcs (L.set k x) := by simp [lcs, List.map_set]
    rw [e] at h1
    obtain ⟨q1, q2⟩ := h1
    refine ⟨q1, ?_⟩
    rcases q2 with ⟨e1, _⟩ | ⟨g', cap, cur, e1, hb, hgg, rest⟩
    · cases e1
    · injection e1 with e2 _ e3
      injection e2 with e2
      injection e2 with e2 _ _
      subst e2 e3
      exact .inr ⟨g, c, cur, rfl, hb, hg.trans hgg, rest⟩
  · rcases List.mem_or_eq_of_mem_set hy with hy | rfl
    · exact (h.inn y hy).block hs fun b hb => hk b hb.lt (hb.ne hbt (by decide))
    · exact hx
/-- the post of a function that makes a list of lists -/
def RetLL (out : List (List Int)) (w : World) (e : Ending) (w' : World) : Prop :=
  ∃ A c L, e = .returned (.slice A (L : List Inn).length c) ∧ Hid (vsOf L = out) ∧ LLo w' w.heap.size A c L ∧ Below w.heap.size w w'
/-- the same, with an error -/
def LLErr (err : Int) (out : List (List Int)) (w : World) (e : Ending) (w' : World) : Prop :=
  ∃ A c L, e = .returned (.tuple #[.slice A (L : List Inn).length c, .int .i64 err]) ∧ Hid (vsOf L = out) ∧ LLo w' w.heap.size A c L ∧ Below w.heap.size w w'
theorem vsOf_get {L : List Inn} {k : Nat} (hk : k < L.length) : (vsOf L)[k]?.getD [] = L[k].2.2 := by
  rw [List.getElem?_map, List.getElem?_eq_getElem hk]; rfl

theorem info_ints : (Try.prog.info? 22).map (fun i => (i.zero, i.size, i.bytes)) = some (some (.slice none 0 0), 1, 24) := by kernel_rfl
theorem made_slices (n : Nat) : (madeCells (Value.slice none 0 0).cells (n * 1)).toList = lcs (List.replicate n (none, 0, [])) := by
  apply List.ext_getElem (by simp [madeCells])
  intro k h1 h2
  simp [madeCells, Value.cells, Nat.mod_one]
/-- make([][]int, n) -/
theorem make_intss (w : World) (n : Nat) (hn : n ≤ 1000000000) (base : Nat) (hb : base ≤ w.heap.size) :
    ∃ w', (Instr.makeSlice 25 (.int .i64 (n : Int)) (.int .i64 (n : Int))).run Try.prog w = .ok (.slice (some ⟨w.heap.size, 0, none⟩) n n) w' ∧
      LLo w' base (some ⟨w.heap.size, 0, none⟩) n (List.replicate n (none, 0, [])) ∧ Below w.heap.size w w' := by
  obtain ⟨i0, hi0, hz0, hz1, hz2⟩ := info_parts info_ints
  obtain ⟨w', h1, h2, h3⟩ := run_make_full (P := Try.prog) w base 25 22 i0 _ 1 Try.underlying25 hi0 hz0 hz1 .i64 .i64 n (by rw [hz2]; omega) (by unfold maxLen; omega) hb
  rw [made_slices] at h2
  refine ⟨w', h1, ⟨by simpa using h2, fun x hx => ?_⟩, below_none h3⟩
  rw [List.eq_of_mem_replicate hx]
  exact InT.nil _
end Go.Proofs.Ytnflpnbpigcfhaa
/- small facts on rows that the call owns -/
namespace Go.Proofs.Ytnflpnbpigcfhaa
open Go.RowKit Ear

theorem lies_new (w : World) (u : Value) (t : TypeId) : Lies (w.alloc (.cells #[u] t)) (some ⟨w.heap.size, 0, none⟩) [u] := fun _ =>
  ⟨w.heap.size, 0, rfl, by simp, fun k v hv => by rw [Nat.zero_add, cell_of_row _ _ k _ _ _ (heap_alloc_new w _)]; simpa using hv⟩
theorem lcs_one (L : List Inn) : ∀ u ∈ lcs L, u.oneCell' = true := by
  intro u hu
  obtain ⟨x, _, rfl⟩ := List.mem_map.1 hu
  rfl
/-- a row of integers: its k-th cell, ready for a store -/
theorem own_cell {w : World} {base g n c k : Nat} {f : Nat → Int} (ho : w.ownsRow base 3 1 (.slice (some ⟨g, 0, none⟩) n c) n (ics (fillTo f n k))) (hk : k < n) : w.cell? ⟨g, k, none⟩ = some (.int .i64 0) ∧ w.frozen? ⟨g, k, none⟩ = false :=
  ⟨by rw [ho.cellAt k (by omega)]; simp only [List.getElem?_map, fillTo_get _ n k hk]; rfl, ho.frozenAt k⟩
theorem own_put {w : World} {base g n c k : Nat} {f : Nat → Int} (ho : w.ownsRow base 3 1 (.slice (some ⟨g, 0, none⟩) n c) n (ics (fillTo f n k))) : (w.setCell ⟨g, k, none⟩ (.int .i64 (f k))).ownsRow base 3 1 (.slice (some ⟨g, 0, none⟩) n c) n (ics (fillTo f n (k + 1))) := by
  have h := (ho.stored k (.int .i64 (f k))).1
  rw [← List.map_set, fillTo_set f n k (f k) rfl] at h
  exact h
theorem LLo.ll {w : World} {base c : Nat} {A : Option Addr} {L : List Inn} (h : LLo w base A c L) : LL w A L := ⟨h.lies, fun x hx => (h.inn x hx).1⟩
end Go.Proofs.Ytnflpnbpigcfhaa
/- SameLists: equality of two lists of lists -/
namespace Go.Proofs.Ytnflpnbpigcfhaa
open Go.RowKit Ear

theorem vs_take_succ {a b : List (List Int)} {k : Nat} (hk : k < a.length) (hk' : k < b.length) (h : a.take k = b.take k) (hx : a[k] = b[k]) : a.take (k + 1) = b.take (k + 1) := by
  rw [List.take_succ_eq_append_getElem hk, List.take_succ_eq_append_getElem hk', h, hx]

set_option maxRecDepth 100000 in
set_option maxHeartbeats 1000000 in
theorem SameLists_any (A B : Option Addr) (c d : Nat) (L M : List Inn) (w : World) (hA : LL w A L) (hB : LL w B M) (hna : L.length ≤ 9223372036854775807) (r : Bool) (hr : Hid (decide (vsOf L = vsOf M) = r)) :
    Calls Try.prog 9 #[.slice A L.length c, .slice B M.length d] w (RetBool r w) := by
  have HVL : Hid ((vsOf L).length = L.length) := Lib.hid (by simp)
  have HVM : Hid ((vsOf M).length = M.length) := Lib.hid (by simp)
  by_cases hl : L.length = M.length
  · have H1 : ((L.length : Int) != (M.length : Int)) = false := by simp [hl]
    have HL := Lib.hid hl
    clear hl
    go_enter Try.func9, Try.ntmps9
    go_wp2
    go_loopw [5] (fun i wr => ∃ k : Nat, k ≤ L.length ∧ i = .int .i64 k ∧ Hid ((vsOf L).take k = (vsOf M).take k) ∧ ∃ n, wr = w.drewN n) (fun i _ => L.length - (intOf i).toNat)
    case atStart => exact ⟨0, Nat.zero_le _, rfl, rfl, 0, rfl⟩
    case round =>
      obtain ⟨k, hk, rfl, hp, n, rfl⟩ := hrel
      by_cases hlt : k < L.length
      · have hlt' : k < M.length := by have := HL.out; omega
        have q1 : k < (vsOf L).length := by rw [HVL.out]; exact hlt
        have q2 : k < (vsOf M).length := by rw [HVM.out]; exact hlt'
        obtain ⟨b1, o1, rfl, hb1, hc1⟩ := (show Lies (w.drewN n) A (lcs L) from hA.lies).lat hlt
        obtain ⟨b2, o2, rfl, hb2, hc2⟩ := (show Lies (w.drewN n) B (lcs M) from hB.lies).lat hlt'
        have hx1 : InOk (w.drewN n) L[k] := hA.inn _ (List.getElem_mem hlt)
        have hx2 : InOk (w.drewN n) M[k] := hB.inn _ (List.getElem_mem hlt')
        have hyes : Hid (L[k].2.2 = M[k].2.2 → (vsOf L).take (k + 1) = (vsOf M).take (k + 1)) := Lib.hid fun e => vs_take_succ q1 q2 hp.out (by simpa using e)
        have hno : Hid (¬ L[k].2.2 = M[k].2.2 → r = false) := Lib.hid fun e => by
          rw [← hr.out, decide_eq_false_iff_not]
          intro h
          apply e
          have h3 : (vsOf L)[k]? = (vsOf M)[k]? := by rw [h]
          rw [List.getElem?_eq_getElem q1, List.getElem?_eq_getElem q2] at h3
          injection h3 with h3
          simpa using h3
        clear q1 q2
        generalize L[k] = X at *
        generalize M[k] = Y at *
        obtain ⟨XA, Xc, xl⟩ := X
        obtain ⟨YA, Yc, yl⟩ := Y
        simp only at *
        generalize hwd : w.drewN n = wd at *
        have WD := Lib.hid hwd
        clear hwd
        have hxl := hx1.2.2.1
        have hyl := hx2.2.2.1
        simp only at hxl hyl
        cases hb : decide (xl = yl) with
        | true =>
          have HB := Lib.hid hb
          have HY := hyes.out (of_decide_eq_true hb)
          have HY' := Lib.hid HY
          clear hb HY
          have HQ := Lib.hid (fun m : Nat => Same_any XA YA Xc Yc xl yl (wd.drewN m) (hx1.1.drewN m) (hx2.1.drewN m) (by omega) (by omega) true HB)
          go_wp2_with fail
          go_quiet ((go_at_call 11; exact Calls.quiet_of (HQ.out _)))
          go_wp2_with fail
          exact ⟨⟨k + 1, by omega, by go_num, HY', by rw [← WD.out]; exact drewN_ex _ _ _⟩, by simp [intOf]; omega⟩
        | false =>
          have HB := Lib.hid hb
          have HY := hno.out (of_decide_eq_false hb)
          subst HY
          clear hb hr
          have HQ := Lib.hid (fun m : Nat => Same_any XA YA Xc Yc xl yl (wd.drewN m) (hx1.1.drewN m) (hx2.1.drewN m) (by omega) (by omega) false HB)
          go_wp2_with fail
          go_quiet ((go_at_call 11; exact Calls.quiet_of (HQ.out _)))
          go_wp2_with fail
          go_ret
          exact ⟨rfl, by rw [← WD.out]; exact drewN_ex _ _ _⟩
      · have HR : r = true := by
          have := hp.out
          rw [List.take_of_length_le (by rw [HVL.out]; omega), List.take_of_length_le (by rw [HVM.out]; have := HL.out; omega)] at this
          rw [← hr.out]; simp [this]
        subst HR
        clear hr
        go_wp2_with fail
        go_ret
        exact ⟨rfl, _, rfl⟩
  · have H1 : ((L.length : Int) != (M.length : Int)) = true := by simp; omega
    have HR : r = false := by
      rw [← hr.out]
      have : ¬ vsOf L = vsOf M := fun h => hl (by have := congrArg List.length h; simpa using this)
      simp [this]
    subst HR
    clear hr hl
    go_enter Try.func9, Try.ntmps9
    go_wp2
    go_ret
    exact ⟨rfl, 0, rfl⟩
end Go.Proofs.Ytnflpnbpigcfhaa
/- what both Frames answer -/
namespace Go.Proofs.Ytnflpnbpigcfhaa
open Go.RowKit Ear

/-- what Frames answers -/
def frmR (x : List Int) (size step : Int) (pad : Bool) : Int × List (List Int) :=
  if vchk x = 0 then (if 1 ≤ size ∧ size ≤ 4096 ∧ 1 ≤ step ∧ step ≤ 4096 then (if 4000000 < frN x.length size.toNat step.toNat pad * size.toNat then (5, []) else (0, frs x size.toNat step.toNat pad)) else (2, [])) else (vchk x, [])
theorem frA_rng {x : List Int} (h : ∀ y ∈ x, -9223372036854775808 ≤ y ∧ y ≤ 9223372036854775807) (size t : Nat) : ∀ y ∈ frA x size t, -9223372036854775808 ≤ y ∧ y ≤ 9223372036854775807 := by
  intro y hy
  unfold frA at hy
  obtain ⟨i, _, rfl⟩ := List.mem_map.1 hy
  by_cases hi : t + i < x.length
  · rw [List.getElem?_eq_getElem hi]; exact h _ (List.getElem_mem hi)
  · rw [List.getElem?_eq_none (by omega)]; simp
theorem LLErr.nil_ {err : Int} {w w' : World} {e : Ending} (he : e = .returned (.tuple #[.slice none 0 0, .int .i64 err])) (hb : Below w.heap.size w w') : LLErr err [] w e w' := ⟨none, 0, [], he, Lib.hid rfl, LLo.nil _ _, hb⟩
theorem vchk_len {x : List Int} (h : vchk x = 0) : x.length ≤ 200000 := by
  unfold vchk at h
  split at h
  · cases h
  · omega
theorem vchk_zero {x : List Int} : vchk x = 0 ↔ x.length ≤ 200000 ∧ vls x = true := by
  unfold vchk
  by_cases h : 200000 < x.length
  · rw [if_pos h]; simp; omega
  · rw [if_neg h]
    cases vls x <;> simp; omega
end Go.Proofs.Ytnflpnbpigcfhaa
