/- a part of TalkUnlearns -/
import Derived.Test.YtcjicjfbippmnaaGreatMTU26
import Derived.Test.YtcjicjfbippmnaaGreatMTU4
import Derived.Test.YtcjicjfbippmnaaGreatMTU2
set_option maxRecDepth 100000
set_option maxHeartbeats 32000000
namespace Go.Proofs.YtcjicjfbippmnaaGreat
open Go.RowKit Ear

structure Chg (w w' : World) (a a' : DlA) : Prop where
 os : w'.os = w.os
 tape : w'.tape = w.tape
 output : w'.output = w.output
 size : w.heap.size <= w'.heap.size
 block : ∀ b, b < w.heap.size -> b ≠ a.q -> b ≠ a.gF -> (∀ f ∈ a.Fm, blk f.A ≠ some b) -> w'.heap[b]? = w.heap[b]?
 fresh : ∀ f ∈ a'.Fm, ∀ b, blk f.A = some b -> (∃ g ∈ a.Fm, blk g.A = some b) ∨ w.heap.size <= b
 same : a'.q = a.q /\ a'.gF = a.gF
theorem Chg.of_below {w w' : World} {a : DlA} (h : Below w.heap.size w w') : Chg w w' a a := ⟨h.os, h.tape, h.output, h.size, fun b hb _ _ _ => h.block b hb, fun f hf _ hb => .inl ⟨f, hf, hb⟩, rfl, rfl⟩
theorem Chg.trans {w w' w'' : World} {a a' a'' : DlA} (h : Chg w w' a a') (k : Chg w' w'' a' a'') : Chg w w'' a a'' :=
 ⟨k.os.trans h.os, k.tape.trans h.tape, k.output.trans h.output, Nat.le_trans h.size k.size, fun b h1 h2 h3 h4 => (k.block b (Nat.lt_of_lt_of_le h1 h.size) (by rw [h.same.1]; exact h2) (by rw [h.same.2]; exact h3) (fun f hf e => by
  rcases h.fresh f hf b e with ⟨g, hg, e2⟩ | h5
  ·exact h4 g hg e2
  ·omega)).trans (h.block b h1 h2 h3 h4),
 fun f hf b hb => by
  rcases k.fresh f hf b hb with ⟨g, hg, e2⟩ | h5
  ·exact h.fresh g hg b e2
  ·exact .inr (Nat.le_trans h.size h5),
 k.same.1.trans h.same.1, k.same.2.trans h.same.2⟩
theorem fl_mem_set {Fs : List FlM} {k : Nat} {X x : FlM} (h : x ∈ Fs.set k X) : x = X ∨ ∃ j, ∃ hj : j < Fs.length, j ≠ k /\ x = Fs[j] := by
 obtain ⟨j, hj, rfl⟩ := List.getElem_of_mem h
 rw [List.getElem_set]
 split
 ·exact .inl rfl
 ·rename_i e
  exact .inr ⟨j, by simpa using hj, fun e2 => e e2.symm, rfl⟩
theorem fl_apart {Fs : List FlM} (h : Fs.Pairwise fun x y => ∀ k, blk x.A = some k -> blk y.A ≠ some k) {i j : Nat} (hi : i < Fs.length) (hj : j < Fs.length) (hne : i ≠ j) : ∀ k, blk Fs[i].A = some k -> blk Fs[j].A ≠ some k := by
 intro k h1 h2
 rw [List.pairwise_iff_getElem] at h
 rcases Nat.lt_or_ge i j with hl | hl
 ·exact h i j hi hj hl k h1 h2
 ·exact h j i hj hi (by omega) k h2 h1
theorem fl_apart_set {Fs : List FlM} {a : Nat} {X : FlM} (h : Fs.Pairwise fun x y => ∀ k, blk x.A = some k -> blk y.A ≠ some k) (hX : ∀ k, blk X.A = some k -> ∀ j (hj : j < Fs.length), j ≠ a -> blk Fs[j].A ≠ some k) : (Fs.set a X).Pairwise fun x y => ∀ k, blk x.A = some k -> blk y.A ≠ some k := by
 rw [List.pairwise_iff_getElem]
 intro i j hi hj hlt k h1 h2
 simp only [List.length_set] at hi hj
 rw [List.getElem_set] at h1 h2
 split at h1
 ·split at h2
  ·omega
  ·rename_i e1 e2
   exact hX k h1 j hj (fun e => e2 e.symm) h2
 ·split at h2
  ·rename_i e1 e2
   exact hX k h2 i hi (fun e => e1 e.symm) h1
  ·exact fl_apart h hi hj (by omega) k h1 h2
def DlA.put (a : DlA) (k : Nat) (Y : FlM) : DlA := { a with Fm := a.Fm.set k Y }
def _root_.Ear.PDl.put (D : PDl) (k : Nat) (f : PFl) : PDl := { D with F := D.F.set k f }
theorem DlM.put {w w' : World} {bs : Nat} {a : DlA} {D : PDl} (h : DlM w bs a D) {k : Nat} (hk : k < a.Fm.length) (Y : FlM) (hs : w.heap.size <= w'.heap.size) (ho : w'.os = w.os) (ht : w'.tape = w.tape) (hu : w'.output = w.output)
  (hrow : w'.ownsRow 0 76 3 (.slice (some ⟨a.gF, 0, none⟩) a.Fm.length a.fc) a.Fm.length (flcs (a.Fm.set k Y))) (hoth : ∀ b, b < w.heap.size -> b ≠ a.gF -> blk a.Fm[k].A ≠ some b -> w'.heap[b]? = w.heap[b]?)
  (hY : w'.ownsRow bs 9 1 (.slice Y.A Y.ref.length Y.c) Y.ref.length (sbs Y.ref)) (hfr : ∀ b, blk Y.A = some b -> blk a.Fm[k].A = some b ∨ w.heap.size <= b) : DlM w' bs (a.put k Y) (D.put k Y.pure) /\ Chg w w' a (a.put k Y) := by
 have hbF : BT w a.gF 76 := BT.of_own h.row rfl
 have hbX : ∀ b, blk a.Fm[k].A = some b -> BT w b 9 /\ bs <= b := fun b hb => ⟨BT.of_own (h.ref _ (List.getElem_mem hk)) (by rw [blk_eq]; exact hb), ((h.ref _ (List.getElem_mem hk)).lt b (by rw [blk_eq]; exact hb)).1⟩
 have hqb : BT w a.q 133 := ⟨_, _, h.cell⟩
 have hq : w'.heap[a.q]? = w.heap[a.q]? := hoth _ hqb.lt (hqb.ne hbF (by decide)) (fun e => (hbX _ e).1.ne hqb (by decide) rfl)
 refine ⟨⟨?_, ?_, ?_, ?_, ?_, ?_, ?_, ?_, h.lt.1, h.lt.2.1, Nat.le_trans h.lt.2.2 hs⟩, ?_⟩
 ·show w'.heap[a.q]? = some (.cells #[_, _, _, _, .slice (some ⟨a.gF, 0, none⟩) (a.Fm.set k Y).length a.fc, _, _, _, _, _] _ _)
  rw [List.length_set, hq]
  exact h.cell
 ·intro w2 hs2 hk2
  refine h.stab w2 (Nat.le_trans hs hs2) (fun b h1 h2 h3 => (hk2 b h1 h2 h3).trans (hoth b (Nat.lt_of_lt_of_le h1 h.lt.2.2) h3 (fun e => ?_)))
  have := (hbX b e).2
  omega
 ·show w'.ownsRow 0 _ 3 (.slice _ (a.Fm.set k Y).length _) (a.Fm.set k Y).length _
  rw [List.length_set]
  exact hrow
 ·intro f hf
  rcases fl_mem_set hf with rfl | ⟨j, hj, hne, rfl⟩
  ·exact hY
  ·have ho := h.ref _ (List.getElem_mem hj)
   have hgr : w.grownBy w' none ∨ True := .inr trivial
   refine ⟨ho.1, ?_⟩
   rcases ho.2 with hz | ⟨g, cap, cur, e1, e2, e3, rest⟩
   ·exact .inl hz
   ·refine .inr ⟨g, cap, cur, e1, e2, ?_, rest⟩
    have hbj : blk a.Fm[j].A = some g := by
     injection e1 with e1
     rw [e1]
     rfl
    have hgt : BT w g 9 := ⟨_, _, e3⟩
    rw [hoth g hgt.lt (hgt.ne hbF (by decide)) (fl_apart h.apart hj hk hne g hbj)]
    exact e3
 ·refine fl_apart_set h.apart fun b hb j hj hne e => ?_
  rcases hfr b hb with h1 | h1
  ·exact fl_apart h.apart hk hj (fun e => hne e.symm) b h1 e
  ·have := (BT.of_own (h.ref _ (List.getElem_mem hj)) (by rw [blk_eq]; exact e)).lt
   omega
 ·show (a.Fm.set k Y).map FlM.pure = D.F.set k Y.pure
  rw [List.map_set, h.pure]
 ·show (a.Fm.set k Y).length = a.Ss.length
  rw [List.length_set]
  exact h.len
 ·show 0 < (a.Fm.set k Y).length
  rw [List.length_set]
  exact h.pos
 ·refine ⟨ho, ht, hu, hs, fun b h1 _ h3 h4 => hoth b h1 h3 (h4 _ (List.getElem_mem hk)), fun f hf b hb => ?_, rfl, rfl⟩
  rcases fl_mem_set hf with rfl | ⟨j, hj, hne, rfl⟩
  ·rcases hfr b hb with h1 | h1
   ·exact .inl ⟨_, List.getElem_mem hk, h1⟩
   ·exact .inr h1
  ·exact .inl ⟨_, List.getElem_mem hj, hb⟩
theorem flcs_at (Fs : List FlM) {k : Nat} (hk : k < Fs.length) : ∃ O R, Fs = O ++ Fs[k] :: R /\ O.length = k /\ ∀ Y, Fs.set k Y = O ++ Y :: R := by
 refine ⟨Fs.take k, Fs.drop (k + 1), ?_, by simp; omega, fun Y => ?_⟩
 ·rw [<- List.drop_eq_getElem_cons hk, List.take_append_drop]
 ·exact List.set_eq_take_append_cons_drop.trans (by rw [if_pos hk])
theorem flcs_cutE (O R : List FlM) (x : FlM) : flcs (O ++ x :: R) = flcs O ++ (.int .i64 x.st :: .string x.val :: .slice x.A x.ref.length x.c :: flcs R) := by simp [flcs, flc]
theorem DlM.setSt {w : World} {bs : Nat} {a : DlA} {D : PDl} (h : DlM w bs a D) {k : Nat} (hk : k < a.Fm.length) (n : Int) : DlM (w.setCell ⟨a.gF, k * 3, none⟩ (.int .i64 n)) bs (a.put k { a.Fm[k] with st := n }) (D.put k { a.Fm[k].pure with st := n }) /\ Chg w (w.setCell ⟨a.gF, k * 3, none⟩ (.int .i64 n)) a (a.put k { a.Fm[k] with st := n }) := by
 obtain ⟨O, R, e1, e2, e3⟩ := flcs_at a.Fm hk
 have hst := h.row.stored (k * 3) (.int .i64 n)
 have hset : (flcs a.Fm).set (k * 3) (.int .i64 n) = flcs (a.Fm.set k { a.Fm[k] with st := n }) := by
  have hl : (flcs O).length = k * 3 := by rw [flcs_length, e2]
  rw [e3]
  conv => lhs; rw [e1]
  rw [flcs_cutE, flcs_cutE, List.set_append_right _ _ (by omega), hl, Nat.sub_self]
  rfl
 rw [hset] at hst
 have hr := h.ref _ (List.getElem_mem hk)
 have hbF : BT w a.gF 76 := BT.of_own h.row rfl
 refine h.put hk { a.Fm[k] with st := n } hst.2.size hst.2.os hst.2.tape hst.2.output hst.1 (fun b h1 h2 _ => hst.2.block b h1 (by intro e; injection e with e; exact h2 e)) ?_ (fun b hb => .inl hb)
 exact own_apart hr hst.2 (fun b hb e => by injection e with e; subst e; exact (BT.of_own hr hb).ne hbF (by decide) rfl)
theorem DlM.setVal {w : World} {bs : Nat} {a : DlA} {D : PDl} (h : DlM w bs a D) {k : Nat} (hk : k < a.Fm.length) (s : BA) : DlM (w.setCell ⟨a.gF, k * 3 + 1, none⟩ (.string s)) bs (a.put k { a.Fm[k] with val := s }) (D.put k { a.Fm[k].pure with val := s }) /\ Chg w (w.setCell ⟨a.gF, k * 3 + 1, none⟩ (.string s)) a (a.put k { a.Fm[k] with val := s }) := by
 obtain ⟨O, R, e1, e2, e3⟩ := flcs_at a.Fm hk
 have hst := h.row.stored (k * 3 + 1) (.string s)
 have hset : (flcs a.Fm).set (k * 3 + 1) (.string s) = flcs (a.Fm.set k { a.Fm[k] with val := s }) := by
  have hl : (flcs O).length = k * 3 := by rw [flcs_length, e2]
  rw [e3]
  conv => lhs; rw [e1]
  rw [flcs_cutE, flcs_cutE, List.set_append_right _ _ (by omega), hl, show k * 3 + 1 - k * 3 = 1 by omega]
  rfl
 rw [hset] at hst
 have hr := h.ref _ (List.getElem_mem hk)
 have hbF : BT w a.gF 76 := BT.of_own h.row rfl
 refine h.put hk { a.Fm[k] with val := s } hst.2.size hst.2.os hst.2.tape hst.2.output hst.1 (fun b h1 h2 _ => hst.2.block b h1 (by intro e; injection e with e; exact h2 e)) ?_ (fun b hb => .inl hb)
 exact own_apart hr hst.2 (fun b hb e => by injection e with e; subst e; exact (BT.of_own hr hb).ne hbF (by decide) rfl)
def RetEff (bs : Nat) (a : DlA) (r : Bool) (D : PDl) (w : World) (e : Ending) (w' : World) : Prop := ∃ a', e = .returned (.bool r) /\ DlM w' bs a' D /\ Chg w w' a a'
theorem yes_any (bs : Nat) (a : DlA) (D : PDl) (E : EvM) (q : Rat) (w : World) (h : DlM w bs a D) (hE : Fv w E.W q) (fE : Few E.W 90000) (k : Nat) (f : PFl) (ps : PSl) (hk : D.F[k]? = some f) (hs : D.S[k]? = some ps) (ha : askI D.F = k) (hn : a.Fm.length <= 1000000) (hp : 0 <= D.prompt /\ D.prompt <= 2199023255552) (hd : 0 <= D.need /\ D.need <= 10000) (r : Bool) (hr : Hid (ansB D f ps q E.at_ = r)) (D' : PDl) (hD' : Hid ((if r = true then D.put k { f with st := 3 } else D) = D')) :
  Calls Tryz.prog 139 #[.pointer (some ⟨a.q, 0, none⟩), E.v] w (RetEff bs a r D' w) := by
 obtain ⟨W0, hW0⟩ : ∃ W0 : World, W0 = w.alloc (.cells #[.int .i64 E.kind, .string E.val, .bool E.W.neg, .slice E.W.A E.W.N.length E.W.c, .slice E.W.B E.W.D.length E.W.d, .int .i64 E.at_] 61) := ⟨_, rfl⟩
 have HB0 : Hid (Below w.heap.size w W0) := zH (by rw [hW0]; exact (Below.refl _ _).alloc (Nat.le_refl _) _)
 have HX0 : Hid (W0.heap[w.heap.size]? = some (.cells #[.int .i64 E.kind, .string E.val, .bool E.W.neg, .slice E.W.A E.W.N.length E.W.c, .slice E.W.B E.W.D.length E.W.d, .int .i64 E.at_] 61 (0, 0))) := zH (by rw [hW0]; exact heap_alloc_new w _)
 have HD0 := zH (h.below HB0.out)
 have HAN := zH (answers_any bs a D E q W0 HD0.out (hE.below HB0.out) fE k f ps hk hs ha hn hp hd r hr)
 have hkF : k < a.Fm.length := by
  have h1 := (List.getElem?_eq_some_iff.1 hk).1
  have h2 := congrArg List.length h.pure
  simp at h2
  omega
 have efm : a.Fm[k].pure = f := by
  have h1 : (a.Fm.map FlM.pure)[k]? = some f := by rw [h.pure]; exact hk
  rw [List.getElem?_map, List.getElem?_eq_getElem hkF] at h1
  injection h1
 have EFM := zH efm
 have c0 := (cell_of_row _ _ 0 _ _ _ HX0.out).trans rfl
 have c1 := (cell_of_row _ _ 1 _ _ _ HX0.out).trans rfl
 have c2 := (cell_of_row _ _ 2 _ _ _ HX0.out).trans rfl
 have c3 := (cell_of_row _ _ 3 _ _ _ HX0.out).trans rfl
 have c4 := (cell_of_row _ _ 4 _ _ _ HX0.out).trans rfl
 have c5 := (cell_of_row _ _ 5 _ _ _ HX0.out).trans rfl
 clear h hE ha hp hd hr efm hk hs
 unfold EvM.v at *
 go_enter Tryz.func139, Tryz.ntmps139
 go_wp2_with fail
 rw [<- hW0]
 clear hW0
 go_wp2_with fail
 refine HAN.out.mono ?_
 rintro e W1 ⟨rfl, hb1⟩
 have HD1 := zH (HD0.out.below hb1)
 have HB1 := zH (HB0.out.trans (hb1.mono HB0.out.size))
 clear hb1 c0 c1 c2 c3 c4 c5 HAN
 cases r with
 | false =>
  go_wp2_with fail
  go_ret
  have e := hD'.out
  rw [if_neg (by decide)] at e
  exact ⟨a, rfl, e ▸ HD1.out, Chg.of_below HB1.out⟩
 | true =>
  obtain ⟨-, -, -, -, c4, -, -, -, -, -⟩ := HD1.out.cells
  obtain ⟨k0, -, -, f0, -, -⟩ := flc_at HD1.out.row rfl hkF
  have hki : (k : Int) < (a.Fm.length : Int) := by omega
  go_wp2_with fail
  go_ret
  obtain ⟨h1, h2⟩ := HD1.out.setSt hkF 3
  rw [EFM.out] at h1
  have e := hD'.out
  rw [if_pos trivial] at e
  exact ⟨_, rfl, e ▸ h1, (Chg.of_below HB1.out).trans h2⟩
def IdxStr (x : BA) (l : List BA) (w : World) (e : Ending) (w' : World) : Prop := ∃ r : Int, e = .returned (.int .i64 r) /\ w = w' /\ decide (0 <= r) = decide (x ∈ l)
theorem str_take {l : List BA} {k : Nat} (hk : k < l.length) {x : BA} (h : x ∉ l.take k) (h2 : ¬ x = l[k]) : x ∉ l.take (k + 1) := by
 rw [List.take_succ_eq_append_getElem hk]
 simp only [List.mem_append, List.mem_singleton, not_or]
 exact ⟨h, h2⟩
theorem IndexStr_any (A : Option Addr) (c : Nat) (l : List BA) (x : BA) (w : World) (h : Lies w A (sbs l)) (hn : l.length <= 9223372036854775807) :
  Calls Tryz.prog 197 #[.slice A l.length c, .string x] w (IdxStr x l w) := by
 go_enter Tryz.func197, Tryz.ntmps197
 go_wp2
 go_loop [5, 8] (fun _ i => ∃ k : Nat, k <= l.length /\ i = .int .i64 k /\ x ∉ l.take k) (fun _ i => l.length - (intOf i).toNat)
 case atStart => exact ⟨0, Nat.zero_le _, rfl, by simp⟩
 case round =>
  obtain ⟨k, hk, rfl, hp'⟩ := hrel
  have HP := zH hp'
  clear hp'
  by_cases hlt : k < l.length
  ·obtain ⟨bk, off, rfl, hb, hc⟩ := h
    (by simpa using Nat.lt_of_le_of_lt (Nat.zero_le k) hlt)
   have hc0 := hc k (.string l[k]) (by simp [List.getElem?_eq_getElem hlt])
   have HL := zH (rfl : l[k] = l[k])
   clear hc
   by_cases hx : x = l[k]
   ·have HX := zH hx
    rw [<- hx] at hc0
    clear hx
    go_wp2_with fail
    go_ret
    exact ⟨k, rfl, rfl, by rw [decide_eq_true (by omega), decide_eq_true (by rw [HX.out]; exact List.getElem_mem hlt)]⟩
   ·have HX := zH hx
    have hxx : (ByteArray.toList x == ByteArray.toList l[k]) = false := by rw [beq_eq_false_iff_ne]; rw [ByteArray.toList_eq, ByteArray.toList_eq]; exact fun e => hx (by cases hq : l[k]; cases x; rw [hq] at e; simpa using e)
    clear hx
    go_wp2_with fail
    exact ⟨⟨k + 1, by omega, by go_num, str_take hlt HP.out HX.out⟩, by simp [intOf]; omega⟩
  ·go_wp2
   go_ret
   exact ⟨-1, rfl, rfl, by have hh := HP.out; rw [List.take_of_length_le (by omega)] at hh; rw [decide_eq_false hh]; rfl⟩
theorem ContainsStr_any (A : Option Addr) (c : Nat) (l : List BA) (x : BA) (w : World) (h : Lies w A (sbs l)) (hn : l.length <= 9223372036854775807) (r : Bool) (hr : Hid (decide (x ∈ l) = r)) :
  Calls Tryz.prog 173 #[.slice A l.length c, .string x] w fun e w' => e = .returned (.bool r) /\ w = w' := by
 go_enter Tryz.func173, Tryz.ntmps173
 go_wp2_with fail
 refine (IndexStr_any A c l x _ h hn).mono ?_
 rintro e w' ⟨r', rfl, rfl, hr'⟩
 have HR := zH (hr'.trans hr.out)
 clear hr'
 go_wp2_with fail
 go_ret
 exact ⟨ret_bool HR.out, rfl⟩
end Go.Proofs.YtcjicjfbippmnaaGreat
namespace Ear
def noR (f : PFl) : PFl := ⟨1, ⟨#[]⟩, if f.val ∈ f.ref then f.ref else f.ref ++ [f.val]⟩
end Ear
namespace Go.Proofs.YtcjicjfbippmnaaGreat
open Go.RowKit Ear

theorem DlA.put_put (a : DlA) (k : Nat) (X Y : FlM) : (a.put k X).put k Y = a.put k Y := by
 unfold DlA.put
 simp only [List.set_set]
theorem _root_.Ear.PDl.put_put (D : PDl) (k : Nat) (X Y : PFl) : (D.put k X).put k Y = D.put k Y := by
 unfold PDl.put
 simp only [List.set_set]
theorem DlA.put_at {a : DlA} {k : Nat} {X : FlM} (hk : k < (a.put k X).Fm.length) : (a.put k X).Fm[k] = X := List.getElem_set_self _
theorem DlA.put_len (a : DlA) (k : Nat) (X : FlM) : (a.put k X).Fm.length = a.Fm.length := List.length_set
theorem DlM.two {w : World} {bs : Nat} {a : DlA} {D : PDl} (h : DlM w bs a D) {k : Nat} (hk : k < a.Fm.length) (n : Int) (s : BA) : DlM ((w.setCell ⟨a.gF, k * 3, none⟩ (.int .i64 n)).setCell ⟨a.gF, k * 3 + 1, none⟩ (.string s)) bs (a.put k { a.Fm[k] with st := n, val := s }) (D.put k { a.Fm[k].pure with st := n, val := s }) /\ Chg w ((w.setCell ⟨a.gF, k * 3, none⟩ (.int .i64 n)).setCell ⟨a.gF, k * 3 + 1, none⟩ (.string s)) a (a.put k { a.Fm[k] with st := n, val := s }) := by
 obtain ⟨h1, h2⟩ := h.setSt hk n
 have hk2 : k < (a.put k { a.Fm[k] with st := n }).Fm.length := by rw [DlA.put_len]; exact hk
 obtain ⟨h3, h4⟩ := h1.setVal hk2 s
 have h5 := h2.trans h4
 rw [DlA.put_at hk2] at h3 h5
 rw [DlA.put_put, PDl.put_put] at h3
 rw [DlA.put_put] at h5
 exact ⟨h3, h5⟩
theorem DlM.refs {w w1 : World} {bs : Nat} {a : DlA} {D : PDl} (h : DlM w bs a D) {k : Nat} (hk : k < a.Fm.length) {n : Nat} {A : Option Addr} {c : Nat} {l : List BA} (hn : n = l.length) (hr : w1.ownsRow bs 9 1 (.slice A n c) n (sbs l)) (hg : w.grownBy w1 (blk a.Fm[k].A)) (hA : ∀ b, blk A = some b -> blk a.Fm[k].A = some b ∨ w.heap.size <= b) :
  DlM (w1.setCell ⟨a.gF, k * 3 + 2, none⟩ (.slice A n c)) bs (a.put k { a.Fm[k] with A := A, c := c, ref := l }) (D.put k { a.Fm[k].pure with ref := l }) /\ Chg w (w1.setCell ⟨a.gF, k * 3 + 2, none⟩ (.slice A n c)) a (a.put k { a.Fm[k] with A := A, c := c, ref := l }) := by
 subst hn
 have hbF : BT w a.gF 76 := BT.of_own h.row rfl
 have hne : blk a.Fm[k].A ≠ some a.gF := fun e => (BT.of_own (h.ref _ (List.getElem_mem hk)) (by rw [blk_eq]; exact e)).ne hbF (by decide) rfl
 have hrow1 : w1.ownsRow 0 76 3 (.slice (some ⟨a.gF, 0, none⟩) a.Fm.length a.fc) a.Fm.length (flcs a.Fm) := own_apart h.row hg (fun b hb e => by injection hb with hb; subst hb; exact hne e)
 obtain ⟨O, R, e1, e2, e3⟩ := flcs_at a.Fm hk
 have hst := hrow1.stored (k * 3 + 2) (.slice A l.length c)
 have hset : (flcs a.Fm).set (k * 3 + 2) (.slice A l.length c) = flcs (a.Fm.set k { a.Fm[k] with A := A, c := c, ref := l }) := by
  have hl : (flcs O).length = k * 3 := by rw [flcs_length, e2]
  rw [e3]
  conv => lhs; rw [e1]
  rw [flcs_cutE, flcs_cutE, List.set_append_right _ _ (by omega), hl, show k * 3 + 2 - k * 3 = 2 by omega]
  rfl
 rw [hset] at hst
 refine h.put hk { a.Fm[k] with A := A, c := c, ref := l } (Nat.le_trans hg.size hst.2.size) (hst.2.os.trans hg.os) (hst.2.tape.trans hg.tape) (hst.2.output.trans hg.output) hst.1 (fun b h1 h2 h3 => (hst.2.block b (Nat.lt_of_lt_of_le h1 hg.size) (by intro e; injection e with e; exact h2 e)).trans (hg.block b h1 (fun e => h3 e.symm))) ?_ hA
 have hbF1 : BT w1 a.gF 76 := BT.of_own hrow1 rfl
 exact own_apart hr hst.2 (fun b hb e => by injection e with e; subst e; exact (BT.of_own hr hb).ne hbF1 (by decide) rfl)
end Go.Proofs.YtcjicjfbippmnaaGreat
namespace Go.Proofs.YtcjicjfbippmnaaGreat
open Go.RowKit Ear

theorem str_beq {x y : BA} (h : ¬ x = y) : (ByteArray.toList x == ByteArray.toList y) = false := by
 rw [beq_eq_false_iff_ne, ByteArray.toList_eq, ByteArray.toList_eq]
 exact fun e => h (by cases x; cases y; simpa using e)
theorem value2_any (x y : BA) (eb : Nat) (r : Bool) (hr : decide (y = x) = r) (w : World) (h : w.cell? ⟨eb, 1, none⟩ = some (.string x)) :
  Calls Tryz.prog 177 #[.string y, .pointer (some ⟨eb, 0, none⟩)] w fun e w' => e = .returned (.bool r) /\ w = w' := by
 cases r with
 | true =>
  have e := of_decide_eq_true hr
  subst e
  clear hr
  go_enter Tryz.func177, Tryz.ntmps177
  go_wp2_with fail
  go_ret
  exact ⟨rfl, rfl⟩
 | false =>
  have e := str_beq (of_decide_eq_false hr)
  clear hr
  go_enter Tryz.func177, Tryz.ntmps177
  go_wp2_with fail
  go_ret
  exact ⟨rfl, rfl⟩
theorem cell_lt' {w : World} {b o : Nat} {v : Value} (h : w.cell? ⟨b, o, none⟩ = some v) : b < w.heap.size := by
 rcases Nat.lt_or_ge b w.heap.size with h' | h'
 ·exact h'
 ·simp [World.cell?, Array.getElem?_eq_none h'] at h
def FstStr (x : BA) (l : List BA) (w : World) (e : Ending) (w' : World) : Prop := ∃ r : Int, e = .returned (.int .i64 r) /\ w = w' /\ ((x ∉ l /\ r = -1) ∨ ∃ k : Nat, k < l.length /\ r = k /\ l[k]? = some x /\ x ∉ l.take k)
theorem IndexFStr_any (A : Option Addr) (c : Nat) (l : List BA) (x : BA) (eb : Nat) (w : World) (h : Lies w A (sbs l)) (hn : l.length <= 1000000) (hx : w.cell? ⟨eb, 1, none⟩ = some (.string x)) :
  Calls Tryz.prog 198 #[.slice A l.length c, .func (.func 177) #[] #[.pointer (some ⟨eb, 0, none⟩)]] w (FstStr x l w) := by
 have heg := enters_of Tryz.func177 (by kernel_rfl) rfl
 have HP2 := zH (fun (y : BA) (r : Bool) (hr : decide (y = x) = r) => value2_any x y eb r hr w hx)
 clear hx
 go_enter Tryz.func198, Tryz.ntmps198
 go_wp2
 go_loop [5, 8] (fun _ i => ∃ k : Nat, k <= l.length /\ i = .int .i64 k /\ x ∉ l.take k) (fun _ i => l.length - (intOf i).toNat)
 case atStart => exact ⟨0, Nat.zero_le _, rfl, by simp⟩
 case round =>
  obtain ⟨k, hk, rfl, hp'⟩ := hrel
  have HP := zH hp'
  clear hp'
  by_cases hlt : k < l.length
  ·obtain ⟨bk, off, rfl, hb, hc⟩ := h
    (by simpa using Nat.lt_of_le_of_lt (Nat.zero_le k) hlt)
   have hc0 := hc k (.string l[k]) (by simp [List.getElem?_eq_getElem hlt])
   clear hc
   cases hx : decide (l[k] = x) with
   | true =>
    have HX := zH hx
    clear hx
    go_wp2_with fail
    refine (HP2.out _ _ HX.out).mono ?_
    rintro e w' ⟨rfl, rfl⟩
    go_wp2_with fail
    go_ret
    exact ⟨k, rfl, rfl, .inr ⟨k, hlt, rfl, by rw [List.getElem?_eq_getElem hlt, of_decide_eq_true HX.out], HP.out⟩⟩
   | false =>
    have HX := zH hx
    clear hx
    go_wp2_with fail
    refine (HP2.out _ _ HX.out).mono ?_
    rintro e w' ⟨rfl, rfl⟩
    go_wp2_with fail
    exact ⟨⟨k + 1, by omega, by go_num, str_take hlt HP.out (fun e => of_decide_eq_false HX.out e.symm)⟩, by simp [intOf]; omega⟩
  ·go_wp2
   go_ret
   exact ⟨-1, rfl, rfl, .inl ⟨by have hh := HP.out; rwa [List.take_of_length_le (by omega)] at hh, rfl⟩⟩
def _root_.Ear.wo (x : BA) (l : List BA) : List BA := l.filter fun y => decide (¬ y = x)
theorem wo_no {x : BA} {l : List BA} (h : x ∉ l) : wo x l = l := List.filter_eq_self.2 fun _ hy => decide_eq_true fun e => h (e ▸ hy)
theorem wo_snoc (x y : BA) (l : List BA) : wo x (l ++ [y]) = wo x l ++ if y = x then [] else [y] := by
 unfold wo
 rw [List.filter_append]
 congr 1
 by_cases h : y = x
 ·simp [h]
 ·simp [h]
theorem sbs_append (a b : List BA) : sbs (a ++ b) = sbs a ++ sbs b := by simp [sbs]
theorem sbs_set (O : List BA) (m y : BA) (R : List BA) : (sbs (O ++ m :: R)).set O.length (.string y) = sbs (O ++ y :: R) := by
 rw [sbs_append, sbs_append, List.set_append_right _ _ (by simp), show O.length - (sbs O).length = 0 by simp]
 rfl
theorem DeleteStr_row (base c : Nat) (A : Option Addr) (l : List BA) (x : BA) (eb : Nat) (w : World) (h : w.ownsRow base 9 1 (.slice A l.length c) l.length (sbs l)) (hn : l.length <= 1000000) (hx : w.cell? ⟨eb, 1, none⟩ = some (.string x)) (hne : blk A ≠ some eb) :
  Calls Tryz.prog 176 #[.slice A l.length c, .func (.func 177) #[] #[.pointer (some ⟨eb, 0, none⟩)]] w fun e w' => e = .returned (.slice A (wo x l).length c) /\ w'.ownsRow base 9 1 (.slice A (wo x l).length c) (wo x l).length (sbs (wo x l)) /\ w.grownBy w' (blk A) := by
 have heg := enters_of Tryz.func177 (by kernel_rfl) rfl
 have HI := zH (IndexFStr_any A c l x eb w (Lies.of_own h) hn hx)
 by_cases hm : x ∈ l
 ·have hl0 : 0 < l.length := List.length_pos_of_mem hm
  obtain ⟨g, cap0, hA⟩ : ∃ g cap, Value.slice A l.length c = .slice (some ⟨g, 0, none⟩) l.length cap := by
   rcases h.2 with ⟨h1, h2⟩ | ⟨g, cap, cur, h1, _⟩
   ·injection h1 with e1 e2 e3
    omega
   ·exact ⟨g, cap, h1⟩
  injection hA with e1 e2 e3
  subst e1
  clear e3 cap0 e2
  have hcap : l.length <= c /\ c <= maxLen := by
   rcases h.2 with ⟨h', _⟩ | ⟨_, _, _, h', _, _, h3, h4, _⟩
   ·cases h'
   ·injection h' with e1 e2 e3
    subst e3
    exact ⟨h3, h4⟩
  unfold maxLen at hcap
  have HM := zH hm
  have HH := zH h
  have HX := zH hx
  have HP2 := zH (fun (W : World) (hW : W.cell? ⟨eb, 1, none⟩ = some (.string x)) (y : BA) (r : Bool) (hr : decide (y = x) = r) => value2_any x y eb r hr W hW)
  have hge : g ≠ eb := fun e => hne (by rw [e]; rfl)
  clear hm h hx hne
  go_enter Tryz.func176, Tryz.ntmps176
  go_wp2_with fail
  refine HI.out.mono ?_
  rintro e w' ⟨r, rfl, rfl, hr⟩
  obtain ⟨k, hk, rfl, hkx, hkn⟩ : ∃ k : Nat, k < l.length /\ r = k /\ l[k]? = some x /\ x ∉ l.take k := by
   rcases hr with ⟨h1, _⟩ | h1
   ·exact absurd HM.out h1
   ·exact h1
  clear hr
  have hk1 : ((k : Int) == -1) = false := by rw [beq_eq_false_iff_ne]; omega
  have HKX := zH hkx
  have HKN := zH hkn
  clear hkx hkn
  go_wp2_with fail
  go_loopw [5, 6, 7] (fun i j _ wr => ∃ (O M : List BA) (j0 : Nat), i = .int .i64 O.length /\ j = .int .i64 j0 /\ j0 <= l.length /\ 0 < M.length /\ O.length + M.length = j0 /\ Hid (O = wo x (l.take j0)) /\ Hid (wr.ownsRow base 9 1 (.slice (some ⟨g, 0, none⟩) l.length c) l.length (sbs (O ++ M ++ l.drop j0))) /\ Hid (w.grownBy wr (some g))) (fun _ j _ _ => l.length - (intOf j).toNat)
  case atStart =>
   refine ⟨l.take k, [x], k + 1, by go_num, by go_num, by omega, by simp, by simp; omega, zH ?_, zH ?_, zH ⟨rfl, rfl, rfl, Nat.le_refl _, fun _ _ _ => rfl⟩⟩
   ·rw [List.take_add_one, HKX.out]
    show _ = wo x (l.take k ++ [x])
    rw [wo_snoc, if_pos rfl, List.append_nil, wo_no HKN.out]
   ·have e : l.take k ++ [x] ++ l.drop (k + 1) = l := by
     have h1 := List.take_append_drop k l
     rw [List.drop_eq_getElem_cons hk] at h1
     have h2 := HKX.out
     rw [List.getElem?_eq_getElem hk] at h2
     injection h2 with h2
     rw [h2] at h1
     simpa using h1
    rw [e]
    exact HH.out
  case round =>
   obtain ⟨O, M, j0, rfl, rfl, hj, hM, hOM, HO, HR, HG⟩ := hrel
   by_cases hlt : j0 < l.length
   ·have hjI : (j0 : Int) < (l.length : Int) := by omega
    have hcj : wr.cell? ⟨g, j0, none⟩ = some (.string l[j0]) := by
     rw [HR.out.cellAt j0 (by omega), sbs_append, List.getElem?_append_right (by simp; omega), List.drop_eq_getElem_cons hlt]
     simp [hOM]
    have hxe : wr.cell? ⟨eb, 1, none⟩ = some (.string x) := (World.cell?_of_block (a := ⟨eb, 1, none⟩) (HG.out.block eb ((by have := HX.out; exact cell_lt' this)) (by intro e; injection e with e; exact hge e.symm))).trans HX.out
    have htk : l.take (j0 + 1) = l.take j0 ++ [l[j0]] := List.take_succ_eq_append_getElem hlt
    have HTK := zH htk
    have hdr : l.drop j0 = l[j0] :: l.drop (j0 + 1) := List.drop_eq_getElem_cons hlt
    have HDR := zH hdr
    clear htk hdr
    cases hq : decide (l[j0] = x) with
    | true =>
     have HQ := zH hq
     clear hq
     go_wp2_with fail
     refine (HP2.out _ hxe _ _ HQ.out).mono ?_
     rintro e w' ⟨rfl, rfl⟩
     go_wp2_with fail
     refine ⟨⟨O, M ++ [l[j0]], j0 + 1, rfl, by go_num, by omega, by simp, by simp; omega, zH ?_, zH ?_, HG⟩, by simp [intOf]; omega⟩
     ·rw [HTK.out, wo_snoc, if_pos (of_decide_eq_true HQ.out), List.append_nil]
      exact HO.out
     ·have := HR.out
      rw [HDR.out] at this
      simpa using this
    | false =>
     have HQ := zH hq
     clear hq
     obtain ⟨m, M', rfl⟩ : ∃ m M', M = m :: M' := by
      cases M with
      | nil => simp at hM
      | cons m M' => exact ⟨m, M', rfl⟩
     have hOI : (O.length : Int) < (l.length : Int) := by simp at hOM; omega
     have hco : wr.cell? ⟨g, O.length, none⟩ = some (.string m) := by
      rw [HR.out.cellAt O.length (by simp at hOM; omega)]
      simp
     have hfo : wr.frozen? ⟨g, O.length, none⟩ = false := HR.out.frozenAt _
     go_wp2_with fail
     refine (HP2.out _ hxe _ _ HQ.out).mono ?_
     rintro e w' ⟨rfl, rfl⟩
     go_wp2_with fail
     have hst := HR.out.stored O.length (.string l[j0])
     refine ⟨⟨O ++ [l[j0]], M' ++ [l[j0]], j0 + 1, by simp, by go_num, by omega, by simp, by simp at hOM ⊢; omega, zH ?_, zH ?_, zH ⟨hst.2.os.trans HG.out.os, hst.2.tape.trans HG.out.tape, hst.2.output.trans HG.out.output, Nat.le_trans HG.out.size hst.2.size, fun b h1 h2 => (hst.2.block b (Nat.lt_of_lt_of_le h1 HG.out.size) h2).trans (HG.out.block b h1 h2)⟩⟩, by simp [intOf]; omega⟩
     ·rw [HTK.out, wo_snoc, if_neg (of_decide_eq_false HQ.out), <- HO.out]
     ·have h1 := hst.1
      rw [List.append_assoc, List.cons_append, sbs_set, HDR.out] at h1
      simpa using h1
   ·have hjl : j0 = l.length := by omega
    subst hjl
    have hjI : ¬ (l.length : Int) < (l.length : Int) := by omega
    have hr0 := HR.out
    rw [List.drop_of_length_le (Nat.le_refl _), List.append_nil] at hr0
    have HR0 := zH hr0
    obtain ⟨W2, hW2⟩ : ∃ W2, W2 = wr.setCells g O.length (List.replicate (l.length - O.length) (.string ByteArray.empty)) := ⟨_, rfl⟩
    have hcl : ∀ ty, (Builtin.clear_ #[74] ty #[.slice (some ⟨g, O.length, none⟩) (l.length - O.length) (c - O.length)]).run Tryz.prog wr = .ok (.tuple #[]) W2 := fun ty => by
     rw [hW2]
     refine Lib.run_clear_slice wr 74 9 ty (.string ByteArray.empty) Tryz.underlying74 (fun w => by kernel_rfl) rfl rfl g O.length (l.length - O.length) _ (by omega) (fun j hj => ?_) (fun j _ => HR0.out.frozenAt _)
     have hlt9 : O.length + j < (sbs (O ++ M)).length := by simp; omega
     rw [HR0.out.cellAt (O.length + j) (by omega), List.getElem?_eq_getElem hlt9]
     rfl
    have h2 := ownsRow_setCells (List.replicate (l.length - O.length) (.string ByteArray.empty)) O.length _ _ hr0
    rw [<- hW2, setL_eq _ _ _ (by simp; omega)] at h2
    have H2 := zH h2
    have hol : O.length <= c := by omega
    have hne9 : ¬ c = O.length := by omega
    clear h2 hW2 hr0
    go_wp2_with fail
    go_ret
    have hO := HO.out
    rw [List.take_of_length_le (Nat.le_refl _)] at hO
    rw [<- hO]
    refine ⟨rfl, ?_, ⟨H2.out.2.os.trans HG.out.os, H2.out.2.tape.trans HG.out.tape, H2.out.2.output.trans HG.out.output, Nat.le_trans HG.out.size H2.out.2.size, fun b h1 h2 => (H2.out.2.block b (Nat.lt_of_lt_of_le h1 HG.out.size) h2).trans (HG.out.block b h1 h2)⟩⟩
    have h2 := H2.out.1
    rw [sbs_append, List.take_left' (by simp), List.append_assoc] at h2
    exact ownsRow_front h2 (by simp) (by omega)
 ·have hno := wo_no hm
  have HN := zH hno
  have HH := zH h
  have HM := zH hm
  clear h hno hm hx hne
  go_enter Tryz.func176, Tryz.ntmps176
  go_wp2_with fail
  refine HI.out.mono ?_
  rintro e w' ⟨r, rfl, rfl, hr⟩
  obtain rfl : r = -1 := by
   rcases hr with ⟨_, h1⟩ | ⟨k, h1, h2, h3, h4⟩
   ·exact h1
   ·exact absurd (List.mem_of_getElem? h3) HM.out
  clear hr
  go_wp2_with fail
  go_ret
  rw [HN.out]
  exact ⟨rfl, HH.out, rfl, rfl, rfl, Nat.le_refl _, fun _ _ _ => rfl⟩
end Go.Proofs.YtcjicjfbippmnaaGreat
