/- numbers as bytes: the reference's put and get, and the closures of Pack and Unpack -/
import Derived.Test.YtnhkngmdjomfjaaPackA
namespace Go.Proofs.Ytnhkngmdjomfjaa
open Go.RowKit Ear

theorem bcs_append (a b : List Int) : bcs (a ++ b) = bcs a ++ bcs b := by simp [bcs]
theorem lies_one (w : World) (u : Value) (t : TypeId) : Lies (w.alloc (.cells #[u] t)) (some ⟨w.heap.size, 0, none⟩) [u] := fun _ =>
  ⟨w.heap.size, 0, rfl, by simp, fun k v hv => by rw [Nat.zero_add, cell_of_row _ _ k _ _ _ (heap_alloc_new w _)]; simpa using hv⟩
/-- bytes that the call made -/
def BytesRet (out : List Int) (w : World) (e : Ending) (w' : World) : Prop :=
  ∃ A c, e = .returned (.slice A out.length c) ∧ w'.ownsRow w.heap.size 5 1 (.slice A out.length c) out.length (bcs out) ∧ Below w.heap.size w w'
/-- what is left after k bytes -/
def shB (n : Int) : Nat → Int
  | 0 => n
  | k + 1 => shB n k / 256
theorem le_shB (n : Int) : ∀ k, le (k + 1) n = le k n ++ [shB n k % 256] := by
  intro k
  rw [le_succ]
  congr 2
  induction k with
  | zero => simp [shB]
  | succ k ih =>
    have : shB n k = n / 256 ^ k := by
      clear ih
      induction k with
      | zero => simp [shB]
      | succ k ih => simp only [shB]; rw [ih, Int.ediv_ediv_of_nonneg (Int.pow_nonneg (by omega)), ← Int.pow_succ]
    simp only [shB]
    rw [this, Int.ediv_ediv_of_nonneg (Int.pow_nonneg (by omega)), ← Int.pow_succ]
theorem shB_bd {n : Int} (h : 0 ≤ n) : ∀ k, 0 ≤ shB n k ∧ shB n k ≤ n := by
  intro k
  induction k with
  | zero => exact ⟨h, Int.le_refl _⟩
  | succ k ih => simp only [shB]; omega
/-- between two rounds of put -/
def PutRel (V : World) (n : Int) (K : Nat) (t0 t5 t6 : Value) (wr : World) : Prop :=
  ∃ k : Nat, k ≤ K ∧ t6 = .int .i64 k ∧ t0 = .int .i64 (shB n k) ∧ ∃ A c, t5 = .slice A k c ∧ wr.ownsRow V.heap.size 5 1 (.slice A k c) k (bcs (le k n)) ∧ Below V.heap.size V wr

set_option maxRecDepth 100000 in
set_option maxHeartbeats 1000000 in
theorem rput_any (n : Int) (K : Nat) (w : World) (h0 : 0 ≤ n) (h1 : n ≤ 4294967295) (hK : K ≤ 4) : Calls Try.prog 84 #[.int .i64 n, .int .i64 K] w (BytesRet (le K n) w) := by
  obtain ⟨i0, hi0, hz0, hz1, hz2⟩ := info_parts u8_info
  have TI := Lib.hid hi0; have TZ0 := Lib.hid hz0; have TZ1 := Lib.hid hz1; have TZ2 := Lib.hid hz2
  clear hi0 hz0 hz1 hz2
  go_enter Try.func84, Try.ntmps84
  go_wp2
  go_loopw [0, 5, 6] (fun t0 t5 t6 wr => PutRel w n K t0 t5 t6 wr) (fun _ _ t6 _ => K - (intOf t6).toNat)
  case atStart => exact ⟨0, Nat.zero_le _, rfl, rfl, none, 0, rfl, World.ownsRow_nil _ _ _ _, Below.refl _ _⟩
  case round =>
    obtain ⟨k, hk, rfl, rfl, A, c, rfl, hown, hbel⟩ := hrel
    have hs := shB_bd h0 k
    have OW := Lib.hid hown
    have HB := Lib.hid hbel
    have hsz := hbel.size
    have HLE := Lib.hid (le_shB n k)
    have HSS : Hid (shB n k / 256 = shB n (k + 1)) := Lib.hid rfl
    clear hbel hown
    generalize hm : shB n k = m at *
    clear hm
    by_cases hlt : k < K
    · go_wp2_with (at_builtin; refine wpList_append_srcG _ rfl (.tmp 12) (.tmp 16) _ rfl w.heap.size 5 i0 _ 1 1 Try.underlying76 TI.out TZ0.out TZ1.out TZ2.out rfl (by omega) (.slice A k c) k (bcs (le k n)) rfl (OW.out.alloc _) (some ⟨wr.heap.size, 0, none⟩) 1 1 (bcs [m % 256]) rfl (fun e => by cases e) (lies_one _ _ _) (by simp) (bcs_one _) (by unfold maxLen; omega) (by omega) (by simp; omega) (k + 1) rfl ?_; intro A' c' w1 hown1 hgr1 hat1)
      have hb1 : Below w.heap.size w w1 := (HB.out.alloc (by omega) _).grown hgr1 (by simp; omega) (fun k hk => (OW.out.lt k hk).1)
      go_roundw
      case rel => exact ⟨k + 1, by omega, by go_num, by rw [← HSS.out], A', c', rfl, by rw [HLE.out, bcs_append]; exact hown1, hb1⟩
      case measure => simp [intOf]; omega
    · obtain rfl : k = K := by omega
      go_wp2_with fail
      go_ret
      refine ⟨A, c, by rw [le_len]; rfl, ?_, HB.out⟩
      rw [le_len]
      exact OW.out

/-- the number of bytes, the last one first -/
theorem ge_drop {l : List Int} {k : Nat} (hk : k < l.length) : ge (l.drop k) = l[k] + 256 * ge (l.drop (k + 1)) := by
  rw [List.drop_eq_getElem_cons hk]; rfl
theorem isB_drop {l : List Int} (h : isB l) (k : Nat) : isB (l.drop k) := fun x hx => h x (List.mem_of_mem_drop hx)
theorem ge_bd4 {l : List Int} (h : isB l) (hl : l.length ≤ 4) : 0 ≤ ge l ∧ ge l ≤ 4294967295 := by
  have := ge_bd l h
  rcases (show l.length = 0 ∨ l.length = 1 ∨ l.length = 2 ∨ l.length = 3 ∨ l.length = 4 by omega) with e | e | e | e | e <;> rw [e] at this <;> simp at this <;> omega

set_option maxRecDepth 100000 in
set_option maxHeartbeats 1000000 in
theorem rget_any (A : Option Addr) (c : Nat) (l : List Int) (w : World) (h : Lies w A (bcs l)) (hb : Hid (isB l)) (hl : l.length ≤ 4) :
    Calls Try.prog 88 #[.slice A l.length c] w fun e w' => e = .returned (.int .i64 (ge l)) ∧ w = w' := by
  go_enter Try.func88, Try.ntmps88
  go_wp2
  go_loop [3, 4] (fun t i => ∃ k : Nat, k ≤ l.length ∧ i = .int .i64 ((k : Int) - 1) ∧ t = .int .i64 (ge (l.drop k))) (fun _ i => (intOf i + 1).toNat)
  case atStart => exact ⟨l.length, Nat.le_refl _, rfl, by rw [List.drop_length]; rfl⟩
  case round =>
    obtain ⟨k, hk, rfl, rfl⟩ := hrel
    have hs := ge_bd4 (isB_drop hb.out k) (by simp; omega)
    by_cases h0 : k = 0
    · subst h0
      rw [List.drop_zero] at *
      go_wp2
      go_ret
      exact ⟨rfl, rfl⟩
    · obtain ⟨j, rfl⟩ : ∃ j, k = j + 1 := ⟨k - 1, by omega⟩
      obtain ⟨b, off, rfl, hba, hc⟩ := h.bat (k := j) (by omega)
      have hx := hb.out _ (List.getElem_mem (show j < l.length by omega))
      have HS := Lib.hid (ge_drop (show j < l.length by omega))
      rw [show ((j + 1 : Nat) : Int) - 1 = (j : Int) by omega]
      have hj : (0 : Int) ≤ j := by omega
      go_wp2
      go_round
      case rel => exact ⟨j, by omega, rfl, by rw [HS.out]; exact congrArg _ (by omega)⟩
      case measure => simp [intOf]
end Go.Proofs.Ytnhkngmdjomfjaa
