/- the closure of Unpack -/
import Derived.Test.YtnhkngmdjomfjaaPackB
import Derived.Test.YtnhkngmdjomfjaaBits
namespace Go.Proofs.Ytnhkngmdjomfjaa
open Go.RowKit Ear

theorem ge_take_succ {l : List Int} {a k : Nat} (h : a + k < l.length) : ge ((l.drop a).take (k + 1)) = ge ((l.drop a).take k) + l[a + k] * 256 ^ k := by
  have h2 : k < (l.drop a).length := by simp; omega
  rw [List.take_succ_eq_append_getElem h2, ge_snoc, List.length_take, Nat.min_eq_left (by omega)]
  simp
theorem ge_take_bd {l : List Int} (hb : isB l) {a k : Nat} (h : a + k ≤ l.length) : 0 ≤ ge ((l.drop a).take k) ∧ ge ((l.drop a).take k) < 256 ^ k := by
  have := ge_bd ((l.drop a).take k) (fun x hx => hb x (List.mem_of_mem_drop (List.mem_of_mem_take hx)))
  rw [List.length_take, List.length_drop, Nat.min_eq_left (by omega)] at this
  exact this

theorem or_byte (n x : Int) (k : Nat) (hk : k ≤ 3) (hn : 0 ≤ n ∧ n < 256 ^ k) (x0 : 0 ≤ x) (x1 : x ≤ 255) : bits BinOp.or IntKind.i64 n (wrap64 (x * 2 ^ (8 * k))) = n + x * 256 ^ k := by
  have key : ∀ (m i : Nat), m = 2 ^ i → m ≤ 16777216 → n < m → bits BinOp.or IntKind.i64 n (wrap64 (x * m)) = n + x * m := fun m i hm hb h1 => by
    have hx : x * (m : Int) ≤ 255 * 16777216 := Int.mul_le_mul x1 (by omega) (by omega) (by omega)
    have hx0 : 0 ≤ x * (m : Int) := Int.mul_nonneg x0 (by omega)
    have hw : wrap64 (x * (m : Int)) = x * m := by unfold wrap64; omega
    rw [hw]
    exact or_i64_byte n x i m hm hn.1 h1 x0 x1 hb
  rcases (show k = 0 ∨ k = 1 ∨ k = 2 ∨ k = 3 by omega) with e | e | e | e <;> subst e
  · exact key 1 0 (by decide) (by omega) (by simpa using hn.2)
  · exact key 256 8 (by decide) (by omega) (by simpa using hn.2)
  · exact key 65536 16 (by decide) (by omega) (by simpa using hn.2)
  · exact key 16777216 24 (by decide) (by omega) (by simpa using hn.2)

set_option maxRecDepth 100000 in
set_option maxHeartbeats 1000000 in
theorem Unpack1_any (K a : Nat) (p q : Nat) (A : Option Addr) (c : Nat) (l : List Int) (w : World) (h : Lies w A (bcs l)) (hb : Hid (isB l)) (hp : w.cell? ⟨p, 0, none⟩ = some (.slice A l.length c)) (hqr : w.heap[q]? = some (.cells #[.int .i64 a] 3 (0, 0)))
    (hK : K ≤ 4) (hK0 : 0 < K) (ha : a + K ≤ l.length) (hl : l.length ≤ 1000000) :
    Calls Try.prog 87 #[.int .i64 K, .pointer (some ⟨p, 0, none⟩), .pointer (some ⟨q, 0, none⟩)] w fun e w' => e = .returned (.int .i64 (ge ((l.drop a).take K))) ∧ w'.heap[q]? = some (.cells #[.int .i64 ((a + K : Nat) : Int)] 3 (0, 0)) ∧ w.grownBy w' (some q) := by
  have hq : w.cell? ⟨q, 0, none⟩ = some (.int .i64 a) := cell_of_row w q 0 _ _ _ hqr
  have hqf := row_frozen hqr 0
  have HQ := Lib.hid hqr
  clear hqr
  go_enter Try.func87, Try.ntmps87
  go_wp2
  go_loop [5, 6, 8] (fun n _ i => ∃ k : Nat, k ≤ K ∧ i = .int .i64 k ∧ n = .int .i64 (ge ((l.drop a).take k))) (fun _ _ i => K - (intOf i).toNat)
  case atStart => exact ⟨0, Nat.zero_le _, rfl, by simp [ge]⟩
  case round =>
    obtain ⟨k, hk, rfl, rfl⟩ := hrel
    by_cases hlt : k < K
    · obtain ⟨b, off, rfl, hba, hc⟩ := h.bat (k := a + k) (by omega)
      have hx := hb.out _ (List.getElem_mem (show a + k < l.length by omega))
      have HS := Lib.hid (ge_take_succ (show a + k < l.length by omega))
      have hbd := ge_take_bd hb.out (show a + k ≤ l.length by omega)
      have HO := Lib.hid (or_byte _ _ k (by omega) hbd hx.1 hx.2)
      go_wp2
      go_round
      case rel => exact ⟨k + 1, by omega, by go_num, by rw [HO.out, HS.out]⟩
      case measure => simp [intOf]; omega
    · obtain rfl : k = K := by omega
      have hbd := ge_take_bd hb.out ha
      go_wp2
      go_ret
      refine ⟨rfl, ?_, only_set (World.grownBy.refl _ _) (.inl rfl) _⟩
      have := row_set HQ.out 0 (.int .i64 ((a : Int) + k))
      exact this
end Go.Proofs.Ytnhkngmdjomfjaa
