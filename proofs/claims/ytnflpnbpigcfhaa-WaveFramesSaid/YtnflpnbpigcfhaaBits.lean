/- bits of words as numbers -/
import Derived.Test.YtnflpnbpigcfhaaBase
import Derived.Laws.BitsAllLaws
namespace Go.Proofs.Ytnflpnbpigcfhaa

theorem and_u32_16 (x : Int) : bits BinOp.and IntKind.u32 (x % 4294967296) 65535 = x % 65536 := by
  obtain ⟨n, hn⟩ := Int.eq_ofNat_of_zero_le (show 0 ≤ x % 4294967296 by omega)
  have h1 := u32_and_nat n 65535 (by omega) (by omega)
  have h2 : n &&& 65535 = n % 65536 := Nat.and_two_pow_sub_one_eq_mod n 16
  rw [h2] at h1
  rw [hn]
  have h3 : ((n % 65536 : Nat) : Int) = x % 65536 := by omega
  exact h1.trans h3
theorem or_i64_nat (a b : Nat) (ha : a < 9223372036854775808) (hb : b < 9223372036854775808) : bits .or .i64 (a : Int) (b : Int) = ((a ||| b : Nat) : Int) := by
  have hx : a ||| b < 2 ^ 63 := Nat.or_lt_two_pow (by omega) (by omega)
  have h1 : (BitVec.ofInt 64 (a : Int)).toNat = a := by
    rw [BitVec.ofInt_natCast, BitVec.toNat_ofNat]; exact Nat.mod_eq_of_lt (by omega)
  have h2 : (BitVec.ofInt 64 (b : Int)).toNat = b := by
    rw [BitVec.ofInt_natCast, BitVec.toNat_ofNat]; exact Nat.mod_eq_of_lt (by omega)
  show IntKind.i64.wrap ((BitVec.ofInt 64 (a : Int) ||| BitVec.ofInt 64 (b : Int)).toNat : Int) = _
  rw [BitVec.toNat_or, h1, h2, IntKind.wrap_i64]
  omega
theorem or_add (a b i m : Nat) (hm : m = 2 ^ i) (h : a < m) : a ||| (b * m) = b * m + a := by
  subst hm
  rw [Nat.or_comm, ← Nat.shiftLeft_eq, Nat.shiftLeft_add_eq_or_of_lt h]
/-- a byte is put ahead of k bytes -/
theorem or_i64_byte (a x : Int) (i m : Nat) (hm : m = 2 ^ i) (h0 : 0 ≤ a) (h1 : a < m) (x0 : 0 ≤ x) (x1 : x ≤ 255) (hb : m ≤ 16777216) : bits .or .i64 a (x * m) = a + x * m := by
  obtain ⟨n, rfl⟩ := Int.eq_ofNat_of_zero_le h0
  obtain ⟨y, rfl⟩ := Int.eq_ofNat_of_zero_le x0
  have hy : y * m ≤ 255 * 16777216 := Nat.mul_le_mul (by omega) hb
  have e : ((y : Int) * m) = ((y * m : Nat) : Int) := by simp
  rw [e, or_i64_nat n (y * m) (by omega) (by omega), or_add n y i m hm (by omega)]
  omega
end Go.Proofs.Ytnflpnbpigcfhaa
