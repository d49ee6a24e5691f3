/- a part of TalkUnlearns -/
import Derived.Test.YtcjicjfbippmnaaGreatMTU8
import Derived.Test.YtcjicjfbippmnaaGreatMTU1
import Derived.Laws.BitsAllLaws
import Derived.Lib.BitFns
set_option maxRecDepth 100000
set_option maxHeartbeats 32000000
namespace Ear

theorem nd_at (n k : Nat) : (nd n)[k]?.getD 0 = ((n / 4294967296 ^ k % 4294967296 : Nat) : Int) := by
 induction k generalizing n with
 | zero =>
  by_cases h : n = 0
  ·subst h; rw [nd_zero]; rfl
  ·rw [nd_pos h]; simp
 | succ k ih =>
  by_cases h : n = 0
  ·subst h; rw [nd_zero]; simp
  ·rw [nd_pos h, List.getElem?_cons_succ, ih, Nat.div_div_eq_div_mul, Nat.pow_succ, Nat.mul_comm]
theorem BB_pow2 (k : Nat) : (4294967296 : Nat) ^ k = 2 ^ (32 * k) := by rw [Nat.pow_mul]
theorem nd_bit (n i : Nat) : n / 4294967296 ^ (i / 32) % 4294967296 / 2 ^ (i % 32) % 2 = n / 2 ^ i % 2 := by
 have e : i = 32 * (i / 32) + i % 32 := by omega
 have hr : i % 32 < 32 := by omega
 generalize i / 32 = q at *
 generalize i % 32 = r at *
 subst e
 rw [BB_pow2, Nat.pow_add, <- Nat.div_div_eq_div_mul]
 generalize n / 2 ^ (32 * q) = m
 have h2 : (4294967296 : Nat) = 2 ^ r * (2 * 2 ^ (31 - r)) := by
  rw [<- Nat.mul_assoc, <- Nat.pow_succ, <- Nat.pow_add, show r + 1 + (31 - r) = 32 by omega]
 rw [h2, Nat.mod_mul_right_div_self, Nat.mod_mul_right_mod]
def hfAt (a : List Int) (i : Nat) : Int := a[i]?.getD 0 / 2 + a[i + 1]?.getD 0 % 2 * 2147483648
theorem vl_hf {a out : List Int} (h : dgs a) (hl : out.length = a.length) (ho : ∀ i, i < a.length -> out[i]?.getD 0 = hfAt a i) : vl out = vl a / 2 := by
 have key : ∀ k i, i + k = a.length -> vl (out.drop i) = vl (a.drop i) / 2 := by
  intro k
  induction k with
  | zero =>
   intro i hi
   rw [List.drop_eq_nil_of_le (by omega), List.drop_eq_nil_of_le (by omega)]
   simp [vl]
  | succ k ih =>
   intro i hi
   rw [vl_drop out, vl_drop a, ih (i + 1) (by omega), ho i (by omega)]
   have e := vl_mod h (i + 1)
   have hx := dgs_at h i
   have hx1 := dgs_at h (i + 1)
   unfold hfAt
   generalize vl (a.drop (i + 1)) = m at *
   omega
 have := key a.length 0 (by omega)
 simpa using this
structure BitAt (a b : Nat) (out : List Int) (m i rest : Nat) : Prop where
 len : out.length = m
 dig : dgs out
 low : (vl out).toNat % 2 ^ i = 0
 val : a / 2 ^ i = (vl out).toNat / 2 ^ i * b + rest
 small : rest < b
theorem BitAt.start {a b m i : Nat} (h : a < 2 ^ i) (hb : 0 < b) : BitAt a b (List.replicate m 0) m i 0 := by
 refine ⟨by simp, dgs_replicate _, by rw [vl_replicate]; simp, ?_, hb⟩
 rw [vl_replicate, Nat.div_eq_of_lt h]; simp
theorem low_digit {v i : Nat} (h : v % 2 ^ (i + 1) = 0) : v / 4294967296 ^ (i / 32) % 4294967296 % 2 ^ (i % 32 + 1) = 0 := by
 have e : i = 32 * (i / 32) + i % 32 := by omega
 have hr : i % 32 < 32 := by omega
 generalize i / 32 = q at *
 generalize i % 32 = r at *
 subst e
 have h2 : (4294967296 : Nat) = 2 ^ (r + 1) * 2 ^ (31 - r) := by
  rw [<- Nat.pow_add, show r + 1 + (31 - r) = 32 by omega]
 rw [BB_pow2]
 have h3 : v / 2 ^ (32 * q) % 2 ^ (r + 1) = 0 := by
  have h4 : 2 ^ (32 * q) * 2 ^ (r + 1) ∣ v := by
   rw [<- Nat.pow_add, <- Nat.add_assoc]
   exact Nat.dvd_of_mod_eq_zero h
  obtain ⟨t, ht⟩ := h4
  rw [ht, Nat.mul_assoc, Nat.mul_div_cancel_left _ (Nat.pow_pos (by decide)), Nat.mul_mod_right]
 rw [h2, Nat.mod_mul_right_mod, h3]
theorem dgs_nat {l : List Int} (h : dgs l) (k : Nat) : l[k]?.getD 0 = (((vl l).toNat / 4294967296 ^ k % 4294967296 : Nat) : Int) := by
 rw [<- nd_at]
 have h0 := vl_nonneg h
 have key : ∀ (l : List Int) (k : Nat), dgs l -> vl l = ((vl l).toNat : Int) -> l[k]?.getD 0 = (nd (vl l).toNat)[k]?.getD 0 := by
  intro l
  induction l with
  | nil => intro k _ _; simp [vl, nd_zero]
  | cons d l ih =>
   intro k hd hv
   have hd0 := hd d (List.mem_cons_self ..)
   have hl := dgs_tail hd
   have hl0 := vl_nonneg hl
   have e0 : vl (d :: l) = d + 4294967296 * vl l := rfl
   rw [nd_at]
   cases k with
   | zero => simp; omega
   | succ k =>
    have e1 : (vl (d :: l)).toNat / 4294967296 = (vl l).toNat := by omega
    rw [List.getElem?_cons_succ, ih k hl (by omega), nd_at, Nat.pow_succ, Nat.mul_comm, <- Nat.div_div_eq_div_mul, e1]
 exact key l k h (by omega)
theorem BitAt.next {a b : Nat} {out : List Int} {m i rest r2 : Nat} (h : BitAt a b out m (i + 1) rest) (hr : r2 = 2 * rest + a / 2 ^ i % 2) (hlt : r2 < b) : BitAt a b out m i r2 := by
 have hs := h.small
 have hp : 2 ^ (i + 1) = 2 ^ i * 2 := Nat.pow_succ ..
 obtain ⟨t, ht⟩ := Nat.dvd_of_mod_eq_zero h.low
 have hv := h.val
 rw [ht, Nat.mul_div_cancel_left _ (Nat.pow_pos (by decide))] at hv
 refine ⟨h.len, h.dig, ?_, ?_, hlt⟩
 ·rw [ht, hp, Nat.mul_assoc, Nat.mul_mod_right]
 ·rw [ht, hp, Nat.mul_assoc, Nat.mul_div_cancel_left _ (Nat.pow_pos (by decide))]
  rw [hp, <- Nat.div_div_eq_div_mul] at hv
  have e : a / 2 ^ i = 2 * (a / 2 ^ i / 2) + a / 2 ^ i % 2 := by omega
  rw [hr, e, hv, Nat.mul_add, Nat.mul_assoc 2 t b]
  omega
theorem or_bit {d r : Nat} (h : d % 2 ^ (r + 1) = 0) : d ||| 2 ^ r = d + 2 ^ r := by
 obtain ⟨t, ht⟩ := Nat.dvd_of_mod_eq_zero h
 rw [ht]
 exact (Nat.two_pow_add_eq_or_of_lt (i := r + 1) (b := 2 ^ r) (Nat.pow_lt_pow_right (by decide) (by omega)) t).symm
theorem BitAt.take {a b : Nat} {out : List Int} {m i rest r2 : Nat} (h : BitAt a b out m (i + 1) rest) (hr : r2 = 2 * rest + a / 2 ^ i % 2) (hge : b <= r2) (hm : i / 32 < m) {d : Int} (hd : d = out[i / 32]?.getD 0 + 2 ^ (i % 32)) :
  0 <= d /\ d <= 4294967295 /\ BitAt a b (out.set (i / 32) d) m i (r2 - b) := by
 have hs := h.small
 have hp : 2 ^ (i + 1) = 2 ^ i * 2 := Nat.pow_succ ..
 obtain ⟨t, ht⟩ := Nat.dvd_of_mod_eq_zero h.low
 have hv := h.val
 rw [ht, Nat.mul_div_cancel_left _ (Nat.pow_pos (by decide))] at hv
 have hl := low_digit h.low
 have hn := dgs_nat h.dig (i / 32)
 generalize hx : (vl out).toNat / 4294967296 ^ (i / 32) % 4294967296 = x at *
 have hr32 : i % 32 < 32 := by omega
 have hx2 : x < 4294967296 := by omega
 have hb : x + 2 ^ (i % 32) < 4294967296 := by
  obtain ⟨s, hs2⟩ := Nat.dvd_of_mod_eq_zero hl
  have h2 : (4294967296 : Nat) = 2 ^ (i % 32 + 1) * 2 ^ (31 - i % 32) := by
   rw [<- Nat.pow_add, show i % 32 + 1 + (31 - i % 32) = 32 by omega]
  have h3 : s + 1 <= 2 ^ (31 - i % 32) := by
   rw [hs2, h2] at hx2
   exact Nat.lt_of_mul_lt_mul_left hx2
  have h4 := Nat.mul_le_mul_left (2 ^ (i % 32 + 1)) h3
  rw [<- h2, Nat.mul_add, <- hs2, Nat.mul_one, Nat.pow_succ] at h4
  have : 0 < 2 ^ (i % 32) := Nat.pow_pos (by decide)
  omega
 have hdn : d = ((x + 2 ^ (i % 32) : Nat) : Int) := by rw [hd, hn]; simp
 have d0 : 0 <= d := by omega
 have d1 : d <= 4294967295 := by omega
 have hv0 := vl_nonneg h.dig
 have hset : (vl (out.set (i / 32) d)).toNat = (vl out).toNat + 2 ^ i := by
  rw [vl_set _ _ _ (by rw [h.len]; exact hm), hd]
  have e : BB ^ (i / 32) * (out[i / 32]?.getD 0 + 2 ^ (i % 32) - out[i / 32]?.getD 0) = ((2 ^ i : Nat) : Int) := by
   rw [show out[i / 32]?.getD 0 + 2 ^ (i % 32) - out[i / 32]?.getD 0 = (2 : Int) ^ (i % 32) by omega, BB_nat, BB_pow2]
   have e2 : i = 32 * (i / 32) + i % 32 := by omega
   have : ((2 ^ (32 * (i / 32)) : Nat) : Int) * (2 : Int) ^ (i % 32) = ((2 ^ (32 * (i / 32)) * 2 ^ (i % 32) : Nat) : Int) := by simp
   rw [this, <- Nat.pow_add, <- e2]
  rw [e]
  omega
 refine ⟨d0, d1, by simp [h.len], dgs_set h.dig _ d0 d1, ?_, ?_, ?_⟩
 ·rw [hset, ht, hp, Nat.mul_assoc, Nat.mul_add_mod, Nat.mod_self]
 ·rw [hset, ht, hp, Nat.mul_assoc, show 2 ^ i * (2 * t) + 2 ^ i = 2 ^ i * (2 * t + 1) by rw [Nat.mul_add, Nat.mul_one], Nat.mul_div_cancel_left _ (Nat.pow_pos (by decide))]
  rw [hp, <- Nat.div_div_eq_div_mul] at hv
  have e : a / 2 ^ i = 2 * (a / 2 ^ i / 2) + a / 2 ^ i % 2 := by omega
  rw [e, hv, Nat.add_mul, Nat.mul_assoc 2 t b, Nat.one_mul, Nat.mul_add]
  omega
 ·have : a / 2 ^ i % 2 < 2 := Nat.mod_lt _ (by decide)
  omega
theorem BitAt.done {a b : Nat} {out : List Int} {m rest : Nat} (h : BitAt a b out m 0 rest) : vl out = ((a / b : Nat) : Int) /\ rest = a % b := by
 have hv := h.val
 have hs := h.small
 have h0 := vl_nonneg h.dig
 simp only [Nat.pow_zero, Nat.div_one] at hv
 generalize hx : (vl out).toNat = x at *
 have e : vl out = (x : Int) := by omega
 subst hv
 rw [e]
 constructor
 ·congr 1
  rw [Nat.add_comm, Nat.add_mul_div_right _ _ (by omega), Nat.div_eq_of_lt hs]; omega
 ·rw [Nat.add_comm, Nat.add_mul_mod_self_right, Nat.mod_eq_of_lt hs]
theorem guess_lt {v vt n j rest g : Nat} (hv : vt * 4294967296 ^ n <= v) (h : rest / 4294967296 ^ (j + n) < (g + 1) * vt) : rest < v * (g + 1) * 4294967296 ^ j := by
 have hP : 0 < 4294967296 ^ (j + n) := Nat.pow_pos (by decide)
 have h1 : rest < (g + 1) * vt * 4294967296 ^ (j + n) := by
  rwa [Nat.div_lt_iff_lt_mul hP] at h
 have h2 : (g + 1) * vt * 4294967296 ^ (j + n) = vt * 4294967296 ^ n * ((g + 1) * 4294967296 ^ j) := by
  rw [Nat.pow_add, Nat.mul_comm (4294967296 ^ j), <- Nat.mul_assoc, Nat.mul_comm (g + 1) vt, Nat.mul_assoc vt, Nat.mul_assoc vt, Nat.mul_comm (g + 1), Nat.mul_assoc]
  simp only [Nat.mul_assoc, Nat.mul_left_comm]
 have h3 := Nat.mul_le_mul_right ((g + 1) * 4294967296 ^ j) hv
 rw [Nat.mul_assoc]
 omega
structure GcdAt (g a b : Nat) : Prop where
 pos : 0 < a
 odd : a % 2 = 1 ∨ b % 2 = 1
 val : a.gcd b = g
theorem gcd_half_left {a b : Nat} (ha : a % 2 = 0) (hb : b % 2 = 1) : (a / 2).gcd b = a.gcd b := by
 have e : a = a / 2 * 2 := by omega
 have hc : Nat.Coprime 2 b := by
  rw [Nat.coprime_iff_gcd_eq_one, Nat.gcd_rec, hb, Nat.gcd_one_left]
 conv => rhs; rw [e]
 exact (Nat.Coprime.gcd_mul_right_cancel _ hc).symm
theorem GcdAt.left {g a b : Nat} (h : GcdAt g a b) (ha : a % 2 = 0) : GcdAt g (a / 2) b /\ a / 2 < a := by
 have hp := h.pos
 have hb : b % 2 = 1 := by rcases h.odd with h | h <;> omega
 exact ⟨⟨by omega, .inr hb, by rw [gcd_half_left ha hb]; exact h.val⟩, by omega⟩
theorem GcdAt.right {g a b : Nat} (h : GcdAt g a b) (hb : b % 2 = 0) (hb0 : b ≠ 0) : GcdAt g a (b / 2) /\ b / 2 < b /\ b / 2 ≠ 0 := by
 have ha : a % 2 = 1 := by rcases h.odd with h | h <;> omega
 exact ⟨⟨h.pos, .inl ha, by rw [Nat.gcd_comm, gcd_half_left hb ha, Nat.gcd_comm]; exact h.val⟩, by omega, by omega⟩
theorem GcdAt.swap {g a b : Nat} (h : GcdAt g a b) (hb : b ≠ 0) : GcdAt g b a := ⟨by omega, h.odd.symm, by rw [Nat.gcd_comm]; exact h.val⟩
theorem GcdAt.sub {g a b : Nat} (h : GcdAt g a b) (ha : a % 2 = 1) (hle : a <= b) : GcdAt g a (b - a) :=
 ⟨h.pos, .inl ha, by rw [Nat.gcd_sub_self_right hle]; exact h.val⟩
theorem GcdAt.done {g a : Nat} (h : GcdAt g a 0) : a = g := by have := h.val; rwa [Nat.gcd_zero_right] at this
end Ear
namespace Go.Proofs.YtcjicjfbippmnaaGreat
open Go.RowKit Ear

theorem or_u64_nat (a b : Nat) (ha : a < 18446744073709551616) (hb : b < 18446744073709551616) : bits .or .u64 (a : Int) (b : Int) = ((a ||| b : Nat) : Int) := by
 have hx : a ||| b < 2 ^ 64 := Nat.or_lt_two_pow (by omega) (by omega)
 have h1 : (BitVec.ofInt 64 (a : Int)).toNat = a := by
  rw [BitVec.ofInt_natCast, BitVec.toNat_ofNat]; exact Nat.mod_eq_of_lt (by omega)
 have h2 : (BitVec.ofInt 64 (b : Int)).toNat = b := by
  rw [BitVec.ofInt_natCast, BitVec.toNat_ofNat]; exact Nat.mod_eq_of_lt (by omega)
 show IntKind.u64.wrap ((BitVec.ofInt 64 (a : Int) ||| BitVec.ofInt 64 (b : Int)).toNat : Int) = _
 rw [BitVec.toNat_or, h1, h2, IntKind.wrap_u64]
 omega
theorem or_sum (a b i : Nat) (ha : a < 2 ^ i) (hb : b % 2 ^ i = 0) : a ||| b = a + b := by
 obtain ⟨t, rfl⟩ := Nat.dvd_of_mod_eq_zero hb
 rw [Nat.or_comm, <- Nat.two_pow_add_eq_or_of_lt ha, Nat.add_comm]
theorem or_u64_top (r x : Int) (r0 : 0 <= r) (r1 : r <= 4294967295) (x0 : 0 <= x) (x1 : x <= 4294967295) : bits .or .u64 (r * 4294967296) x = r * 4294967296 + x := by
 obtain ⟨n, rfl⟩ := Int.eq_ofNat_of_zero_le r0
 obtain ⟨y, rfl⟩ := Int.eq_ofNat_of_zero_le x0
 have e : ((n : Int) * 4294967296) = ((n * 4294967296 : Nat) : Int) := by simp
 rw [e, or_u64_nat _ _ (by omega) (by omega), Nat.or_comm, or_sum y (n * 4294967296) 32 (by omega) (by omega)]
 omega
theorem or_u64_low (r x : Int) (r0 : 0 <= r) (r1 : r <= 4294967295) (x0 : 0 <= x) (x1 : x <= 4294967295) : bits .or .u64 x (r * 4294967296) = x + r * 4294967296 := by
 obtain ⟨n, rfl⟩ := Int.eq_ofNat_of_zero_le r0
 obtain ⟨y, rfl⟩ := Int.eq_ofNat_of_zero_le x0
 have e : ((n : Int) * 4294967296) = ((n * 4294967296 : Nat) : Int) := by simp
 rw [e, or_u64_nat _ _ (by omega) (by omega), or_sum y (n * 4294967296) 32 (by omega) (by omega)]
 omega
def RetOv (q r : Nat) (w : World) (e : Ending) (w' : World) : Prop :=
 ∃ A c, e = .returned (.tuple #[.slice A (nd q).length c, .int .u32 r]) /\ Lies w' A (ucs (nd q)) /\ (nd q).length <= c /\ (A = none -> c = 0) /\ Below w.heap.size w w'
theorem xover_any (A : Option Addr) (c : Nat) (a : List Int) (d : Nat) (w : World) (hA : Dg w A c a) (hn : a.length <= 900000) (d0 : 0 < d) (d1 : d <= 4294967295) (v : Nat) (hv : Hid (vl a = v)) :
  Calls Tryz.prog 191 #[.slice A a.length c, .int .u32 d] w (RetOv (v / d) (v % d) w) := by
 obtain ⟨w1, hmk, ho1, hb1⟩ := make_u32 w a.length (by omega) w.heap.size (Nat.le_refl _)
 obtain ⟨g, hg⟩ : ∃ g, g = w.heap.size := ⟨_, rfl⟩
 rw [<- hg] at ho1 hmk
 have HG : Hid (w.heap.size <= g) := by show _ <= _; omega
 have HST := zH (OverAt.start a (d := d) (by omega))
 have da := zH hA.dig
 have LA := zH hA.lies
 clear hg hA
 go_enter Tryz.func191, Tryz.ntmps191
 go_wp2_with fail
 clear hmk
 go_loopw [7, 8] (fun rs i wr => ∃ k : Nat, k <= a.length /\ i = .int .i64 ((k : Int) - 1) /\ ∃ out r, Hid (OverAt a out d k r) /\ rs = .int .u64 r /\ wr.ownsRow g 173 1 (.slice (some ⟨g, 0, none⟩) a.length a.length) a.length (ucs out) /\ Below w.heap.size w wr) (fun _ i _ => (intOf i + 1).toNat)
 case atStart => exact ⟨a.length, Nat.le_refl _, rfl, _, _, HST, rfl, ho1, hb1⟩
 case round =>
  obtain ⟨k, hk, rfl, out, r, HM, rfl, r1, r2⟩ := hrel
  clear HST ho1
  have h0 := HM.out.r0
  have h1 := HM.out.r1
  have hol := HM.out.len
  by_cases hz : k = 0
  ·subst hz
   obtain ⟨f1, f2⟩ := HM.out.done
   have HT := zH (own_trim r1 hol HM.out.dig (by omega) (v := v / d) (by rw [f1, hv.out]; simp))
   have HR2 := zH r2
   have HE : Hid (r = ((v % d : Nat) : Int)) := zH (by rw [f2, hv.out]; simp)
   clear r1 r2 hol f1 f2
   go_wp2_with fail
   refine HT.out.mono ?_
   rintro e w' ⟨A2, c2, rfl, t1, t2, t3, t4⟩
   go_wp2_with fail
   go_ret2
   exact ⟨A2, c2, by rw [HE.out]; rfl, t1, t2, t3, HR2.out.trans (t4.mono HR2.out.size)⟩
  ·obtain ⟨b1, o1, rfl, hb1, hc1⟩ := (LA.out.below r2).uat (k := k - 1) (by omega)
   have dx := dgs_at da.out (k - 1)
   obtain ⟨q1, q2⟩ := own_cellU r1 hol (show k - 1 < a.length by omega)
   have i0 : ((k : Int) - 1).toNat = k - 1 := by omega
   have HM' : Hid (OverAt a out d (k - 1 + 1) r) := by rw [show k - 1 + 1 = k by omega]; exact HM
   have HN := zH (fun t ht => HM'.out.next da.out (by omega) (t := t) ht)
   generalize a[k - 1]?.getD 0 = x at *
   have HF := zH (HN.out _ rfl)
   have HO := zH r1
   have HR2 := zH r2
   have dz : ((d : Int) == 0) = false := by simp; omega
   have pw : IntKind.u64.wrap (r * 4294967296) = r * 4294967296 := IntWalk.u64_in _ (by omega)
   have po := or_u64_top r x (by omega) (by omega) dx.1 dx.2
   have pq := over_digit h0 h1 dx.1 dx.2
   have HQ := zH pq
   have e32 : (r * 4294967296 + x) / (d : Int) % 4294967296 = (r * 4294967296 + x) / (d : Int) := by clear hv; omega
   clear HM' HN hol r1 r2 hv pq
   go_wp2_with fail
   exact ⟨⟨k - 1, by omega, by go_num, _, _, HF, rfl, own_setU HO.out (k - 1) _, HR2.out.setCell (by exact HG.out) _⟩, by simp [intOf]; omega⟩
theorem pow_split {by_ : Nat} (h : by_ <= 31) : ((2 : Int) ^ by_) * (2 : Int) ^ (32 - by_) = 4294967296 := by
 rw [<- Int.pow_add, show by_ + (32 - by_) = 32 by omega]; rfl
theorem pow_pos2 (k : Nat) : 0 < (2 : Int) ^ k := Int.pow_pos (by decide)
theorem nat_pow2 (k : Nat) : ((2 ^ k : Nat) : Int) = (2 : Int) ^ k := by simp
theorem or_u32_sum (a b : Int) (i : Nat) (a0 : 0 <= a) (a1 : a < (2 : Int) ^ i) (b0 : 0 <= b) (b1 : b <= 4294967295) (hb : b % (2 : Int) ^ i = 0) (ha : a <= 4294967295) : bits .or .u32 a b = a + b := by
 obtain ⟨n, rfl⟩ := Int.eq_ofNat_of_zero_le a0
 obtain ⟨y, rfl⟩ := Int.eq_ofNat_of_zero_le b0
 rw [<- nat_pow2] at a1 hb
 rw [u32_or_nat _ _ (by omega) (by omega), or_sum n y i (by exact_mod_cast a1) (by exact_mod_cast hb)]
 omega
theorem mod_mod_pow {x : Int} {i : Nat} (hi : i <= 31) : (x * (2 : Int) ^ i % 4294967296) % (2 : Int) ^ i = 0 := by
 rw [<- pow_split hi, Int.emod_emod_of_dvd _ (Int.dvd_mul_right _ _)]
 exact Int.mul_emod_left ..
theorem xshift_any (A : Option Addr) (c : Nat) (a : List Int) (i : Nat) (w : World) (hA : Dg w A c a) (hn : a.length <= 900000) (hi : i <= 31) (v : Nat) (hv : Hid (vl a = v)) :
  Calls Tryz.prog 193 #[.slice A a.length c, .int .i64 i] w (RetNd (v * 2 ^ i) w) := by
 obtain ⟨w1, hmk, ho1, hb1⟩ := make_u32 w (a.length + 1) (by omega) w.heap.size (Nat.le_refl _)
 have e2 : ((a.length + 1 : Nat) : Int) = (a.length : Int) + 1 := by simp
 rw [e2] at hmk
 obtain ⟨g, hg⟩ : ∃ g, g = w.heap.size := ⟨_, rfl⟩
 rw [<- hg] at ho1 hmk
 have HG : Hid (w.heap.size <= g) := by show _ <= _; omega
 have HP := zH (pow_pos2 i)
 have HPS := zH (pow_split hi)
 have HST := zH (ShAt.start a HP.out)
 have da := zH hA.dig
 have LA := zH hA.lies
 have i9 : (32 - (i : Int)).toNat = 32 - i := by omega
 clear hg e2 hA
 go_enter Tryz.func193, Tryz.ntmps193
 go_wp2_with fail
 clear hmk
 go_loopw [6, 7, 14] (fun _ _ j wr => ∃ k : Nat, k <= a.length /\ j = .int .i64 k /\ ∃ out, Hid (ShAt a out ((2 : Int) ^ i) k) /\ wr.ownsRow g 173 1 (.slice (some ⟨g, 0, none⟩) (a.length + 1) (a.length + 1)) (a.length + 1) (ucs out) /\ Below w.heap.size w wr) (fun _ _ j _ => a.length - (intOf j).toNat)
 case atStart => exact ⟨0, by omega, rfl, _, HST, ho1, hb1⟩
 case round =>
  obtain ⟨k, hk, rfl, out, HM, r1, r2⟩ := hrel
  clear HST ho1
  have hol := HM.out.len
  by_cases hlt : k < a.length
  ·obtain ⟨b1, o1, rfl, hb1, hc1⟩ := (LA.out.below r2).uat hlt
   have dx := dgs_at da.out k
   have dt := dgs_at HM.out.dig k
   have tp := HM.out.top
   obtain ⟨q1, q2⟩ := own_cellU r1 hol (show k < a.length + 1 by omega)
   have HN := zH (fun x y z hx hy hz => HM.out.next da.out hlt HP.out HPS.out (x := x) (y := y) (z := z) hx hy hz)
   have HO := zH r1
   have HR2 := zH r2
   generalize hx : a[k]?.getD 0 = x at *
   generalize ht : out[k]?.getD 0 = t at *
   have HF := zH (HN.out x _ _ rfl rfl rfl)
   have m0 : 0 <= x * (2 : Int) ^ i % 4294967296 /\ x * (2 : Int) ^ i % 4294967296 <= 4294967295 := by omega
   have po := or_u32_sum t (x * (2 : Int) ^ i % 4294967296) i dt.1 tp m0.1 m0.2 (mod_mod_pow hi) dt.2
   have s0 : 0 <= x / (2 : Int) ^ (32 - i) /\ x / (2 : Int) ^ (32 - i) <= 4294967295 := ⟨HF.out.2.2.1, by have := Int.ediv_le_self ((2 : Int) ^ (32 - i)) dx.1; omega⟩
   have HQ := zH (fun (W : World) (hW : W.ownsRow g 173 1 (.slice (some ⟨g, 0, none⟩) (a.length + 1) (a.length + 1)) (a.length + 1) (ucs (out.set k (t + x * (2 : Int) ^ i % 4294967296)))) => own_cellU hW (by simp; exact hol) (show k + 1 < a.length + 1 by omega))
   have HS1 := zH (own_setU HO.out k (t + x * (2 : Int) ^ i % 4294967296))
   have HQ1 := HQ.out _ HS1.out
   obtain ⟨q3, q4⟩ := HQ1
   have i1 : (k : Int) < (a.length : Int) + 1 := by omega
   clear hx ht HN hol r1 r2 hv HQ tp
   go_wp2_with fail
   go_still_tail 9, (by kernel_rfl)
   repeat still_step
   go_wp2_with fail
   exact ⟨⟨k + 1, by omega, by go_num, _, zH HF.out.2.2.2.2, own_setU HS1.out.drew (k + 1) _, (HR2.out.setCell (by exact HG.out) _).drew.setCell (by exact HG.out) _⟩, by simp [intOf]; omega⟩
  ·obtain rfl : k = a.length := by omega
   have HT := zH (own_trim r1 hol HM.out.dig (by omega) (v := v * 2 ^ i) (by rw [HM.out.done, hv.out]; simp))
   have HR2 := zH r2
   clear r1 r2 hol
   go_wp2_with fail
   refine HT.out.mono ?_
   rintro e w' ⟨A2, c2, rfl, t1, t2, t3, t4⟩
   go_wp2_with fail
   go_ret
   exact ⟨A2, c2, rfl, t1, t2, t3, HR2.out.trans (t4.mono HR2.out.size)⟩
end Go.Proofs.YtcjicjfbippmnaaGreat
namespace Go.Proofs.YtcjicjfbippmnaaGreat
open Go.RowKit

theorem idx8 (y : Int) (W : World) (h0 : 0 <= y) (h1 : y <= 255) : (Instr.index 9 (.string Lib.len8tab) (.int .u8 y)).run Tryz.prog W = .ok (.int .u8 (Lib.bitLen y.toNat)) W := by
 rw [Lib.run_index_len8tab W 9 .u8 y Tryz.underlying9 h0 h1, Lib.len8_of y h0 h1]
theorem len32_any (x : Int) (w : World) (h0 : 0 <= x) (h1 : x <= 4294967295) :
  Calls Tryz.prog 204 #[.int .u32 x] w fun e w' => e = .returned (.int .i64 (Lib.bitLen x.toNat)) /\ w' = w := by
 by_cases a1 : 65536 <= x
 ·by_cases a2 : 16777216 <= x
  ·have b1 : 256 <= x / 65536 := by omega
   have l := Lib.bitLen_le8' (x / 65536 / 256) (by omega) (by omega)
   have s := Lib.bitLen_shift24 x.toNat (by omega) (by omega)
   have e : (x / 65536 / 256).toNat = x.toNat / 16777216 := by omega
   have hi := fun W => idx8 (x / 65536 / 256) W (by omega) (by omega)
   rw [e] at hi l
   rw [s]
   generalize Lib.bitLen (x.toNat / 16777216) = b at *
   clear s e
   have m1 : x / 65536 / 256 % 256 = x / 65536 / 256 := by omega
   go_enter Tryz.func204, Tryz.ntmps204
   go_wp2_with fail
   go_ret
   exact ⟨ret_int (by omega), rfl⟩
  ·have b1 : ¬ 256 <= x / 65536 := by omega
   have l := Lib.bitLen_le8' (x / 65536) (by omega) (by omega)
   have s := Lib.bitLen_shift16 x.toNat (by omega) (by omega)
   have e : (x / 65536).toNat = x.toNat / 65536 := by omega
   have hi := fun W => idx8 (x / 65536) W (by omega) (by omega)
   rw [e] at hi l
   rw [s]
   generalize Lib.bitLen (x.toNat / 65536) = b at *
   clear s e
   have m1 : x / 65536 % 256 = x / 65536 := by omega
   go_enter Tryz.func204, Tryz.ntmps204
   go_wp2_with fail
   go_ret
   exact ⟨ret_int (by omega), rfl⟩
 ·by_cases a2 : 256 <= x
  ·have l := Lib.bitLen_le8' (x / 256) (by omega) (by omega)
   have s := Lib.bitLen_shift8 x.toNat (by omega) (by omega)
   have e : (x / 256).toNat = x.toNat / 256 := by omega
   have hi := fun W => idx8 (x / 256) W (by omega) (by omega)
   rw [e] at hi l
   rw [s]
   generalize Lib.bitLen (x.toNat / 256) = b at *
   clear s e
   have m1 : x / 256 % 256 = x / 256 := by omega
   go_enter Tryz.func204, Tryz.ntmps204
   go_wp2_with fail
   go_ret
   exact ⟨ret_int (by omega), rfl⟩
  ·have l := Lib.bitLen_le8' x (by omega) (by omega)
   have hi := fun W => idx8 x W (by omega) (by omega)
   generalize Lib.bitLen x.toNat = b at *
   have m1 : x % 256 = x := by omega
   go_enter Tryz.func204, Tryz.ntmps204
   go_wp2_with fail
   go_ret
   exact ⟨ret_int (by omega), rfl⟩
theorem bitLen_ge1 (x : Nat) (h : x ≠ 0) : 1 <= Lib.bitLen x := by
 show 1 <= Lib.bitLenAux 64 x
 unfold Lib.bitLenAux
 rw [if_neg h]; omega
end Go.Proofs.YtcjicjfbippmnaaGreat
namespace Go.Proofs.YtcjicjfbippmnaaGreat
open Go.RowKit Ear

theorem xdigit_any (A : Option Addr) (c : Nat) (a : List Int) (k : Nat) (w : World) (hA : Lies w A (ucs a)) (x : Int) (hx : Hid (a[k]?.getD 0 = x)) (hb : 0 <= x /\ x <= 4294967295) :
  Calls Tryz.prog 194 #[.slice A a.length c, .int .i64 k] w fun e w' => e = .returned (.int .u64 x) /\ w = w' := by
 by_cases hlt : k < a.length
 ·obtain ⟨b1, o1, rfl, hb1, hc1⟩ := hA.uat hlt
  rw [hx.out] at hc1
  have q : ¬ (a.length : Int) <= (k : Int) := by omega
  go_enter Tryz.func194, Tryz.ntmps194
  go_wp2_with fail
  go_ret
  exact ⟨rfl, rfl⟩
 ·have HX : Hid (x = 0) := zH (by rw [<- hx.out, List.getElem?_eq_none (by omega)]; rfl)
  have q : (a.length : Int) <= (k : Int) := by omega
  go_enter Tryz.func194, Tryz.ntmps194
  go_wp2_with fail
  go_ret
  exact ⟨by rw [HX.out]; rfl, rfl⟩
theorem dnL_take (a : List Int) (p : Int) (k : Nat) (hk : k < a.length) : (dnL a p).take (k + 1) = (dnL a p).take k ++ [dnAt a p k] := by
 rw [List.take_succ_eq_append_getElem (by unfold dnL; simpa using hk)]
 unfold dnL
 simp
theorem xdown_any (A : Option Addr) (c : Nat) (a : List Int) (i : Nat) (w : World) (hA : Dg w A c a) (hn : a.length <= 900000) (hi : i <= 31) (v : Nat) (hv : Hid (vl a = v)) :
  Calls Tryz.prog 196 #[.slice A a.length c, .int .i64 i] w (RetNd (v / 2 ^ i) w) := by
 obtain ⟨w1, hmk, ho1, hb1⟩ := make_u32 w a.length (by omega) w.heap.size (Nat.le_refl _)
 obtain ⟨g, hg⟩ : ∃ g, g = w.heap.size := ⟨_, rfl⟩
 rw [<- hg] at ho1 hmk
 have HG : Hid (w.heap.size <= g) := by show _ <= _; omega
 have da := zH hA.dig
 have LA := zH hA.lies
 have HV : Hid (vl (dnL a ((2 : Int) ^ i)) = ((v / 2 ^ i : Nat) : Int)) := zH (by rw [dnL_val da.out (pow_pos2 i) (pow_split hi), hv.out]; simp)
 have HLn : Hid ((dnL a ((2 : Int) ^ i)).length = a.length) := zH (by unfold dnL; simp)
 have HDL := zH (dnL_dgs a ((2 : Int) ^ i))
 clear hg hA
 go_enter Tryz.func196, Tryz.ntmps196
 go_wp2_with fail
 clear hmk
 go_loopw [6, 12] (fun _ j wr => ∃ k : Nat, k <= a.length /\ j = .int .i64 k /\ wr.ownsRow g 173 1 (.slice (some ⟨g, 0, none⟩) a.length a.length) a.length (ucs ((dnL a ((2 : Int) ^ i)).take k ++ (List.replicate a.length 0).drop k)) /\ Below w.heap.size w wr) (fun _ j _ => a.length - (intOf j).toNat)
 case atStart => exact ⟨0, by omega, rfl, by simpa using ho1, hb1⟩
 case round =>
  obtain ⟨k, hk, rfl, r1, r2⟩ := hrel
  clear ho1
  have hol : ((dnL a ((2 : Int) ^ i)).take k).length = k := by rw [List.length_take, HLn.out]; omega
  by_cases hlt : k < a.length
  ·have L1 := LA.out.below r2
   have d1 := dgs_at da.out k
   have d2 := dgs_at da.out (k + 1)
   obtain ⟨q1, q2⟩ := own_cellU r1 (by rw [len_app hol (by simp; omega)]; simp) hlt
   have HS : Hid (∀ t, t = dnAt a ((2 : Int) ^ i) k -> ((dnL a ((2 : Int) ^ i)).take k ++ (List.replicate a.length 0).drop k).set k t = (dnL a ((2 : Int) ^ i)).take (k + 1) ++ (List.replicate a.length 0).drop (k + 1)) := zH (fun t ht => by rw [set_app hol (by simp; exact hlt), dnL_take a _ k hlt, ht])
   have HO := zH r1
   have HR2 := zH r2
   have C1 := zH (xdigit_any A c a k wr L1 _ (zH rfl) d1)
   have C2 := zH (xdigit_any A c a (k + 1) wr L1 _ (zH rfl) d2)
   have HAt : Hid (dnAt a ((2 : Int) ^ i) k = (a[k]?.getD 0 + a[k + 1]?.getD 0 * 4294967296) / (2 : Int) ^ i % 4294967296) := zH rfl
   generalize a[k]?.getD 0 = x at *
   generalize a[k + 1]?.getD 0 = y at *
   have pw : IntKind.u64.wrap (y * 4294967296) = y * 4294967296 := IntWalk.u64_in _ (by omega)
   have po := or_u64_low y x d2.1 d2.2 d1.1 d1.2
   have ek : ((k + 1 : Nat) : Int) = (k : Int) + 1 := by simp
   rw [ek] at C2
   clear r1 r2 hol hv L1 ek
   go_wp2_with fail
   refine C1.out.mono ?_
   rintro e w' ⟨rfl, rfl⟩
   go_wp2_with fail
   refine C2.out.mono ?_
   rintro e w' ⟨rfl, rfl⟩
   go_wp2_with fail
   refine ⟨⟨k + 1, by omega, by go_num, ?_, HR2.out.setCell (by exact HG.out) _⟩, by simp [intOf]; omega⟩
   rw [<- HS.out _ HAt.out.symm]
   exact own_setU HO.out k _
  ·obtain rfl : k = a.length := by omega
   have HE : Hid ((dnL a ((2 : Int) ^ i)).take a.length ++ (List.replicate a.length 0).drop a.length = dnL a ((2 : Int) ^ i)) := zH (by rw [List.take_of_length_le (by rw [HLn.out]; exact Nat.le_refl _), List.drop_eq_nil_of_le (by simp), List.append_nil])
   rw [HE.out] at r1
   have HT := zH (own_trim r1 HLn.out HDL.out (by omega) (v := v / 2 ^ i) HV.out)
   have HR2 := zH r2
   clear r1 r2 hol
   go_wp2_with fail
   refine HT.out.mono ?_
   rintro e w' ⟨A2, c2, rfl, t1, t2, t3, t4⟩
   go_wp2_with fail
   go_ret
   exact ⟨A2, c2, rfl, t1, t2, t3, HR2.out.trans (t4.mono HR2.out.size)⟩
theorem vl_zeros (j : Nat) (l : List Int) : vl (List.replicate j 0 ++ l) = BB ^ j * vl l := by
 rw [vl_append, vl_replicate]; simp
theorem nd_shift {x : Nat} (h : x ≠ 0) (j : Nat) : nd (x * 4294967296 ^ j) = List.replicate j 0 ++ nd x := by
 have hd : dgs (List.replicate j 0 ++ nd x) := by
  intro y hy
  rcases List.mem_append.1 hy with hy | hy
  ·exact dgs_replicate j y hy
  ·exact dgs_nd x y hy
 have hc : cn (List.replicate j 0 ++ nd x) := by
  have h1 := cn_nd x
  have h2 : (nd x).length ≠ 0 := fun e => h (nd_len_zero.1 e)
  unfold cn at *
  rw [List.length_append, List.length_replicate, List.getElem?_append_right (by simp; omega), List.length_replicate, show j + (nd x).length - 1 - j = (nd x).length - 1 by omega]
  exact h1
 have e := nd_of hd hc
 rw [e]
 congr 1
 rw [vl_zeros, vl_nd, BB_nat, Nat.mul_comm]
 have : ((4294967296 ^ j : Nat) : Int) * (x : Int) = ((4294967296 ^ j * x : Nat) : Int) := by simp
 rw [this]; rfl
theorem make_nat (w : World) (n : Nat) (hn : n <= 1000000000) (base : Nat) (hb : base <= w.heap.size) :
  ∃ w', (Instr.makeSlice 117 (.int .i64 (n : Int)) (.int .i64 (n : Int))).run Tryz.prog w = .ok (.slice (some ⟨w.heap.size, 0, none⟩) n n) w' /\
   w'.ownsRow base 173 1 (.slice (some ⟨w.heap.size, 0, none⟩) n n) n (ucs (List.replicate n 0)) /\ Below w.heap.size w w' := by
 obtain ⟨i0, hi0, hz0, hz1, hz2⟩ := info_parts u32_info
 obtain ⟨w', h1, h2, h3⟩ := run_make_full (P := Tryz.prog) w base 117 173 i0 _ 1 Tryz.underlying117 hi0 hz0 hz1 .i64 .i64 n (by rw [hz2]; omega) (by unfold maxLen; omega) hb
 rw [made_u32] at h2
 exact ⟨w', h1, h2, below_none h3⟩
theorem xshifted_any (A : Option Addr) (c : Nat) (x j : Nat) (w : World) (hA : Dg w A c (nd x)) (hn : (nd x).length <= 900000) (hj : j <= 900000) :
  Calls Tryz.prog 195 #[.slice A (nd x).length c, .int .i64 j] w (RetNd (x * 4294967296 ^ j) w) := by
 by_cases h0 : x = 0
 ·subst h0
  have HE : Hid (nd (0 * 4294967296 ^ j) = []) := zH (by rw [Nat.zero_mul, nd_zero])
  have hl : (nd 0).length = 0 := by rw [nd_zero]; rfl
  rw [hl]
  clear hl hn hA
  go_enter Tryz.func195, Tryz.ntmps195
  go_wp2_with fail
  go_ret
  exact ⟨none, 0, by rw [HE.out]; rfl, by rw [HE.out]; exact Lies.nil _ _, by rw [HE.out]; exact Nat.le_refl _, fun _ => rfl, Below.refl _ _⟩
 ·have HE := zH (nd_shift h0 j)
  have hne : (nd x).length ≠ 0 := fun e => h0 (nd_len_zero.1 e)
  obtain ⟨w1, hmk, ho1, hb1⟩ := make_nat w j (by omega) w.heap.size (Nat.le_refl _)
  obtain ⟨j0, hj0, ky0, ky1, ky2⟩ := info_parts u32_info
  have KI := zH hj0; have KZ0 := zH ky0; have KZ1 := zH ky1; have KZ2 := zH ky2
  clear hj0 ky0 ky1 ky2
  have NA := zH hA.nil
  have LA := zH (hA.lies.below hb1)
  clear hA
  generalize hxs : nd x = xs at *
  have q : ((xs.length : Int) == 0) = false := beq_eq_false_iff_ne.2 (by omega)
  have HX := zH hxs
  clear hxs
  go_enter Tryz.func195, Tryz.ntmps195
  go_wp2_with (at_builtin; refine wpList_append_srcG _ rfl (.tmp 9) (.tmp 10) _ rfl w.heap.size 173 j0 _ 1 4 Tryz.underlying117 KI.out KZ0.out KZ1.out KZ2.out rfl (by omega) (.slice (some ⟨w.heap.size, 0, none⟩) j j) j (ucs (List.replicate j 0)) rfl ho1 A xs.length c (ucs xs) rfl NA.out LA.out (by simp) (ucs_one _) (by unfold maxLen; omega) (by omega) hb1.size (j + xs.length) rfl ?_; intro A4 c4 w4 ho4 hg4 _)
  go_ret
  rw [<- ucs_append] at ho4
  refine ⟨A4, c4, by rw [HE.out]; simp, ?_, ?_, (own_capn ho4).2, hb1.grown hg4 hb1.size (fun k hk => ?_)⟩
  ·rw [HE.out]; exact Lies.of_own ho4
  ·rw [HE.out]; simp; exact (own_capn ho4).1
  ·simp [Value.ownBlock] at hk
   omega
theorem leadz_any (x : Int) (w : World) (h0 : 1 <= x) (h1 : x <= 4294967295) :
  Calls Tryz.prog 192 #[.int .u32 x] w fun e w' => ∃ k : Nat, k <= 31 /\ e = .returned (.int .i64 k) /\ w = w' := by
 have l := Lib.bitLen_le x.toNat 32 (by omega) (by omega)
 have l1 := bitLen_ge1 x.toNat (by omega)
 have HC := zH (fun W => len32_any x W (by omega) h1)
 generalize Lib.bitLen x.toNat = b at *
 go_enter Tryz.func192, Tryz.ntmps192
 go_wp2_with fail
 refine (HC.out _).mono ?_
 rintro e w' ⟨rfl, rfl⟩
 go_wp2_with fail
 go_ret
 exact ⟨32 - b, by omega, ret_int (by omega), rfl⟩
end Go.Proofs.YtcjicjfbippmnaaGreat
