/- a part of TalkUnlearns -/
import Derived.Test.YtcjicjfbippmnaaGreatMTU7
import Derived.Test.YtcjicjfbippmnaaGreatMTU0
set_option maxRecDepth 100000
set_option maxHeartbeats 32000000
namespace Go.Proofs.YtcjicjfbippmnaaGreat
open Go.RowKit Ear

theorem set_app {out l : List Int} {i : Nat} (ho : out.length = i) (hi : i < l.length) (t : Int) : (out ++ l.drop i).set i t = (out ++ [t]) ++ l.drop (i + 1) := by
 rw [List.set_append_right _ _ (by omega), ho, Nat.sub_self, List.drop_eq_getElem_cons hi, List.set_cons_zero, List.append_assoc]
 rfl
theorem get_app {out l : List Int} {i : Nat} (ho : out.length = i) (k : Nat) (hk : i <= k) : (out ++ l.drop i)[k]?.getD 0 = l[k]?.getD 0 := by
 rw [List.getElem?_append_right (by omega), ho, List.getElem?_drop]
 congr 2; omega
theorem len_app {out l : List Int} {i : Nat} (ho : out.length = i) (hi : i <= l.length) : (out ++ l.drop i).length = l.length := by simp; omega
theorem own_cellU {w : World} {base g n c : Nat} {l : List Int} (h : w.ownsRow base 173 1 (.slice (some ⟨g, 0, none⟩) n c) n (ucs l)) (hl : l.length = n) {k : Nat} (hk : k < n) : w.cell? ⟨g, k, none⟩ = some (.int .u32 (l[k]?.getD 0)) /\ w.frozen? ⟨g, k, none⟩ = false :=
 ⟨by rw [h.cellAt k (by omega)]; simp only [List.getElem?_map, List.getElem?_eq_getElem (show k < l.length by omega)]; rfl, h.frozenAt k⟩
theorem own_setU {w : World} {base g n c : Nat} {l : List Int} (h : w.ownsRow base 173 1 (.slice (some ⟨g, 0, none⟩) n c) n (ucs l)) (k : Nat) (v : Int) : (w.setCell ⟨g, k, none⟩ (.int .u32 v)).ownsRow base 173 1 (.slice (some ⟨g, 0, none⟩) n c) n (ucs (l.set k v)) := by
 have hst := h.stored k (.int .u32 v)
 rw [<- List.map_set] at hst
 exact hst.1
theorem own_trimo {w : World} {base n c : Nat} {A : Option Addr} {l : List Int} (h : w.ownsRow base 173 1 (.slice A n c) n (ucs l)) (hl : l.length = n) (hd : dgs l) (hn : n <= 1000000) {v : Nat} (hv : vl l = v) : Calls Tryz.prog 126 #[.slice A n c] w (URet (nd v) w) := by
 subst hl
 exact xtrim_own A c l w (own_dg h hd) hn v (zH hv)
theorem own_trim {w : World} {base n c : Nat} {A : Option Addr} {l : List Int} (h : w.ownsRow base 173 1 (.slice A n c) n (ucs l)) (hl : l.length = n) (hd : dgs l) (hn : n <= 1000000) {v : Nat} (hv : vl l = v) : Calls Tryz.prog 126 #[.slice A n c] w (RetNd v w) := by
 subst hl
 exact xtrim_any A c l w (own_dg h hd) hn v (zH hv)
theorem xadd_any (A B : Option Addr) (c d : Nat) (a b : List Int) (w : World) (hA : Dg w A c a) (hB : Dg w B d b) (hn : a.length <= 900000) (hm : b.length <= 900000)
  (v : Nat) (hv : Hid (vl a + vl b = v)) :
  Calls Tryz.prog 131 #[.slice A a.length c, .slice B b.length d] w (RetNd v w) := by
 obtain ⟨N, hN⟩ : ∃ N : Nat, N = max a.length b.length := ⟨_, rfl⟩
 obtain ⟨w1, hmk, ho1, hb1⟩ := make_u32 w (N + 1) (by omega) w.heap.size (Nat.le_refl _)
 have hmx : max (a.length : Int) (b.length : Int) = (N : Int) := by omega
 have e2 : ((N + 1 : Nat) : Int) = (N : Int) + 1 := by simp
 rw [e2] at hmk
 obtain ⟨g, hg⟩ : ∃ g, g = w.heap.size := ⟨_, rfl⟩
 rw [<- hg] at ho1 hmk
 have HG : Hid (w.heap.size <= g) := by show _ <= _; omega
 have HST := zH (PlusAt.start a b)
 have la : a.length <= N := by omega
 have lb : b.length <= N := by omega
 have da := zH hA.dig
 have db := zH hB.dig
 have LA := zH hA.lies
 have LB := zH hB.lies
 have NB : N <= 900000 := by omega
 clear hg e2 hA hB hN
 go_enter Tryz.func131, Tryz.ntmps131
 go_wp2_with fail
 clear hmk hmx
 go_loopw [6, 7, 17] (fun cy _ i wr => ∃ k : Nat, k <= N + 1 /\ i = .int .i64 k /\ ∃ out q, Hid (PlusAt a b out k q) /\ cy = .int .u64 q /\ wr.ownsRow g 173 1 (.slice (some ⟨g, 0, none⟩) (N + 1) (N + 1)) (N + 1) (ucs (out ++ (List.replicate (N + 1) 0).drop k)) /\ Below w.heap.size w wr) (fun _ _ i _ => N + 1 - (intOf i).toNat)
 case atStart => exact ⟨0, by omega, rfl, [], 0, HST, rfl, by simpa using ho1, hb1⟩
 case round =>
  obtain ⟨k, hk, rfl, out, q, HM, rfl, r1, r2⟩ := hrel
  clear HST ho1
  have h0 := HM.out.c0
  have h1 := HM.out.c1
  have hol := HM.out.len
  by_cases hlt : k < N + 1
  ·have HA := zH (LA.out.below r2)
   have HB := zH (LB.out.below r2)
   have d1 := dgs_at da.out k
   have d2 := dgs_at db.out k
   have HN := zH (fun t ht => HM.out.next da.out db.out (t := t) ht)
   have hq := own_cellU r1 (by rw [len_app hol (by simp; omega)]; simp) hlt
   rw [get_app hol k (Nat.le_refl _)] at hq
   have hz : (List.replicate (N + 1) (0 : Int))[k]?.getD 0 = 0 := by rw [List.getElem?_replicate]; split <;> rfl
   rw [hz] at hq
   obtain ⟨q1, q2⟩ := hq
   have HS : Hid (∀ t, (out ++ (List.replicate (N + 1) 0).drop k).set k t = (out ++ [t]) ++ (List.replicate (N + 1) 0).drop (k + 1)) := zH (fun t => set_app hol (by simp; omega) t)
   have HO := zH r1
   have HR2 := zH r2
   clear r1 r2 hz hol
   have fin : ∀ t, t = q + a[k]?.getD 0 + b[k]?.getD 0 -> ∀ W, (wr.setCell ⟨g, k, none⟩ (.int .u32 (t % 4294967296))) = W -> (∃ k' : Nat, k' <= N + 1 /\ Value.int .i64 (k + 1 : Int) = .int .i64 k' /\ ∃ out q, Hid (PlusAt a b out k' q) /\ Value.int .u64 (t / 4294967296) = .int .u64 q /\ W.ownsRow g 173 1 (.slice (some ⟨g, 0, none⟩) (N + 1) (N + 1)) (N + 1) (ucs (out ++ (List.replicate (N + 1) 0).drop k')) /\ Below w.heap.size w W) := by
    rintro t ht W rfl
    refine ⟨k + 1, by omega, by simp, _, _, zH (HN.out t ht), rfl, ?_, HR2.out.setCell HG.out _⟩
    rw [<- HS.out]
    exact own_setU HO.out k _
   have FIN := zH fin
   clear fin
   by_cases hka : k < a.length
   ·obtain ⟨b1, o1, rfl, hb1, hc1⟩ := HA.out.uat hka
    by_cases hkb : k < b.length
    ·obtain ⟨b2, o2, rfl, hb2, hc2⟩ := HB.out.uat hkb
     have F := zH (FIN.out _ rfl _ rfl)
     clear FIN
     generalize a[k]?.getD 0 = x at *
     generalize b[k]?.getD 0 = y at *
     go_wp2_with fail
     exact ⟨F.out, by simp [intOf]; omega⟩
    ·have hy : b[k]?.getD 0 = 0 := by rw [List.getElem?_eq_none (by omega)]; rfl
     have F := zH (FIN.out _ rfl _ rfl)
     rw [hy, Int.add_zero] at F
     clear FIN hy
     generalize a[k]?.getD 0 = x at *
     go_wp2_with fail
     exact ⟨F.out, by simp [intOf]; omega⟩
   ·have hx : a[k]?.getD 0 = 0 := by rw [List.getElem?_eq_none (by omega)]; rfl
    by_cases hkb : k < b.length
    ·obtain ⟨b2, o2, rfl, hb2, hc2⟩ := HB.out.uat hkb
     have F := zH (FIN.out _ rfl _ rfl)
     rw [hx, Int.add_zero] at F
     clear FIN hx
     generalize b[k]?.getD 0 = y at *
     go_wp2_with fail
     exact ⟨F.out, by simp [intOf]; omega⟩
    ·have hy : b[k]?.getD 0 = 0 := by rw [List.getElem?_eq_none (by omega)]; rfl
     have F := zH (FIN.out _ rfl _ rfl)
     rw [hx, hy, Int.add_zero, Int.add_zero, show q % 4294967296 = q by omega] at F
     clear FIN hx hy
     go_wp2_with fail
     exact ⟨F.out, by simp [intOf]; omega⟩
  ·obtain rfl : k = N + 1 := by omega
   have VV : Hid (vl out = v) := zH (by
    have hval := HM.out.val
    rw [List.take_of_length_le (show a.length <= N + 1 by omega), List.take_of_length_le (show b.length <= N + 1 by omega)] at hval
    have e1 := nd_len_add (vl a).toNat (vl b).toNat N (Nat.le_trans (nd_le_len da.out (by have := vl_nonneg da.out; omega)) la) (Nat.le_trans (nd_le_len db.out (by have := vl_nonneg db.out; omega)) lb)
    have e2 : v < 4294967296 ^ (N + 1) := by
     have a0 := vl_nonneg da.out
     have b0 := vl_nonneg db.out
     have e3 : (vl a).toNat + (vl b).toNat = v := by have := hv.out; omega
     rw [e3] at e1
     exact Nat.lt_of_lt_of_le (nd_lt v) (Nat.pow_le_pow_right (by decide) e1)
    have e4 := vl_nonneg HM.out.dig
    rw [BB_nat] at hval
    have := hv.out
    rcases (show q = 0 ∨ q = 1 by omega) with rfl | rfl
    ·simp at hval; omega
    ·exfalso; rw [Int.mul_one] at hval; omega)
   have HT := zH (own_trim r1 (by rw [len_app hol (by simp)]; simp) (by rw [List.drop_eq_nil_of_le (by simp), List.append_nil]; exact HM.out.dig) (by omega) (v := v) (by rw [List.drop_eq_nil_of_le (by simp), List.append_nil]; exact VV.out))
   have HR2 := zH r2
   clear r1 r2 hol
   go_wp2_with fail
   refine HT.out.mono ?_
   rintro e w' ⟨A2, c2, rfl, t1, t2, t3, t4⟩
   go_wp2_with fail
   go_ret
   exact ⟨A2, c2, rfl, t1, t2, t3, HR2.out.trans (t4.mono HR2.out.size)⟩
theorem xsub_own (A B : Option Addr) (c d : Nat) (a b : List Int) (w : World) (hA : Dg w A c a) (hB : Dg w B d b) (hl : b.length <= a.length) (hn : a.length <= 1000000)
  (v : Nat) (hv : Hid (vl a - vl b = v)) :
  Calls Tryz.prog 133 #[.slice A a.length c, .slice B b.length d] w (URet (nd v) w) := by
 have HST := zH (MinusAt.start a b)
 have da := zH hA.dig
 have db := zH hB.dig
 have LB := zH hB.lies
 have HC := zH (CloneX_any A c a w hA hn)
 clear hA hB
 go_enter Tryz.func133, Tryz.ntmps133
 go_wp2_with fail
 refine HC.out.mono ?_
 rintro e w1 ⟨A1, c1, rfl, ho1, hb1⟩
 clear HC
 go_wp2_with fail
 go_loopw [6, 7, 8, 9, 14] (fun br _ _ _ i wr => ∃ k : Nat, k <= a.length /\ i = .int .i64 k /\ ∃ out q, Hid (MinusAt a b out k q) /\ br = .int .u64 q /\ wr.ownsRow w.heap.size 173 1 (.slice A1 a.length c1) a.length (ucs (out ++ a.drop k)) /\ Below w.heap.size w wr) (fun _ _ _ _ i _ => a.length - (intOf i).toNat)
 case atStart => exact ⟨0, by omega, rfl, [], 0, HST, rfl, ho1, hb1⟩
 case round =>
  obtain ⟨k, hk, rfl, out, q, HM, rfl, r1, r2⟩ := hrel
  clear HST ho1
  have h0 := HM.out.c0
  have h1 := HM.out.c1
  have hol := HM.out.len
  by_cases hlt : k < a.length
  ·obtain ⟨g, cap, hv', hgg, hglt⟩ := r1.form (by omega)
   obtain rfl : A1 = some ⟨g, 0, none⟩ := by injection hv'
   clear hv' cap
   have HB := zH (LB.out.below r2)
   have d1 := dgs_at da.out k
   have d2 := dgs_at db.out k
   have hq := own_cellU r1 (len_app hol hk) hlt
   rw [get_app hol k (Nat.le_refl _)] at hq
   obtain ⟨q1, q2⟩ := hq
   have HS : Hid (∀ t, (out ++ a.drop k).set k t = (out ++ [t]) ++ a.drop (k + 1)) := zH (fun t => set_app hol hlt t)
   have HO := zH r1
   have HR2 := zH r2
   clear r1 r2 hol
   have fin : ∀ d' t, 0 <= d' -> d' <= 1 -> t = a[k]?.getD 0 - (q + b[k]?.getD 0) + 4294967296 * d' -> 0 <= t -> t <= 4294967295 -> ∀ W, (wr.setCell ⟨g, k, none⟩ (.int .u32 t)) = W -> (∃ k' : Nat, k' <= a.length /\ Value.int .i64 (k + 1 : Int) = .int .i64 k' /\ ∃ out q, Hid (MinusAt a b out k' q) /\ Value.int .u64 d' = .int .u64 q /\ W.ownsRow w.heap.size 173 1 (.slice (some ⟨g, 0, none⟩) a.length c1) a.length (ucs (out ++ a.drop k')) /\ Below w.heap.size w W) := by
    rintro d' t x1 x2 x3 x4 x5 W rfl
    refine ⟨k + 1, by omega, by simp, _, _, zH (HM.out.next x1 x2 x3 x4 x5), rfl, ?_, HR2.out.setCell hgg _⟩
    rw [<- HS.out]
    exact own_setU HO.out k _
   have FIN := zH fin
   clear fin
   by_cases hkb : k < b.length
   ·obtain ⟨b2, o2, rfl, hb2, hc2⟩ := HB.out.uat hkb
    by_cases hxy : a[k]?.getD 0 < q + b[k]?.getD 0
    ·have F := zH (FIN.out 1 (a[k]?.getD 0 + 4294967296 - (q + b[k]?.getD 0)) (by omega) (by omega) (by omega) (by omega) (by omega) _ rfl)
     clear FIN
     generalize a[k]?.getD 0 = x at *
     generalize b[k]?.getD 0 = y at *
     go_wp2_with fail
     exact ⟨F.out, by simp [intOf]; omega⟩
    ·have F := zH (FIN.out 0 (a[k]?.getD 0 - (q + b[k]?.getD 0)) (by omega) (by omega) (by omega) (by omega) (by omega) _ rfl)
     clear FIN
     generalize a[k]?.getD 0 = x at *
     generalize b[k]?.getD 0 = y at *
     go_wp2_with fail
     exact ⟨F.out, by simp [intOf]; omega⟩
   ·have hy : b[k]?.getD 0 = 0 := by rw [List.getElem?_eq_none (by omega)]; rfl
    by_cases hxy : a[k]?.getD 0 < q
    ·have F := zH (FIN.out 1 (a[k]?.getD 0 + 4294967296 - q) (by omega) (by omega) (by omega) (by omega) (by omega) _ rfl)
     clear FIN hy
     generalize a[k]?.getD 0 = x at *
     go_wp2_with fail
     exact ⟨F.out, by simp [intOf]; omega⟩
    ·have F := zH (FIN.out 0 (a[k]?.getD 0 - q) (by omega) (by omega) (by omega) (by omega) (by omega) _ rfl)
     clear FIN hy
     generalize a[k]?.getD 0 = x at *
     go_wp2_with fail
     exact ⟨F.out, by simp [intOf]; omega⟩
  ·obtain rfl : k = a.length := by omega
   have HT := zH (own_trimo r1 (len_app hol hk) (by rw [List.drop_eq_nil_of_le (Nat.le_refl _), List.append_nil]; exact HM.out.dig) (by omega) (v := v) (by rw [List.drop_eq_nil_of_le (Nat.le_refl _), List.append_nil, HM.out.done hl (by have := hv.out; omega)]; exact hv.out))
   have HR2 := zH r2
   clear r1 r2 hol
   go_wp2_with fail
   refine HT.out.mono ?_
   rintro e w' ⟨A2, c2, rfl, t1, t4⟩
   go_wp2_with fail
   go_ret
   exact ⟨A2, c2, rfl, ownsRow_le t1 HR2.out.size, HR2.out.trans (t4.mono HR2.out.size)⟩
theorem xsub_any (A B : Option Addr) (c d : Nat) (a b : List Int) (w : World) (hA : Dg w A c a) (hB : Dg w B d b) (hl : b.length <= a.length) (hn : a.length <= 1000000)
  (v : Nat) (hv : Hid (vl a - vl b = v)) :
  Calls Tryz.prog 133 #[.slice A a.length c, .slice B b.length d] w (RetNd v w) := (xsub_own A B c d a b w hA hB hl hn v hv).mono fun _ _ hR => hR.nd
theorem xmul_any (A B : Option Addr) (c d : Nat) (a b : List Int) (w : World) (hA0 : Dg w A c a) (hB0 : Dg w B d b) (hn : a.length <= 450000) (hm : b.length <= 450000)
  (v : Nat) (hv : Hid (vl a * vl b = v)) :
  Calls Tryz.prog 130 #[.slice A a.length c, .slice B b.length d] w (RetNd v w) := by
 have hA := hA0.lies
 have hB := hB0.lies
 have da := zH hA0.dig
 have db := zH hB0.dig
 clear hA0 hB0
 obtain ⟨w1, hmk, ho1, hb1⟩ := make_u32 w (a.length + b.length) (by omega) w.heap.size (Nat.le_refl _)
 have e2 : ((a.length + b.length : Nat) : Int) = (a.length : Int) + (b.length : Int) := by simp
 rw [e2] at hmk
 obtain ⟨g, hg⟩ : ∃ g, g = w.heap.size := ⟨_, rfl⟩
 rw [<- hg] at ho1 hmk
 have HG : Hid (w.heap.size <= g) := by show _ <= _; omega
 have HST := zH (MulOut.start a b)
 clear hg e2
 go_enter Tryz.func130, Tryz.ntmps130
 go_wp2_with fail
 clear hmk
 go_loopw [6, 7, 8, 9, 10, 19] (fun _ _ _ _ _ i wr => ∃ k : Nat, k <= a.length /\ i = .int .i64 k /\ ∃ out, Hid (MulOut a b out k) /\ wr.ownsRow g 173 1 (.slice (some ⟨g, 0, none⟩) (a.length + b.length) (a.length + b.length)) (a.length + b.length) (ucs out) /\ Below w.heap.size w wr) (fun _ _ _ _ _ i _ => a.length - (intOf i).toNat)
 case atStart => exact ⟨0, by omega, rfl, _, HST, ho1, hb1⟩
 case round =>
  obtain ⟨k, hk, rfl, out, HO, r1, r2⟩ := hrel
  by_cases hlt : k < a.length
  ·obtain ⟨bk, off, rfl, hb, hc⟩ := (hA.below r2).uat hlt
   have HI := zH HO.out.enter
   have hx := dgs_at da.out k
   generalize hx1 : a[k]?.getD 0 = x at *
   have HX := zH hx1
   clear hx1
   go_wp2_with fail
   go_loopw [8, 9, 10, 26] (fun cy _ _ i wr => ∃ m : Nat, m <= b.length /\ i = .int .i64 m /\ ∃ out c, Hid (MulIn a b out k m c) /\ cy = .int .u64 c /\ wr.ownsRow g 173 1 (.slice (some ⟨g, 0, none⟩) (a.length + b.length) (a.length + b.length)) (a.length + b.length) (ucs out) /\ Below w.heap.size w wr) (fun _ _ _ i _ => b.length - (intOf i).toNat)
   case atStart => exact ⟨0, by omega, rfl, out, 0, HI, rfl, r1, r2⟩
   case round =>
    obtain ⟨m, hm', rfl, out', cy, HS, rfl, s1, s2⟩ := hrel
    clear r1 r2
    by_cases hlm : m < b.length
    ·obtain ⟨bj, offj, rfl, hbj, hcj⟩ := (hB.below s2).uat hlm
     have hy := dgs_at db.out m
     have ho := dgs_at HS.out.dig (k + m)
     have h0 := HS.out.c0
     have h1 := HS.out.c1
     have hl := HS.out.len
     obtain ⟨q1, q2⟩ := own_cellU s1 hl (show k + m < a.length + b.length by omega)
     have HN := zH (fun t ht => HS.out.next da.out db.out hlt hlm (t := t) ht)
     have hp := sq_prod hx hy
     generalize hy1 : b[m]?.getD 0 = y at *
     generalize ho1' : out'[k + m]?.getD 0 = z at *
     have HL := zH hl
     have HY := zH hy1
     have HZ := zH ho1'
     clear hl hy1 ho1'
     have hs := HN.out (cy + (x * y + z)) (by rw [HX.out]; omega)
     have HS1 := zH hs
     clear hs
     have i0 : ((k : Int) + (m : Int)).toNat = k + m := by omega
     have i1 : (0 : Int) <= (k : Int) + (m : Int) := by omega
     have i2 : (k : Int) + (m : Int) < (a.length : Int) + (b.length : Int) := by omega
     have p4 : IntKind.i64.wrap ((k : Int) + (m : Int)) = (k : Int) + (m : Int) := IntWalk.i64_in _ (by omega)
     have p2 : IntKind.u64.wrap (x * y) = x * y := IntWalk.u64_in _ (by omega)
     have p1 : IntKind.u64.wrap (x * y + z) = x * y + z := IntWalk.u64_in _ (by omega)
     have p3 : IntKind.u64.wrap (cy + (x * y + z)) = cy + (x * y + z) := IntWalk.u64_in _ (by omega)
     go_wp2_with fail
     have b3 : 0 <= cy + (x * y + z) /\ cy + (x * y + z) <= 18446744073709551615 := by clear p1 p2 p3 p4; omega
     clear p1 p2 p3 p4
     go_wp2_with fail
     exact ⟨⟨m + 1, by omega, by go_num, _, _, HS1, rfl, own_setU s1 (k + m) _, s2.setCell (by exact HG.out) _⟩, by simp [intOf]; omega⟩
    ·obtain rfl : m = b.length := by omega
     have h0 := HS.out.c0
     have h1 := HS.out.c1
     have hl := HS.out.len
     obtain ⟨q1, q2⟩ := own_cellU s1 hl (show k + b.length < a.length + b.length by omega)
     have HL := zH (HS.out.leave hlt)
     have i0 : ((k : Int) + (b.length : Int)).toNat = k + b.length := by omega
     clear hl
     go_wp2_with fail
     exact ⟨⟨k + 1, by omega, by go_num, _, HL, own_setU s1 (k + b.length) _, s2.setCell (by exact HG.out) _⟩, by simp [intOf]; omega⟩
  ·obtain rfl : k = a.length := by omega
   have HT := zH (own_trim r1 HO.out.len HO.out.dig (by omega) (v := v) (by rw [HO.out.done, hv.out]))
   have HR2 := zH r2
   clear r1 r2
   go_wp2_with fail
   refine HT.out.mono ?_
   rintro e w' ⟨A2, c2, rfl, t1, t2, t3, t4⟩
   go_wp2_with fail
   go_ret
   exact ⟨A2, c2, rfl, t1, t2, t3, HR2.out.trans (t4.mono HR2.out.size)⟩
end Go.Proofs.YtcjicjfbippmnaaGreat
namespace Ear

theorem vl_drop (l : List Int) (i : Nat) : vl (l.drop i) = l[i]?.getD 0 + 4294967296 * vl (l.drop (i + 1)) := by
 by_cases hi : i < l.length
 ·rw [List.drop_eq_getElem_cons hi, vl, List.getElem?_eq_getElem hi]
  simp only [BB, Option.getD_some]
 ·rw [List.drop_eq_nil_of_le (by omega), List.drop_eq_nil_of_le (by omega), List.getElem?_eq_none (by omega)]
  simp [vl]
theorem drop_set_succ (l : List Int) (i : Nat) (v : Int) : (l.set i v).drop (i + 1) = l.drop (i + 1) := by
 rw [List.drop_set]
 rw [if_pos (by omega)]
structure OverAt (a out : List Int) (d : Int) (i : Nat) (r : Int) : Prop where
 len : out.length = a.length
 dig : dgs out
 r0 : 0 <= r
 r1 : r < d
 val : vl (a.drop i) = vl (out.drop i) * d + r
theorem OverAt.start (a : List Int) {d : Int} (h : 0 < d) : OverAt a (List.replicate a.length 0) d a.length 0 :=
 ⟨by simp, dgs_replicate _, by omega, h, by simp [vl]⟩
theorem over_digit {r d x : Int} (h0 : 0 <= r) (h1 : r < d) (hx0 : 0 <= x) (hx1 : x <= 4294967295) : 0 <= (r * 4294967296 + x) / d /\ (r * 4294967296 + x) / d <= 4294967295 /\ 0 <= (r * 4294967296 + x) % d /\ (r * 4294967296 + x) % d < d := by
 have a1 := Int.ediv_nonneg (a := r * 4294967296 + x) (b := d) (by omega) (by omega)
 have a2 : (r * 4294967296 + x) / d < 4294967296 := Int.ediv_lt_of_lt_mul (by omega) (by omega)
 exact ⟨a1, by omega, Int.emod_nonneg _ (by omega), Int.emod_lt_of_pos _ (by omega)⟩
theorem OverAt.next {a out : List Int} {d : Int} {i : Nat} {r : Int} (h : OverAt a out d (i + 1) r) (ha : dgs a) (hi : i < a.length) {t : Int} (ht : t = r * 4294967296 + a[i]?.getD 0) : OverAt a (out.set i (t / d)) d i (t % d) := by
 have hx := dgs_at ha i
 have hq := over_digit h.r0 h.r1 hx.1 hx.2
 rw [<- ht] at hq
 refine ⟨by simp [h.len], dgs_set h.dig _ hq.1 hq.2.1, hq.2.2.1, hq.2.2.2, ?_⟩
 rw [vl_drop a i, vl_drop (out.set i _) i, drop_set_succ, h.val, List.getElem?_set_self (by rw [h.len]; exact hi)]
 simp only [Option.getD_some]
 have e := Int.mul_ediv_add_emod t d
 rw [Int.add_mul, Int.mul_assoc, Int.mul_comm (t / d) d, Int.mul_add]
 omega
theorem OverAt.done {a out : List Int} {d : Int} {r : Int} (h : OverAt a out d 0 r) : vl out = vl a / d /\ r = vl a % d := by
 have hv := h.val
 simp only [List.drop_zero] at hv
 have h0 := h.r0
 have h1 := h.r1
 rw [hv]
 constructor
 ·rw [Int.add_comm, Int.add_mul_ediv_right _ _ (by omega), Int.ediv_eq_zero_of_lt h0 h1]; omega
 ·rw [Int.add_comm, Int.add_mul_emod_self_right, Int.emod_eq_of_lt h0 h1]
structure ShAt (a out : List Int) (p : Int) (i : Nat) : Prop where
 len : out.length = a.length + 1
 dig : dgs out
 zer : zer out (i + 1)
 top : out[i]?.getD 0 < p
 val : vl out = vl (a.take i) * p
theorem ShAt.start (a : List Int) {p : Int} (h : 0 < p) : ShAt a (List.replicate (a.length + 1) 0) p 0 :=
 ⟨by simp, dgs_replicate _, zer_replicate _ _, by simp; exact h, by rw [vl_replicate]; simp [vl]⟩
theorem ShAt.next {a out : List Int} {p s : Int} {i : Nat} (h : ShAt a out p i) (ha : dgs a) (hi : i < a.length) (hp : 0 < p) (hs : p * s = 4294967296) {x y z : Int} (hx : x = a[i]?.getD 0) (hy : y = out[i]?.getD 0 + x * p % 4294967296) (hz : z = x / s) :
  0 <= y /\ y <= 4294967295 /\ 0 <= z /\ z < p /\ ShAt a ((out.set i y).set (i + 1) z) p (i + 1) := by
 have hd := dgs_at ha i
 rw [<- hx] at hd
 have ho := dgs_at h.dig i
 have ht := h.top
 have s0 : 0 < s := by
  rcases Int.lt_trichotomy s 0 with h1 | h1 | h1
  ·have := Int.mul_neg_of_pos_of_neg hp h1; omega
  ·rw [h1, Int.mul_zero] at hs; omega
  ·exact h1
 -- x p = (x / s) B + (x % s) p
 have e0 := Int.mul_ediv_add_emod x s
 have e1 : x * p = (x / s) * 4294967296 + (x % s) * p := by
  have : x * p = (s * (x / s) + x % s) * p := by rw [e0]
  rw [this, Int.add_mul, <- hs, Int.mul_comm s (x / s), Int.mul_assoc, Int.mul_comm s p]
 have r0 := Int.emod_nonneg x (show s ≠ 0 by omega)
 have r1 := Int.emod_lt_of_pos x s0
 have b1 : (x % s) * p <= 4294967296 - p := by
  have := Int.mul_le_mul_of_nonneg_right (show x % s <= s - 1 by omega) (show 0 <= p by omega)
  rw [Int.sub_mul, Int.one_mul, Int.mul_comm s p, hs] at this
  exact this
 have b0 : 0 <= (x % s) * p := Int.mul_nonneg r0 (by omega)
 have e2 : x * p % 4294967296 = (x % s) * p := by
  rw [e1, Int.add_comm, Int.add_mul_emod_self_right, Int.emod_eq_of_lt b0 (by omega)]
 have z0 : 0 <= x / s := Int.ediv_nonneg hd.1 (by omega)
 have z1 : x / s < p := Int.ediv_lt_of_lt_mul s0 (by rw [hs]; omega)
 rw [e2] at hy
 rw [<- hz] at e1 z0 z1
 have y1 : 0 <= y := by omega
 have y2 : y <= 4294967295 := by omega
 have pB : p <= 4294967296 := by
  have := Int.mul_le_mul_of_nonneg_left (show 1 <= s by omega) (show 0 <= p by omega)
  omega
 refine ⟨y1, y2, z0, z1, by simp [h.len], dgs_set (dgs_set h.dig _ y1 y2) _ z0 (by omega), ?_, ?_, ?_⟩
 ·intro q hq
  rw [List.getElem?_set_ne (by omega), List.getElem?_set_ne (by omega)]
  exact h.zer q (by omega)
 ·rw [List.getElem?_set_self (by simp [h.len]; omega)]; exact z1
 ·rw [vl_set _ _ _ (by simp [h.len]; omega), vl_set _ _ _ (by rw [h.len]; omega), List.getElem?_set_ne (by omega), h.zer _ (Nat.le_refl _), h.val, vl_take_succ a i hi, <- hx, Int.add_mul, BB_succ]
  have e3 : BB * BB ^ i * (z - 0) = BB ^ i * (z * 4294967296) := by rw [Int.sub_zero, Int.mul_comm BB, Int.mul_assoc, Int.mul_comm BB z]
  rw [e3, Int.mul_assoc (BB ^ i) x p, e1, hy, Int.mul_add]
  have e4 : BB ^ i * (out[i]?.getD 0 + x % s * p - out[i]?.getD 0) = BB ^ i * (x % s * p) := by congr 1; omega
  rw [e4]
  omega
theorem ShAt.done {a out : List Int} {p : Int} (h : ShAt a out p a.length) : vl out = vl a * p := by
 rw [h.val, List.take_length]
def dnAt (a : List Int) (p : Int) (i : Nat) : Int := (a[i]?.getD 0 + a[i + 1]?.getD 0 * 4294967296) / p % 4294967296
def dnL (a : List Int) (p : Int) : List Int := (List.range a.length).map (dnAt a p)
theorem dnL_dgs (a : List Int) (p : Int) : dgs (dnL a p) := by
 intro x hx
 obtain ⟨i, _, rfl⟩ := List.mem_map.1 hx
 unfold dnAt
 omega
theorem dn_step {x M p s : Int} (hp : 0 < p) (hs : p * s = 4294967296) (hx0 : 0 <= x) (hx1 : x <= 4294967295) : (x + 4294967296 * M) / p = (x + M % 4294967296 * 4294967296) / p % 4294967296 + 4294967296 * (M / p) := by
 have s0 : 0 < s := by
  rcases Int.lt_trichotomy s 0 with h1 | h1 | h1
  ·have := Int.mul_neg_of_pos_of_neg hp h1; omega
  ·rw [h1, Int.mul_zero] at hs; omega
  ·exact h1
 have f : ∀ y : Int, (x + y * 4294967296) / p = x / p + s * y := fun y => by
  have e : y * 4294967296 = (s * y) * p := by rw [<- hs, Int.mul_comm p s, <- Int.mul_assoc, Int.mul_comm y s]
  rw [e, Int.add_mul_ediv_right _ _ (by omega)]
 rw [Int.mul_comm 4294967296 M, f, f]
 have q0 : 0 <= x / p := Int.ediv_nonneg hx0 (by omega)
 have q1 : x / p < s := Int.ediv_lt_of_lt_mul hp (by rw [Int.mul_comm s p, hs]; omega)
 -- M = p m + r
 have e0 := Int.mul_ediv_add_emod M p
 have r0 := Int.emod_nonneg M (show p ≠ 0 by omega)
 have r1 := Int.emod_lt_of_pos M hp
 have b1 : s * (M % p) <= 4294967296 - s := by
  have := Int.mul_le_mul_of_nonneg_left (show M % p <= p - 1 by omega) (show 0 <= s by omega)
  rw [Int.mul_sub, Int.mul_one, Int.mul_comm s p, hs] at this
  exact this
 have b0 : 0 <= s * (M % p) := Int.mul_nonneg (by omega) r0
 have e1 : s * M = 4294967296 * (M / p) + s * (M % p) := by
  have : s * M = s * (p * (M / p) + M % p) := by rw [e0]
  rw [this, Int.mul_add, <- Int.mul_assoc, Int.mul_comm s p, hs]
 -- the lower part of M
 have e2 : M % 4294967296 % p = M % p := by
  rw [<- hs, Int.emod_emod_of_dvd _ (Int.dvd_mul_right p s)]
 have e3 : s * (M % 4294967296) = 4294967296 * (M % 4294967296 / p) + s * (M % p) := by
  have h := Int.mul_ediv_add_emod (M % 4294967296) p
  rw [e2] at h
  have : s * (M % 4294967296) = s * (p * (M % 4294967296 / p) + M % p) := by rw [h]
  rw [this, Int.mul_add, <- Int.mul_assoc, Int.mul_comm s p, hs]
 rw [e1, e3]
 have e4 : (x / p + (4294967296 * (M % 4294967296 / p) + s * (M % p))) % 4294967296 = x / p + s * (M % p) := by
  have : x / p + (4294967296 * (M % 4294967296 / p) + s * (M % p)) = (x / p + s * (M % p)) + 4294967296 * (M % 4294967296 / p) := by omega
  rw [this, Int.add_mul_emod_self_left, Int.emod_eq_of_lt (by omega) (by omega)]
 rw [e4]
 omega
theorem vl_mod {l : List Int} (h : dgs l) (i : Nat) : vl (l.drop i) % 4294967296 = l[i]?.getD 0 := by
 have hx := dgs_at h i
 rw [vl_drop, Int.add_mul_emod_self_left, Int.emod_eq_of_lt hx.1 (by omega)]
theorem dnL_val {a : List Int} (h : dgs a) {p s : Int} (hp : 0 < p) (hs : p * s = 4294967296) : vl (dnL a p) = vl a / p := by
 have key : ∀ k i, i + k = a.length -> vl ((dnL a p).drop i) = vl (a.drop i) / p := by
  intro k
  induction k with
  | zero =>
   intro i hi
   rw [List.drop_eq_nil_of_le (by simp [dnL]; omega), List.drop_eq_nil_of_le (by omega)]
   simp [vl]
  | succ k ih =>
   intro i hi
   have hx := dgs_at h i
   rw [vl_drop (dnL a p), vl_drop a, ih (i + 1) (by omega), dn_step hp hs hx.1 hx.2, vl_mod h]
   have e : (dnL a p)[i]?.getD 0 = dnAt a p i := by
    unfold dnL
    rw [List.getElem?_map, List.getElem?_range (by omega)]; rfl
   rw [e]
   rfl
 have := key a.length 0 (by omega)
 simpa using this
structure DivAt (u v : Nat) (q : List Int) (m j rest : Nat) : Prop where
 len : q.length = m
 dig : dgs q
 low : ∀ k, k < j -> q[k]?.getD 0 = 0
 val : (u : Int) = vl q * v + rest
 small : rest < v * 4294967296 ^ j
theorem DivAt.start {u v m : Nat} (h : u < v * 4294967296 ^ m) : DivAt u v (List.replicate m 0) m m u :=
 ⟨by simp, dgs_replicate _, fun k _ => by
  by_cases hk : k < m
  ·rw [List.getElem?_eq_getElem (by simpa using hk)]; simp
  ·rw [List.getElem?_eq_none (by simpa using Nat.le_of_not_lt hk)]; rfl, by rw [vl_replicate]; simp, h⟩
theorem DivAt.next {u v : Nat} {q : List Int} {m j rest t : Nat} (h : DivAt u v q m (j + 1) rest) (hj : j < m) (h1 : v * t * 4294967296 ^ j <= rest) (h2 : rest < v * (t + 1) * 4294967296 ^ j) :
  t <= 4294967295 /\ DivAt u v (q.set j t) m j (rest - v * t * 4294967296 ^ j) := by
 have hP : 0 < 4294967296 ^ j := Nat.pow_pos (by decide)
 have hsm := h.small
 have ht : t <= 4294967295 := by
  have h3 : v * t * 4294967296 ^ j < v * 4294967296 * 4294967296 ^ j := by
   rw [Nat.pow_succ, Nat.mul_comm (4294967296 ^ j), <- Nat.mul_assoc] at hsm
   omega
  have h4 := Nat.lt_of_mul_lt_mul_right h3
  have h5 := Nat.lt_of_mul_lt_mul_left h4
  omega
 refine ⟨ht, by simp [h.len], dgs_set h.dig _ (by omega) (by omega), fun k hk => ?_, ?_, ?_⟩
 ·rw [List.getElem?_set_ne (by omega)]; exact h.low k (by omega)
 ·rw [vl_set _ _ _ (by rw [h.len]; exact hj), h.low j (by omega), h.val, BB_nat]
  have e : (((4294967296 ^ j : Nat) : Int) * ((t : Int) - 0)) * (v : Int) = ((v * t * 4294967296 ^ j : Nat) : Int) := by
   simp only [Int.natCast_mul, Int.sub_zero]
   rw [Int.mul_comm _ (v : Int), Int.mul_comm _ (t : Int), <- Int.mul_assoc]
  rw [Int.add_mul, e]
  omega
 ·rw [Nat.mul_add, Nat.mul_one, Nat.add_mul] at h2
  omega
theorem DivAt.done {u v : Nat} {q : List Int} {m rest : Nat} (h : DivAt u v q m 0 rest) : vl q = ((u / v : Nat) : Int) /\ rest = u % v := by
 have hv := h.val
 have hs := h.small
 simp only [Nat.pow_zero, Nat.mul_one] at hs
 have h0 := vl_nonneg h.dig
 obtain ⟨x, hx⟩ : ∃ x : Nat, vl q = x := ⟨(vl q).toNat, by omega⟩
 rw [hx] at hv ⊢
 have hu : u = x * v + rest := by
  have : ((u : Nat) : Int) = ((x * v + rest : Nat) : Int) := by rw [hv]; simp
  exact_mod_cast this
 subst hu
 constructor
 ·congr 1
  rw [Nat.add_comm, Nat.add_mul_div_right _ _ (by omega), Nat.div_eq_of_lt hs]; omega
 ·rw [Nat.add_comm, Nat.add_mul_mod_self_right, Nat.mod_eq_of_lt hs]
end Ear
