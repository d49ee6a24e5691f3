/- the reference's natural numbers: minus, times -/
import Derived.Test.YtnflpnbpigcfhabGreatDoorRNatA
namespace Go.Proofs.YtnflpnbpigcfhabGreatDoor
open Go.RowKit Ear

theorem ucs_one (l : List Int) : ∀ u ∈ ucs l, u.oneCell' = true := by
  intro u hu
  obtain ⟨x, _, rfl⟩ := List.mem_map.1 hu
  rfl
theorem ucs_append (a b : List Int) : ucs (a ++ b) = ucs a ++ ucs b := List.map_append
/-- digits come back -/
def RetNd (n : Nat) (w : World) (e : Ending) (w' : World) : Prop :=
  ∃ A c, e = .returned (.slice A (nd n).length c) ∧ Lies w' A (ucs (nd n)) ∧ (nd n).length ≤ c ∧ (A = none → c = 0) ∧ Below w.heap.size w w'
theorem lies_newu (w : World) (v : Value) (t : TypeId) : Lies (w.alloc (.cells #[v] t)) (some ⟨w.heap.size, 0, none⟩) [v] := fun _ => ⟨w.heap.size, 0, rfl, by simp, fun k u hu => by
  rw [Nat.zero_add, cell_of_row _ _ k _ _ _ (heap_alloc_new w _)]
  simpa using hu⟩
theorem own_capn {w : World} {base : Nat} {e : TypeId} {size n c : Nat} {A : Option Addr} {xs : List Value} (h : w.ownsRow base e size (.slice A n c) n xs) : n ≤ c ∧ (A = none → c = 0) := by
  rcases h.2 with ⟨hv, hx⟩ | ⟨g, cap, cur, hv, _, hg, hcur, hle, rest⟩
  · injection hv with e1 e2 e3
    subst e1 e2 e3
    exact ⟨Nat.le_refl _, fun _ => rfl⟩
  · injection hv with e1 e2 e3
    subst e1 e3
    exact ⟨by first | exact hle | omega, fun h => by cases h⟩
set_option maxRecDepth 100000 in
set_option maxHeartbeats 1000000 in
theorem minus_any (A B : Option Addr) (c d : Nat) (a b : List Int) (w : World) (hA : Lies w A (ucs a)) (hB : Lies w B (ucs b)) (da : Hid (dgs a)) (db : Hid (dgs b)) (hl : b.length ≤ a.length) (hn : a.length ≤ 1000000)
    (v : Nat) (hv : Hid (vl a - vl b = v)) :
    Calls Tryz.prog 113 #[.slice A a.length c, .slice B b.length d] w (RetNd v w) := by
  obtain ⟨j0, hj0, ky0, ky1, ky2⟩ := info_parts u32_info
  have KI := Lib.hid hj0; have KZ0 := Lib.hid ky0; have KZ1 := Lib.hid ky1; have KZ2 := Lib.hid ky2
  clear hj0 ky0 ky1 ky2
  have HST := Lib.hid (MinusAt.start a b)
  go_enter Tryz.func113, Tryz.ntmps113
  go_wp2_with fail
  go_loopw [5, 6, 7, 8, 9] (fun s br i _ _ wr => ∃ k : Nat, k ≤ a.length ∧ i = .int .i64 k ∧ ∃ out A' c' q, Hid (MinusAt a b out k q) ∧ br = .int .u64 q ∧ s = .slice A' k c' ∧ wr.ownsRow w.heap.size 87 1 (.slice A' k c') k (ucs out) ∧ Below w.heap.size w wr) (fun _ _ i _ _ _ => a.length - (intOf i).toNat)
  case atStart => exact ⟨0, by omega, rfl, [], none, 0, 0, HST, rfl, rfl, World.ownsRow_nil _ _ _ _, Below.refl _ _⟩
  case round =>
    obtain ⟨k, hk, rfl, out, A', c', q, HM, rfl, rfl, r1, r2⟩ := hrel
    clear HST
    have h0 := HM.out.c0
    have h1 := HM.out.c1
    by_cases hlt : k < a.length
    · obtain ⟨b1, o1, rfl, hb1, hc1⟩ := (hA.below r2).uat hlt
      have d1 := dgs_at da.out k
      have d2 := dgs_at db.out k
      have HN := Lib.hid (fun d' t (h2 : 0 ≤ d') (h3 : d' ≤ 1) (h4 : t = a[k]?.getD 0 - (q + b[k]?.getD 0) + 4294967296 * d') => HM.out.next h2 h3 h4)
      have hs2 : w.heap.size ≤ wr.heap.size := r2.size
      have HB := Lib.hid (hB.below r2)
      by_cases hkb : k < b.length
      · obtain ⟨b2, o2, rfl, hb2, hc2⟩ := HB.out.uat hkb
        generalize a[k]?.getD 0 = x at *
        generalize b[k]?.getD 0 = y at *
        by_cases hxy : x < q + y
        · have HX := HN.out 1 (x + 4294967296 - (q + y)) (by omega) (by omega) (by omega) (by omega) (by omega)
          have HX' := Lib.hid HX
          clear HX HN
          go_wp2_with (at_builtin; refine wpList_append_srcG _ rfl (.tmp 38) (.tmp 43) _ rfl w.heap.size 87 j0 _ 1 4 Tryz.underlying78 KI.out KZ0.out KZ1.out KZ2.out rfl (by omega) (.slice A' k c') k (ucs out) rfl (r1.alloc _) (some ⟨wr.heap.size, 0, none⟩) 1 1 [Value.int .u32 (x + 4294967296 - (q + y))] rfl (fun e => by cases e) (lies_newu _ _ _) (by simp) (by simp [Value.oneCell']) (by unfold maxLen; omega) (by omega) (by simp; omega) (k + 1) rfl ?_; intro A4 c4 w4 ho4 hg4 _)
          have hbel : Below w.heap.size w w4 := (r2.alloc hs2 _).grown hg4 (by simp; omega) (fun k hk => (r1.lt k hk).1)
          exact ⟨⟨k + 1, by omega, by go_num, _, A4, c4, 1, HX', rfl, rfl, by rw [ucs_append]; exact ho4, hbel⟩, by simp [intOf]; omega⟩
        · have HX := HN.out 0 (x - (q + y) + 4294967296 * 0) (by omega) (by omega) rfl (by omega) (by omega)
          have HX' := Lib.hid HX
          clear HX HN
          go_wp2_with (at_builtin; refine wpList_append_srcG _ rfl (.tmp 38) (.tmp 43) _ rfl w.heap.size 87 j0 _ 1 4 Tryz.underlying78 KI.out KZ0.out KZ1.out KZ2.out rfl (by omega) (.slice A' k c') k (ucs out) rfl (r1.alloc _) (some ⟨wr.heap.size, 0, none⟩) 1 1 [Value.int .u32 (x - (q + y))] rfl (fun e => by cases e) (lies_newu _ _ _) (by simp) (by simp [Value.oneCell']) (by unfold maxLen; omega) (by omega) (by simp; omega) (k + 1) rfl ?_; intro A4 c4 w4 ho4 hg4 _)
          have hbel : Below w.heap.size w w4 := (r2.alloc hs2 _).grown hg4 (by simp; omega) (fun k hk => (r1.lt k hk).1)
          exact ⟨⟨k + 1, by omega, by go_num, _, A4, c4, 0, HX', rfl, rfl, by rw [ucs_append]; simpa using ho4, hbel⟩, by simp [intOf]; omega⟩
      · have ey : b[k]?.getD 0 = 0 := by rw [List.getElem?_eq_none (by omega)]; rfl
        rw [ey] at HN
        clear ey d2
        generalize a[k]?.getD 0 = x at *
        by_cases hxy : x < q
        · have HX := HN.out 1 (x + 4294967296 - q) (by omega) (by omega) (by omega) (by omega) (by omega)
          have HX' := Lib.hid HX
          clear HX HN
          go_wp2_with (at_builtin; refine wpList_append_srcG _ rfl (.tmp 38) (.tmp 43) _ rfl w.heap.size 87 j0 _ 1 4 Tryz.underlying78 KI.out KZ0.out KZ1.out KZ2.out rfl (by omega) (.slice A' k c') k (ucs out) rfl (r1.alloc _) (some ⟨wr.heap.size, 0, none⟩) 1 1 [Value.int .u32 (x + 4294967296 - q)] rfl (fun e => by cases e) (lies_newu _ _ _) (by simp) (by simp [Value.oneCell']) (by unfold maxLen; omega) (by omega) (by simp; omega) (k + 1) rfl ?_; intro A4 c4 w4 ho4 hg4 _)
          have hbel : Below w.heap.size w w4 := (r2.alloc hs2 _).grown hg4 (by simp; omega) (fun k hk => (r1.lt k hk).1)
          exact ⟨⟨k + 1, by omega, by go_num, _, A4, c4, 1, HX', rfl, rfl, by rw [ucs_append]; exact ho4, hbel⟩, by simp [intOf]; omega⟩
        · have HX := HN.out 0 (x - (q + 0) + 4294967296 * 0) (by omega) (by omega) rfl (by omega) (by omega)
          have HX' := Lib.hid HX
          clear HX HN
          go_wp2_with (at_builtin; refine wpList_append_srcG _ rfl (.tmp 38) (.tmp 43) _ rfl w.heap.size 87 j0 _ 1 4 Tryz.underlying78 KI.out KZ0.out KZ1.out KZ2.out rfl (by omega) (.slice A' k c') k (ucs out) rfl (r1.alloc _) (some ⟨wr.heap.size, 0, none⟩) 1 1 [Value.int .u32 (x - q)] rfl (fun e => by cases e) (lies_newu _ _ _) (by simp) (by simp [Value.oneCell']) (by unfold maxLen; omega) (by omega) (by simp; omega) (k + 1) rfl ?_; intro A4 c4 w4 ho4 hg4 _)
          have hbel : Below w.heap.size w w4 := (r2.alloc hs2 _).grown hg4 (by simp; omega) (fun k hk => (r1.lt k hk).1)
          exact ⟨⟨k + 1, by omega, by go_num, _, A4, c4, 0, HX', rfl, rfl, by rw [ucs_append]; simpa using ho4, hbel⟩, by simp [intOf]; omega⟩
    · obtain rfl : k = a.length := by omega
      have HD := Lib.hid (HM.out.done hl (by have := hv.out; omega))
      have DG := Lib.hid HM.out.dig
      have LN : out.length = a.length := HM.out.len
      have LO := Lib.hid (Lies.of_own r1)
      obtain ⟨k1, k2⟩ := own_capn r1
      have VV : Hid (vl out = v) := Lib.hid (by rw [HD.out, hv.out])
      have hcall := fun W (hW : Lies W A' (ucs out)) => trim_any A' c' out W hW DG (by omega) (by omega) v VV
      rw [LN] at hcall
      have HC := Lib.hid hcall
      have LN' := Lib.hid LN
      clear hcall LN h0 h1
      go_wp2_with fail
      refine (HC.out _ LO.out).mono ?_
      rintro e w' ⟨rfl, rfl⟩
      go_wp2_with fail
      go_ret
      exact ⟨A', c', rfl, LO.out.ndl DG.out VV.out, by have := nd_le_len DG.out VV.out; rw [LN'.out] at this; omega, k2, r2⟩
set_option maxRecDepth 100000 in
set_option maxHeartbeats 1000000 in
theorem times_any (A B : Option Addr) (c d : Nat) (a b : List Int) (w : World) (hA : Lies w A (ucs a)) (hB : Lies w B (ucs b)) (da : Hid (dgs a)) (db : Hid (dgs b)) (hn : a.length ≤ 1000000) (hm : b.length ≤ 1000000)
    (v : Nat) (hv : Hid (vl a * vl b = v)) :
    Calls Tryz.prog 91 #[.slice A a.length c, .slice B b.length d] w (RetNd v w) := by
  obtain ⟨w1, hmk, ho1, hb1⟩ := make_u32 w (a.length + b.length) (by omega) w.heap.size (Nat.le_refl _)
  have e2 : ((a.length + b.length : Nat) : Int) = (a.length : Int) + (b.length : Int) := by simp
  rw [e2] at hmk
  obtain ⟨g, hg⟩ : ∃ g, g = w.heap.size := ⟨_, rfl⟩
  rw [← hg] at ho1 hmk
  have HG : Hid (w.heap.size ≤ g) := by show _ ≤ _; omega
  have HST := Lib.hid (MulOut.start a b)
  clear hg e2
  go_enter Tryz.func91, Tryz.ntmps91
  go_wp2_with fail
  clear hmk
  go_loopw [6, 7, 8] (fun i _ _ wr => ∃ k : Nat, k ≤ a.length ∧ i = .int .i64 k ∧ ∃ out, Hid (MulOut a b out k) ∧ wr.ownsRow g 87 1 (.slice (some ⟨g, 0, none⟩) (a.length + b.length) (a.length + b.length)) (a.length + b.length) (ucs out) ∧ Below w.heap.size w wr) (fun i _ _ _ => a.length - (intOf i).toNat)
  case atStart => exact ⟨0, by omega, rfl, _, HST, ho1, hb1⟩
  case round =>
    obtain ⟨k, hk, rfl, out, HO, r1, r2⟩ := hrel
    by_cases hlt : k < a.length
    · obtain ⟨bk, off, rfl, hb, hc⟩ := (hA.below r2).uat hlt
      have HI := Lib.hid HO.out.enter
      have hx := dgs_at da.out k
      generalize hx1 : a[k]?.getD 0 = x at *
      have HX := Lib.hid hx1
      clear hx1 hc hb
      go_wp2_with fail
      go_loopw [7, 8] (fun cy i wr => ∃ m : Nat, m ≤ b.length ∧ i = .int .i64 m ∧ ∃ out c, Hid (MulIn a b out k m c) ∧ cy = .int .u64 c ∧ wr.ownsRow g 87 1 (.slice (some ⟨g, 0, none⟩) (a.length + b.length) (a.length + b.length)) (a.length + b.length) (ucs out) ∧ Below w.heap.size w wr) (fun _ i _ => b.length - (intOf i).toNat)
      case atStart => exact ⟨0, by omega, rfl, out, 0, HI, rfl, r1, r2⟩
      case round =>
        obtain ⟨m, hm', rfl, out', cy, HS, rfl, s1, s2⟩ := hrel
        clear r1 r2
        by_cases hlm : m < b.length
        · obtain ⟨bk', off', eA, hb', hc'⟩ := (hA.below s2).uat hlt
          cases eA
          obtain ⟨bj, offj, rfl, hbj, hcj⟩ := (hB.below s2).uat hlm
          have hy := dgs_at db.out m
          have ho := dgs_at HS.out.dig (k + m)
          have h0 := HS.out.c0
          have h1 := HS.out.c1
          have hl := HS.out.len
          have q1 : wr.cell? ⟨g, k + m, none⟩ = some (.int .u32 (out'[k + m]?.getD 0)) := by
            rw [s1.cellAt (k + m) (by omega)]; simp only [List.getElem?_map, List.getElem?_eq_getElem (show k + m < out'.length by omega)]; rfl
          have q2 : wr.frozen? ⟨g, k + m, none⟩ = false := s1.frozenAt (k + m)
          have HN := Lib.hid (fun t ht => HS.out.next da.out db.out hlt hlm (t := t) ht)
          have hp := sq_prod hx hy
          rw [HX.out] at hc'
          generalize hy1 : b[m]?.getD 0 = y at *
          generalize ho1' : out'[k + m]?.getD 0 = z at *
          have HL := Lib.hid hl
          have HY := Lib.hid hy1
          have HZ := Lib.hid ho1'
          clear hl hy1 ho1'
          have hs := HN.out (cy + z + x * y) (by rw [HX.out]; omega)
          have HS1 := Lib.hid hs
          clear hs
          have i0 : ((k : Int) + (m : Int)).toNat = k + m := by omega
          have i1 : (0 : Int) ≤ (k : Int) + (m : Int) := by omega
          have i2 : (k : Int) + (m : Int) < (a.length : Int) + (b.length : Int) := by omega
          have p4 : IntKind.i64.wrap ((k : Int) + (m : Int)) = (k : Int) + (m : Int) := IntWalk.i64_in _ (by omega)
          have p1 : IntKind.u64.wrap (cy + z) = cy + z := IntWalk.u64_in _ (by omega)
          have p2 : IntKind.u64.wrap (x * y) = x * y := IntWalk.u64_in _ (by omega)
          have p3 : IntKind.u64.wrap (cy + z + x * y) = cy + z + x * y := IntWalk.u64_in _ (by omega)
          go_wp2_with fail
          go_quiet (fail)
          have b3 : 0 ≤ cy + z + x * y ∧ cy + z + x * y ≤ 18446744073709551615 := by clear p1 p2 p3 p4; omega
          clear p1 p2 p3 p4
          go_wp2_with fail
          have hst := fun n => (show (wr.drewN n).ownsRow g 87 1 (.slice (some ⟨g, 0, none⟩) (a.length + b.length) (a.length + b.length)) (a.length + b.length) (ucs out') from s1).stored (k + m) (.int .u32 ((cy + z + x * y) % 4294967296))
          simp only [← List.map_set] at hst
          exact ⟨⟨m + 1, by omega, by go_num, _, _, HS1, rfl, (hst _).1, (s2.trans (below_drewN' _ _)).setCell (by exact HG.out) _⟩, by simp [intOf]; omega⟩
        · obtain rfl : m = b.length := by omega
          have h0 := HS.out.c0
          have h1 := HS.out.c1
          have hl := HS.out.len
          have q1 : wr.cell? ⟨g, k + b.length, none⟩ = some (.int .u32 (out'[k + b.length]?.getD 0)) := by
            rw [s1.cellAt (k + b.length) (by omega)]; simp only [List.getElem?_map, List.getElem?_eq_getElem (show k + b.length < out'.length by omega)]; rfl
          have q2 : wr.frozen? ⟨g, k + b.length, none⟩ = false := s1.frozenAt (k + b.length)
          have HL := Lib.hid (HS.out.leave hlt)
          have i0 : ((k : Int) + (b.length : Int)).toNat = k + b.length := by omega
          clear hl
          go_wp2_with fail
          have hst := s1.stored (k + b.length) (.int .u32 cy)
          rw [← List.map_set] at hst
          exact ⟨⟨k + 1, by omega, by go_num, _, HL, hst.1, s2.setCell (by exact HG.out) _⟩, by simp [intOf]; omega⟩
    · obtain rfl : k = a.length := by omega
      have hl := Lib.hid HO.out.len
      have DG := Lib.hid HO.out.dig
      have VV : Hid (vl out = v) := Lib.hid (by rw [HO.out.done, hv.out])
      have LO := Lib.hid (Lies.of_own r1)
      have hcall := fun W (hW : Lies W (some ⟨g, 0, none⟩) (ucs out)) => trim_any (some ⟨g, 0, none⟩) (a.length + b.length) out W hW DG (by rw [hl.out]; omega) (by rw [hl.out]; omega) v VV
      rw [hl.out] at hcall
      have HC := Lib.hid hcall
      clear hcall
      go_wp2_with fail
      refine (HC.out _ LO.out).mono ?_
      rintro e w' ⟨rfl, rfl⟩
      go_wp2_with fail
      go_ret
      exact ⟨_, _, rfl, LO.out.ndl DG.out VV.out, by have := nd_le_len DG.out VV.out; rw [hl.out] at this; omega, (fun e => by cases e), r2⟩
end Go.Proofs.YtnflpnbpigcfhabGreatDoor
