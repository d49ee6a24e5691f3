/- the examples of the chapter hold: the walk -/
import Derived.Test.YtnflpnbpigcfhabDoorMc
namespace Go.Proofs.YtnflpnbpigcfhabDoor
open Go.RowKit Ear

theorem LL.alloc {w : World} {A : Option Addr} {L : List Inn} (h : LL w A L) (o : Obj) : LL (w.alloc o) A L := ⟨h.lies.alloc o, fun x hx => (h.inn x hx).alloc o⟩
/-- what the examples have come to -/
structure KFin (w wx : World) (A1 A2 A3 A5 A6 : Option Addr) (L5 L6 : List Inn) : Prop where
  bel : Below w.heap.size w wx
  l1 : Lies wx A1 (ics [0, 23170])
  l2 : Lies wx A2 (ics [1, 1])
  l3 : Lies wx A3 (ics [48, 15])
  m5 : LL wx A5 L5
  m6 : LL wx A6 L6
  e5 : vsOf L5 = [[1], [9]]
  e6 : vsOf L6 = [[1, 2], [3, 3], [4, 1]]
  n5 : L5.length = 2
  n6 : L6.length = 3
theorem KFin.step {w wx w' : World} {A1 A2 A3 A5 A6 : Option Addr} {L5 L6 : List Inn} (h : KFin w wx A1 A2 A3 A5 A6 L5 L6) (hb : Below wx.heap.size wx w') : KFin w w' A1 A2 A3 A5 A6 L5 L6 :=
  ⟨h.bel.trans (hb.mono h.bel.size), h.l1.below hb, h.l2.below hb, h.l3.below hb, h.m5.below hb, h.m6.below hb, h.e5, h.e6, h.n5, h.n6⟩
theorem bel_al {w w' : World} (o : Obj) (hb : Below (w.alloc o).heap.size (w.alloc o) w') : Below w.heap.size w w' := ((Below.refl _ _).alloc (Nat.le_refl _) o).trans (hb.mono (by simp))
theorem lies_lit (w : World) (cs : Array Value) (t : TypeId) : Lies (w.alloc (.cells cs t)) (some ⟨w.heap.size, 0, none⟩) cs.toList := (((Led.nil w).make cs t w.heap.size rfl).lies 0 _ _ rfl)
/-- slot 11 and the world behind the last example -/
def KCut (w : World) (A1 A2 A3 A5 : Option Addr) (L5 : List Inn) (t11 : Value) (wx : World) : Prop := ∃ A6 c6 L6, t11 = .slice A6 3 c6 ∧ KFin w wx A1 A2 A3 A5 A6 L5 L6
set_option maxRecDepth 100000 in
set_option maxHeartbeats 8000000 in
theorem known3_any (w : World) (hC : CosOk w) : Calls Tryd.prog 7 #[] w (RetB true w) := by
  have D0 := Lib.hid (((Led.nil w).add hC).make #[.int .i64 1, .int .i64 (-1)] 3 w.heap.size rfl)
  clear hC
  go_enter Tryd.func7, Tryd.ntmps7
  go_wp2_with fail
  refine (k3_trf w.heap.size _ (D0.out.lies 1 _ _ rfl) (D0.out.lies 0 _ _ rfl)).mono ?_
  rintro e w1 ⟨A1, c1, rfl, ho1, hb1⟩
  have D1 := Lib.hid (((D0.out.below hb1).add (Lies.of_own ho1)).make #[.int .i64 32768, .int .i64 0] 3 w1.heap.size rfl)
  simp only [List.length_cons, List.length_nil, Nat.zero_add, Nat.reduceAdd]
  clear hb1 ho1 D0
  go_wp2_with fail
  refine (k3_inv w1.heap.size _ (D1.out.lies 3 _ _ rfl) (D1.out.lies 0 _ _ rfl)).mono ?_
  rintro e w2 ⟨A2, c2, rfl, ho2, hb2⟩
  have D2 := Lib.hid (((D1.out.below hb2).add (Lies.of_own ho2)).make #[.int .i64 16, .int .i64 16, .int .i64 16] 3 w2.heap.size rfl)
  simp only [List.length_cons, List.length_nil, Nat.zero_add, Nat.reduceAdd]
  clear hb2 ho2 D1
  go_wp2_with fail
  refine (k3_cep w2.heap.size _ (D2.out.lies 5 _ _ rfl) (D2.out.lies 0 _ _ rfl)).mono ?_
  rintro e w3 ⟨A3, c3, rfl, ho3, hb3⟩
  have D3 := Lib.hid ((D2.out.below hb3).add ho3)
  simp only [List.length_cons, List.length_nil, Nat.zero_add, Nat.reduceAdd]
  clear hb3 ho3 D2
  go_wp2_with fail
  refine (k3_log _).mono ?_
  rintro e w4 ⟨rfl, hb4⟩
  have D4 := Lib.hid ((((((((D3.out.below hb4).make #[.int .i64 0] 3 w4.heap.size rfl).make #[.int .i64 1] 3 (w4.heap.size + 1) (by simp)).make #[.int .i64 9] 3 (w4.heap.size + 2) (by simp)).make #[.slice (some ⟨w4.heap.size, 0, none⟩) 1 1, .slice (some ⟨w4.heap.size + 1, 0, none⟩) 1 1, .slice (some ⟨w4.heap.size + 2, 0, none⟩) 1 1] 22 (w4.heap.size + 3) (by simp)).make #[.int .i64 0] 3 (w4.heap.size + 4) (by simp)).make #[.int .i64 10] 3 (w4.heap.size + 5) (by simp)).make #[.slice (some ⟨w4.heap.size + 4, 0, none⟩) 1 1, .slice (some ⟨w4.heap.size + 5, 0, none⟩) 1 1] 22 (w4.heap.size + 6) (by simp))
  clear hb4 D3
  go_wp2_with fail
  refine (k3_imp (some ⟨w4.heap.size + 3, 0, none⟩) (some ⟨w4.heap.size + 6, 0, none⟩) w4.heap.size (w4.heap.size + 1) (w4.heap.size + 2) (w4.heap.size + 4) (w4.heap.size + 5) _
    (LL.lit3 (l1 := [0]) (l2 := [1]) (l3 := [9]) (D4.out.lies 10 _ _ rfl) (.lit (D4.out.lies 7 _ _ rfl) (by decide) (by decide)) (.lit (D4.out.lies 8 _ _ rfl) (by decide) (by decide)) (.lit (D4.out.lies 9 _ _ rfl) (by decide) (by decide)))
    (LL.lit2 (l1 := [0]) (l2 := [10]) (D4.out.lies 13 _ _ rfl) (.lit (D4.out.lies 11 _ _ rfl) (by decide) (by decide)) (.lit (D4.out.lies 12 _ _ rfl) (by decide) (by decide)))).mono ?_
  rintro e w5 ⟨A5, c5, L5, rfl, hv5, hl5, hb5⟩
  have e5 : L5.length = 2 := by have := congrArg List.length hv5.out; simpa using this
  rw [e5]
  have E5 := Lib.hid e5
  clear e5
  have D5' := Lib.hid (D4.out.below hb5)
  have D5 := Lib.hid ((((((D4.out.below hb5).make #[.int .i64 1] 3 w5.heap.size rfl).make #[.int .i64 3] 3 (w5.heap.size + 1) (by simp)).make #[.int .i64 4] 3 (w5.heap.size + 2) (by simp)).make #[.slice (some ⟨w5.heap.size, 0, none⟩) 1 1, .slice (some ⟨w5.heap.size + 1, 0, none⟩) 1 1, .slice (some ⟨w5.heap.size + 2, 0, none⟩) 1 1] 22 (w5.heap.size + 3) (by simp)))
  have M5 := Lib.hid (hl5.ll)
  have V5 := Lib.hid hv5.out
  clear hb5 hl5 D4 hv5
  go_upto_region 6 with (fail)
  go_cut [11, 12] from 13 to 104 (fun t11 t12 wx => t12 = .int .i64 0 ∧ KCut w A1 A2 A3 A5 L5 t11 wx)
  case first =>
    clear D5'
    go_wp2_with fail
    refine (k3_dif (some ⟨w5.heap.size + 3, 0, none⟩) w5.heap.size (w5.heap.size + 1) (w5.heap.size + 2) _
      (LL.lit3 (l1 := [1]) (l2 := [3]) (l3 := [4]) (D5.out.lies 17 _ _ rfl) (.lit (D5.out.lies 14 _ _ rfl) (by decide) (by decide)) (.lit (D5.out.lies 15 _ _ rfl) (by decide) (by decide)) (.lit (D5.out.lies 16 _ _ rfl) (by decide) (by decide)))).mono ?_
    rintro e w6 ⟨A6, c6, L6, rfl, hv6, hl6, hb6⟩
    have e6 : L6.length = 3 := by have := congrArg List.length hv6.out; simpa using this
    rw [e6]
    have E6 := Lib.hid e6
    clear e6
    have D6 := Lib.hid (D5.out.below hb6)
    have M5' := Lib.hid (((((M5.out.alloc _).alloc _).alloc _).alloc _).below hb6)
    have HL6 := Lib.hid hl6
    clear hb6 hl6 D5 M5
    go_wp2_with fail
    go_meet
    exact ⟨rfl, A6, c6, L6, rfl, D6.out.bel, D6.out.lies 2 _ _ rfl, D6.out.lies 4 _ _ rfl, D6.out.lies 6 _ _ rfl, M5'.out, HL6.out.ll, V5.out, hv6.out, E5.out, E6.out⟩
  case rest =>
    clear D5 D5' M5 V5 E5
    obtain ⟨rfl, A6, c6, L6, rfl, hF⟩ := hcut
    have F0 := Lib.hid hF
    clear hF
    go_wp2_with fail
    refine (same_b A1 _ c1 2 [0, 23170] [0, 23170] _ (F0.out.l1.alloc _) (lies_lit _ _ _) (by decide) (by decide) true (Lib.hid (by decide))).mono ?_
    rintro e w7 ⟨rfl, hb7⟩
    have F7 := Lib.hid (F0.out.step (bel_al _ hb7))
    clear hb7 F0
    go_wp2_with fail
    refine (same_b A2 _ c2 2 [1, 1] [1, 1] _ (F7.out.l2.alloc _) (lies_lit _ _ _) (by decide) (by decide) true (Lib.hid (by decide))).mono ?_
    rintro e w8 ⟨rfl, hb8⟩
    have F8 := Lib.hid (F7.out.step (bel_al _ hb8))
    clear hb8 F7
    go_wp2_with fail
    refine (same_b A3 _ c3 2 [48, 15] [48, 15] _ (F8.out.l3.alloc _) (lies_lit _ _ _) (by decide) (by decide) true (Lib.hid (by decide))).mono ?_
    rintro e w9 ⟨rfl, hb9⟩
    have F9 := Lib.hid (F8.out.step (bel_al _ hb9))
    have D9 := Lib.hid ((((Led.nil w9).make #[.int .i64 1] 3 w9.heap.size rfl).make #[.int .i64 9] 3 (w9.heap.size + 1) (by simp)).make #[.slice (some ⟨w9.heap.size, 0, none⟩) 1 1, .slice (some ⟨w9.heap.size + 1, 0, none⟩) 1 1] 22 (w9.heap.size + 2) (by simp))
    clear hb9 F8
    go_wp2_with fail
    have hs1 := sames_b A5 (some ⟨w9.heap.size + 2, 0, none⟩) c5 2 L5 _ _ (F9.out.m5.below D9.out.bel) (LL.lit2 (l1 := [1]) (l2 := [9]) (D9.out.lies 2 _ _ rfl) (.lit (D9.out.lies 0 _ _ rfl) (by decide) (by decide)) (.lit (D9.out.lies 1 _ _ rfl) (by decide) (by decide))) (by rw [F9.out.n5]; decide) true (Lib.hid (by rw [F9.out.e5]; first | rfl | simp))
    rw [F9.out.n5] at hs1
    refine hs1.mono ?_
    clear hs1
    rintro e w10 ⟨rfl, hb10⟩
    have F10 := Lib.hid (F9.out.step (D9.out.bel.trans (hb10.mono D9.out.bel.size)))
    have D10 := Lib.hid (((((Led.nil w10).make #[.int .i64 1, .int .i64 2] 3 w10.heap.size rfl).make #[.int .i64 3, .int .i64 3] 3 (w10.heap.size + 1) (by simp)).make #[.int .i64 4, .int .i64 1] 3 (w10.heap.size + 2) (by simp)).make #[.slice (some ⟨w10.heap.size, 0, none⟩) 2 2, .slice (some ⟨w10.heap.size + 1, 0, none⟩) 2 2, .slice (some ⟨w10.heap.size + 2, 0, none⟩) 2 2] 22 (w10.heap.size + 3) (by simp))
    clear hb10 D9 F9
    go_wp2_with fail
    have hs2 := sames_b A6 (some ⟨w10.heap.size + 3, 0, none⟩) c6 3 L6 _ _ (F10.out.m6.below D10.out.bel) (LL.lit3 (l1 := [1, 2]) (l2 := [3, 3]) (l3 := [4, 1]) (D10.out.lies 3 _ _ rfl) (.lit (D10.out.lies 0 _ _ rfl) (by decide) (by decide)) (.lit (D10.out.lies 1 _ _ rfl) (by decide) (by decide)) (.lit (D10.out.lies 2 _ _ rfl) (by decide) (by decide))) (by rw [F10.out.n6]; decide) true (Lib.hid (by rw [F10.out.e6]; first | rfl | simp))
    rw [F10.out.n6] at hs2
    refine hs2.mono ?_
    clear hs2
    rintro e w11 ⟨rfl, hb11⟩
    have hb := F10.out.bel.trans ((D10.out.bel.trans (hb11.mono D10.out.bel.size)).mono F10.out.bel.size)
    clear D10 F10 hb11
    go_wp2_with fail
    go_ret
    exact ⟨rfl, hb⟩
end Go.Proofs.YtnflpnbpigcfhabDoor
