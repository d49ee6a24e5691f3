/- the reference's Pack -/
import Derived.Test.YtnhkngmdjomfjaaPackD
namespace Go.Proofs.Ytnhkngmdjomfjaa
open Go.RowKit Ear

def RPackRel (W : World) (base : Nat) (hd : List Int) (l : List Int) (t3 t4 : Value) (wr : World) : Prop :=
  ∃ k : Nat, k ≤ l.length ∧ t4 = .int .i64 k ∧ ∃ A c, t3 = .slice A (hd ++ smpB (l.take k)).length c ∧ wr.ownsRow base 5 1 (.slice A (hd ++ smpB (l.take k)).length c) (hd ++ smpB (l.take k)).length (bcs (hd ++ smpB (l.take k))) ∧ Below base W wr

set_option maxRecDepth 100000 in
set_option maxHeartbeats 2000000 in
theorem rPack_ok (rate : Int) (A : Option Addr) (c : Nat) (l : List Int) (w : World) (h : Lies w A (ics l)) (hc : Hid (chk rate l = 0)) :
    Calls Try.prog 49 #[recV rate A l.length c] w (BytesRet (packB rate l) w) := by
  obtain ⟨i0, hi0, hz0, hz1, hz2⟩ := info_parts u8_info
  have TI := Lib.hid hi0; have TZ0 := Lib.hid hz0; have TZ1 := Lib.hid hz1; have TZ2 := Lib.hid hz2
  clear hi0 hz0 hz1 hz2
  obtain ⟨hl, r1, r2, hs⟩ := chk_ok.1 hc.out
  have HS := Lib.hid hs
  have D0 := Lib.hid (((Led.nil w).add h).alloc (.cells #[.int .i64 rate, .slice A l.length c] 24) |>.row (heap_alloc_new w _))
  clear h hs
  have kc := fun (w : World) (C : Array Value) (n c : Nat) => Lib.run_convert_bytes_const (P := Try.prog) w 76 5 C n c Try.underlying76 Try.underlying5
  have q0 := D0.out.cell 1 rfl 0 rfl
  have q1 := D0.out.cell 1 rfl 1 rfl
  simp only [Nat.add_zero, Nat.zero_add] at q0 q1
  have p0 := Lib.cell?_alloc_marked (Obj.cells #[Value.int IntKind.u8 69, Value.int IntKind.u8 65, Value.int IntKind.u8 82, Value.int IntKind.u8 49] 5 (4, 5)) q0
  have kc1 := kc (w.alloc (.cells #[.int .i64 rate, .slice A l.length c] 24)) #[Value.int IntKind.u8 69, Value.int IntKind.u8 65, Value.int IntKind.u8 82, Value.int IntKind.u8 49] 4 4
  simp only [World.size_alloc] at kc1
  clear kc
  go_enter Try.func49, Try.ntmps49
  go_wp2_with fail
  have D1 := Lib.hid (D0.out.alloc (Obj.cells #[Value.int IntKind.u8 69, Value.int IntKind.u8 65, Value.int IntKind.u8 82, Value.int IntKind.u8 49] 5 (4, 5)))
  have HM := Lib.hid (heap_alloc_new (w.alloc (.cells #[.int .i64 rate, .slice A l.length c] 24)) (Obj.cells #[Value.int IntKind.u8 69, Value.int IntKind.u8 65, Value.int IntKind.u8 82, Value.int IntKind.u8 49] 5 (4, 5)))
  refine (rput_any rate 4 _ (by omega) (by omega) (by omega)).mono ?_
  rintro e w2 ⟨A2, c2, rfl, hown2, hb2⟩
  rw [le_len] at hown2 ⊢
  obtain ⟨g2, cap2, hv2, _, _⟩ := hown2.form (by omega)
  injection hv2 with hv2 _ hv3
  subst hv2
  subst hv3
  have D2 := Lib.hid (D1.out.below hb2)
  have OF : Hid (OwnFull w2 (w.heap.size + 1) 5 1 (some ⟨w.heap.size + 1, 0, none⟩) 4 4 (bcs [69, 65, 82, 49])) := Lib.hid (.inr ⟨rfl, rfl, w.heap.size + 1, _, _, rfl, Nat.le_refl _, by
    have := HM.out
    rw [World.size_alloc] at this
    exact (hb2.block (w.heap.size + 1) (by simp)).trans this, fun j u hu => by simpa using hu⟩)
  have L2 := Lib.hid (Lies.of_own hown2)
  have hs2 := hb2.size
  simp only [World.size_alloc] at hs2
  clear HM hown2 hb2 D1 q0 q1 p0 kc1
  go_wp2_with (at_builtin; refine wpList_append_full _ rfl (.tmp 7) (.tmp 10) _ rfl (w.heap.size + 1) 5 i0 _ 1 1 Try.underlying76 TI.out TZ0.out TZ1.out TZ2.out rfl (by omega) (some ⟨w.heap.size + 1, 0, none⟩) 4 4 (bcs [69, 65, 82, 49]) rfl OF.out ⟨g2, 0, none⟩ 4 c2 (bcs (le 4 rate)) rfl L2.out (by simp [le_len]) (bcs_one _) (by omega) (by unfold maxLen; omega) (by omega) (by omega) 8 rfl ?_; intro A3 c3 w3 hown3 hgr3 _; have D3 := Lib.hid (D0.out.pastR D2.out hgr3 (fun k hk => by have := (OF.out.lt k hk).1; simp; omega)); have OW3 : Hid (w3.ownsRow (w.heap.size + 1) 5 1 (.slice A3 8 c3) 8 (bcs ([69, 65, 82, 49] ++ le 4 rate))) := Lib.hid (by rw [bcs_append]; exact hown3); have hs3 := hgr3.size; have q1 := D3.out.cell 1 rfl 1 rfl; simp only [Nat.zero_add] at q1; clear hgr3 hown3)
  refine (rput_any l.length 4 _ (by omega) (by omega) (by omega)).mono ?_
  rintro e w4 ⟨A4, c4, rfl, hown4, hb4⟩
  rw [le_len] at hown4 ⊢
  have D4 := Lib.hid (D3.out.below hb4)
  have OW4 := Lib.hid (own_below OW3.out hb4)
  have OP4 := Lib.hid hown4
  have hs4 := hb4.size
  clear hown4 hb4 q1 OW3 D3 OF D2 L2
  go_wp2_with (at_builtin; refine wpList_append_srcG _ rfl (.tmp 12) (.tmp 16) _ rfl (w.heap.size + 1) 5 i0 _ 1 1 Try.underlying76 TI.out TZ0.out TZ1.out TZ2.out rfl (by omega) (.slice A3 8 c3) 8 (bcs ([69, 65, 82, 49] ++ le 4 rate)) rfl OW4.out A4 4 c4 (bcs (le 4 l.length)) rfl (own_none OP4.out) (Lies.of_own OP4.out) (by simp [le_len]) (bcs_one _) (by unfold maxLen; omega) (by omega) (by omega) _ (show 8 + 4 = (headB rate l.length).length by rw [headB_len]) ?_; intro A5 c5 w5 hown5 hgr5 _; have D5 := Lib.hid (D0.out.pastR D4.out hgr5 (fun k hk => by have := (OW4.out.lt k hk).1; simp; omega)); have OW5 : Hid (w5.ownsRow (w.heap.size + 1) 5 1 (.slice A5 (headB rate l.length).length c5) (headB rate l.length).length (bcs (headB rate l.length))) := Lib.hid (by have := hown5; rw [← bcs_append] at this; exact this); have hs5 := hgr5.size; have q1 := D5.out.cell 1 rfl 1 rfl; simp only [Nat.zero_add] at q1; clear hgr5 hown5)
  have hhl := headB_len rate l.length
  have HPK : Hid (packB rate l = headB rate l.length ++ smpB l ++ le 4 (smB (headB rate l.length ++ smpB l))) := Lib.hid rfl
  have HYB : Hid (isB (headB rate l.length ++ smpB l)) := Lib.hid (fun x hx => bodyB_mem (rate := rate) (l := l) hx)
  generalize headB rate l.length = hd at *
  have HHL := Lib.hid hhl
  have hhd : hd.length ≤ 12 := by omega
  clear hhl OW4 OP4 D4 q1
  go_loopw [3, 4] (fun t3 t4 wr => RPackRel w5 (w.heap.size + 1) hd l t3 t4 wr) (fun _ t4 _ => l.length - (intOf t4).toNat)
  case atStart => exact ⟨0, Nat.zero_le _, rfl, A5, c5, by simp [smpB], by simpa [smpB] using OW5.out, Below.refl _ _⟩
  case round =>
    obtain ⟨k, hk, rfl, A6, c6, rfl, hown6, hbel⟩ := hrel
    have hlen : (hd ++ smpB (l.take k)).length ≤ 400012 := by rw [List.length_append, smpB_len, List.length_take]; omega
    have D6 := Lib.hid (D0.out.belowR D5.out (by simpa using hbel))
    have OW6 := Lib.hid hown6
    have HB6 := Lib.hid hbel
    have hs6 := hbel.size
    clear hown6 hbel
    by_cases hlt : k < l.length
    · obtain ⟨b, off, rfl, hb, hc⟩ := (D6.out.lies 0 _ _ rfl).at_ hlt
      have q1 := D6.out.cell 1 rfl 1 rfl
      simp only [Nat.zero_add] at q1
      have hx := allR_get HS.out hlt
      have HSN : Hid (hd ++ smpB (l.take (k + 1)) = (hd ++ smpB (l.take k)) ++ le 2 (l[k] % 65536)) := Lib.hid (by rw [List.take_succ_eq_append_getElem hlt, smpB_snoc, List.append_assoc])
      obtain ⟨x, hxe⟩ : ∃ x : Int, x = l[k] % 65536 := ⟨_, rfl⟩
      rw [← hxe] at HSN
      have hx0 : 0 ≤ x ∧ x ≤ 65535 := by omega
      have HXE := Lib.hid hxe
      clear hxe
      generalize hys : hd ++ smpB (l.take k) = ys at *
      clear hys
      have HYN : Hid (ys.length + 2 = (hd ++ smpB (l.take (k + 1))).length) := Lib.hid (by rw [HSN.out, List.length_append, le_len])
      have HTWO : Hid (∀ (y : Int) (W : World), y = x → Calls Try.prog 84 #[.int .i64 y, .int .i64 2] W (BytesRet (le 2 x) W)) := Lib.hid (fun y W e => by rw [e]; exact rput_any x 2 W (by omega) (by omega) (by omega))
      by_cases hneg : l[k] < 0
      all_goals
        go_wp2_with fail
        refine (HTWO.out _ _ (by have := HXE.out; omega)).mono ?_
        rintro e w7 ⟨A7, c7, rfl, hown7, hb7⟩
        rw [le_len] at hown7 ⊢
        have OW7 := Lib.hid (own_below OW6.out hb7)
        have OP7 := Lib.hid hown7
        have HB7 := Lib.hid (HB6.out.trans (hb7.mono (by omega)))
        have hs7 := hb7.size
        clear hown7 hb7
        go_wp2_with (at_builtin; refine wpList_append_srcG _ rfl (.tmp 34) (.tmp 36) _ rfl (w.heap.size + 1) 5 i0 _ 1 1 Try.underlying76 TI.out TZ0.out TZ1.out TZ2.out rfl (by omega) (.slice A6 ys.length c6) ys.length (bcs ys) rfl OW7.out A7 2 c7 (bcs (le 2 x)) rfl (own_none OP7.out) (Lies.of_own OP7.out) (by simp [le_len]) (bcs_one _) (by unfold maxLen; omega) (by omega) (by omega) _ HYN.out ?_; intro A8 c8 w8 hown8 hgr8 _; have OW8 : Hid (w8.ownsRow (w.heap.size + 1) 5 1 (.slice A8 (hd ++ smpB (l.take (k + 1))).length c8) (hd ++ smpB (l.take (k + 1))).length (bcs (hd ++ smpB (l.take (k + 1))))) := Lib.hid (by have := hown8; rw [← bcs_append, ← HSN.out] at this; exact this); have HB8 := Lib.hid (HB7.out.grown hgr8 (by omega) (fun k hk => (OW7.out.lt k hk).1)); clear hgr8 hown8)
        go_roundw
        case rel => exact ⟨k + 1, by omega, by go_num, A8, c8, by first | rfl | simp, OW8.out, HB8.out⟩
        case measure => simp [intOf]; omega
    · obtain rfl : k = l.length := by omega
      rw [List.take_length] at *
      have q1 := D6.out.cell 1 rfl 1 rfl
      simp only [Nat.zero_add] at q1
      have hys := smB_bd (hd ++ smpB l)
      generalize hd ++ smpB l = ys at *
      go_wp2_with fail
      refine (rSum_any A6 c6 ys _ (Lies.of_own OW6.out) HYB (by omega)).mono ?_
      rintro e w0 ⟨rfl, rfl⟩
      go_wp2_with fail
      refine (rput_any (smB ys) 4 _ (by omega) (by omega) (by omega)).mono ?_
      rintro e w7 ⟨A7, c7, rfl, hown7, hb7⟩
      rw [le_len] at hown7 ⊢
      have OW7 := Lib.hid (own_below OW6.out hb7)
      have OP7 := Lib.hid hown7
      have HB7 := Lib.hid (D6.out.bel.trans (hb7.mono (by have := D6.out.bel.size; omega)))
      have hs7 := hb7.size
      have hsd := D6.out.bel.size
      have HPN : Hid (ys.length + 4 = (packB rate l).length) := Lib.hid (by rw [HPK.out, List.length_append, le_len])
      clear hown7 hb7
      go_wp2_with (at_builtin; refine wpList_append_srcG _ rfl (.tmp 38) (.tmp 41) _ rfl (w.heap.size + 1) 5 i0 _ 1 1 Try.underlying76 TI.out TZ0.out TZ1.out TZ2.out rfl (by omega) (.slice A6 ys.length c6) ys.length (bcs ys) rfl OW7.out A7 4 c7 (bcs (le 4 (smB ys))) rfl (own_none OP7.out) (Lies.of_own OP7.out) (by simp [le_len]) (bcs_one _) (by unfold maxLen; omega) (by omega) (by omega) _ HPN.out ?_; intro A8 c8 w8 hown8 hgr8 _)
      go_ret
      refine ⟨A8, c8, rfl, ?_, HB7.out.grown hgr8 (by omega) (fun k hk => by have := (OW7.out.lt k hk).1; omega)⟩
      have := hown8
      rw [← bcs_append, ← HPK.out] at this
      exact ownsRow_le this (by omega)
end Go.Proofs.Ytnhkngmdjomfjaa
