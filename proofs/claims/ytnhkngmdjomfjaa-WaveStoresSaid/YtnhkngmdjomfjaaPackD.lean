/- wave.Pack -/
import Derived.Test.YtnhkngmdjomfjaaPackC
import Derived.Test.YtnhkngmdjomfjaaBits
import Derived.Lib.SlBytesConst
namespace Go.Proofs.Ytnhkngmdjomfjaa
open Go.RowKit Ear

/-- bytes and an error -/
def BytesErr (err : Int) (out : List Int) (w : World) (e : Ending) (w' : World) : Prop :=
  ∃ A c, e = .returned (.tuple #[.slice A out.length c, .int .i64 err]) ∧ w'.ownsRow w.heap.size 5 1 (.slice A out.length c) out.length (bcs out) ∧ Below w.heap.size w w'

set_option maxRecDepth 100000 in
set_option maxHeartbeats 1000000 in
theorem Pack_no (rate : Int) (A : Option Addr) (c : Nat) (l : List Int) (w : World) (h : Lies w A (ics l)) (hn : l.length ≤ 9223372036854775807) (r : Int) (hr : Hid (chk rate l = r)) (hne : Hid ((r != 0) = true)) :
    Calls Try.prog 47 #[recV rate A l.length c] w (BytesErr r [] w) := by
  have HL := Lib.hid (h.alloc (w := w) (.cells #[.int .i64 rate, .slice A l.length c] 24))
  have hne' := hne.out
  go_enter Try.func47, Try.ntmps47
  go_wp2_with fail
  refine (check_any rate A c l _ HL.out hn r hr).mono ?_
  rintro e w1 ⟨rfl, hb⟩
  have B1 := Lib.hid (bel_trans (bel_alloc (Below.refl _ w) _) hb)
  go_wp2_with fail
  go_ret2
  exact ⟨none, 0, rfl, World.ownsRow_nil _ _ _ _, B1.out⟩

def PackRel (W : World) (b base : Nat) (hd : List Int) (l : List Int) (t31 : Value) (wr : World) : Prop :=
  ∃ k : Nat, k ≤ l.length ∧ t31 = .int .i64 k ∧ VarB wr b base (hd ++ smpB (l.take k)) ∧ Below base W wr

set_option maxRecDepth 100000 in
set_option maxHeartbeats 2000000 in
theorem Pack_ok (rate : Int) (A : Option Addr) (c : Nat) (l : List Int) (w : World) (h : Lies w A (ics l)) (hc : Hid (chk rate l = 0)) :
    Calls Try.prog 47 #[recV rate A l.length c] w (BytesErr 0 (packB rate l) w) := by
  obtain ⟨hl, r1, r2, hs⟩ := chk_ok.1 hc.out
  have HS := Lib.hid hs
  have D0 := Lib.hid (((Led.nil w).add h).alloc (.cells #[.int .i64 rate, .slice A l.length c] 24) |>.row (heap_alloc_new w _))
  clear h hs
  have kc := fun (w : World) (C : Array Value) (n c : Nat) => Lib.run_convert_bytes_const (P := Try.prog) w 76 5 C n c Try.underlying76 Try.underlying5
  go_enter Try.func47, Try.ntmps47
  go_wp2_with fail
  refine (check_any rate A c l _ (D0.out.lies 0 _ _ rfl) (by omega) 0 hc).mono ?_
  rintro e w1 ⟨rfl, hb⟩
  have D1 := Lib.hid (D0.out.below hb)
  have hz := hb.size
  simp only [World.size_alloc] at hz
  clear hb D0
  have q0 := D1.out.cell 1 rfl 0 rfl
  have q1 := D1.out.cell 1 rfl 1 rfl
  simp only [Nat.add_zero, Nat.zero_add] at q0 q1
  have p0 := Lib.cell?_alloc_marked (Obj.cells #[Value.slice (some { block := w1.heap.size, off := 0 }) 4 4] 76) (Lib.cell?_alloc_marked (Obj.cells #[Value.int IntKind.u8 69, Value.int IntKind.u8 65, Value.int IntKind.u8 82, Value.int IntKind.u8 49] 5 (4, 5)) q0)
  have p1 := Lib.cell?_alloc_marked (Obj.cells #[Value.slice (some { block := w1.heap.size, off := 0 }) 4 4] 76) (Lib.cell?_alloc_marked (Obj.cells #[Value.int IntKind.u8 69, Value.int IntKind.u8 65, Value.int IntKind.u8 82, Value.int IntKind.u8 49] 5 (4, 5)) q1)
  go_wp2_with fail
  have HV : Hid (VarB ((w1.alloc (Obj.cells #[Value.int IntKind.u8 69, Value.int IntKind.u8 65, Value.int IntKind.u8 82, Value.int IntKind.u8 49] 5 (4, 5))).alloc (Obj.cells #[Value.slice (some { block := w1.heap.size, off := 0 }) 4 4] 76)) (w1.heap.size + 1) w1.heap.size [69, 65, 82, 49]) :=
    Lib.hid ⟨some ⟨w1.heap.size, 0, none⟩, 4, heap_two _ _ _, .inr ⟨rfl, rfl, w1.heap.size, _, _, rfl, Nat.le_refl _, (Below.heap_alloc _ _ _ (by simp)).trans (heap_alloc_new w1 _), fun j u hu => by simpa using hu⟩⟩
  refine (Pack1_any rate 4 _ w1.heap.size [69, 65, 82, 49] _ (by omega) (by omega) (by omega) HV.out (by omega) (by simp)).mono ?_
  rintro e w2 ⟨rfl, hv2, hb2⟩
  have HB2 := Lib.hid ((((Below.refl w1.heap.size w1).alloc (Nat.le_refl _) (Obj.cells #[Value.int IntKind.u8 69, Value.int IntKind.u8 65, Value.int IntKind.u8 82, Value.int IntKind.u8 49] 5 (4, 5))).alloc (by simp) (Obj.cells #[Value.slice (some { block := w1.heap.size, off := 0 }) 4 4] 76)).trans hb2)
  have D2 := Lib.hid (D1.out.below HB2.out)
  have HV2 := Lib.hid hv2.b
  have hs2 := HB2.out.size
  clear HV hv2 hb2 q0 q1 p0 p1 kc
  have q0 := D2.out.cell 1 rfl 0 rfl
  have q1 := D2.out.cell 1 rfl 1 rfl
  simp only [Nat.add_zero, Nat.zero_add] at q0 q1
  go_wp2_with fail
  refine (Pack1_any l.length 4 _ w1.heap.size ([69, 65, 82, 49] ++ le 4 rate) _ (by omega) (by omega) (by omega) HV2.out (by omega) (by simp [le_len])).mono ?_
  rintro e w3 ⟨rfl, hv3, hb3⟩
  have HB3 := Lib.hid (HB2.out.trans hb3)
  have D3 := Lib.hid (D1.out.below HB3.out)
  have HV3 : Hid (VarB w3 (w1.heap.size + 1) w1.heap.size (headB rate l.length)) := Lib.hid hv3.b
  have hs3 := HB3.out.size
  clear HV2 hv3 hb3 q0 q1 HB2 D2
  have q0 := D3.out.cell 1 rfl 0 rfl
  have q1 := D3.out.cell 1 rfl 1 rfl
  simp only [Nat.add_zero, Nat.zero_add] at q0 q1
  go_wp2_with fail
  go_loopw [31] (fun t31 wr => PackRel w3 (w1.heap.size + 1) w1.heap.size (headB rate l.length) l t31 wr) (fun t31 _ => l.length - (intOf t31).toNat)
  case atStart => exact ⟨0, Nat.zero_le _, rfl, by simpa [smpB] using HV3.out, Below.refl _ _⟩
  case round =>
    obtain ⟨k, hk, rfl, hv, hbel⟩ := hrel
    have D4 := Lib.hid (D1.out.below (HB3.out.trans hbel))
    have HV4 := Lib.hid hv
    have HB4 := Lib.hid hbel
    have hs4 := hbel.size
    clear hv hbel q0 q1 HV3
    by_cases hlt : k < l.length
    · obtain ⟨b, off, rfl, hb, hc⟩ := (D4.out.lies 0 _ _ rfl).at_ hlt
      have hx := allR_get HS.out hlt
      go_wp2_with fail
      rw [and_u32_16]
      have hlen : (headB rate l.length ++ smpB (l.take k)).length ≤ 400012 := by rw [List.length_append, headB_len, smpB_len, List.length_take]; omega
      refine (Pack1_any (l[k] % 65536) 2 _ w1.heap.size _ _ (by omega) (by omega) (by omega) HV4.out (by omega) (by omega)).mono ?_
      rintro e w5 ⟨rfl, hv5, hb5⟩
      have HV5 : Hid (VarB w5 (w1.heap.size + 1) w1.heap.size (headB rate l.length ++ smpB (l.take (k + 1)))) := Lib.hid (by
        rw [List.take_succ_eq_append_getElem hlt, smpB_snoc, ← List.append_assoc]; exact hv5.b)
      have HB5 := Lib.hid (HB4.out.trans hb5)
      clear hv5 hb5
      go_wp2_with fail
      go_roundw
      case rel => exact ⟨k + 1, by omega, by go_num, HV5.out, HB5.out⟩
      case measure => simp [intOf]; omega
    · obtain rfl : k = l.length := by omega
      rw [List.take_length] at HV4
      have hlen : (headB rate l.length ++ smpB l).length = 12 + 2 * l.length := by rw [List.length_append, headB_len, smpB_len]
      have hys := smB_bd (headB rate l.length ++ smpB l)
      have HYS : Hid (bodyB rate l = headB rate l.length ++ smpB l) := Lib.hid rfl
      have HYB : Hid (isB (headB rate l.length ++ smpB l)) := Lib.hid (fun x hx => bodyB_mem (rate := rate) (l := l) hx)
      generalize headB rate l.length ++ smpB l = ys at *
      have HLN := Lib.hid hlen
      have hlen2 : ys.length ≤ 400012 := by omega
      clear hlen
      obtain ⟨A4, c4, hvar, hown⟩ := HV4.out
      have HOWN := Lib.hid hown
      have HVAR := Lib.hid hvar
      have qv := cell_of_row wr _ 0 _ _ _ hvar
      simp at qv
      clear hvar hown
      go_wp2_with fail
      refine (sum_any A4 c4 ys _ HOWN.out.lies HYB (by omega)).mono ?_
      rintro e w0 ⟨rfl, rfl⟩
      go_wp2_with fail
      refine (Pack1_any (smB ys) 4 _ w1.heap.size ys _ (by omega) (by omega) (by omega) HV4.out (by omega) (by omega)).mono ?_
      rintro e w5 ⟨rfl, ⟨A5, c5, hvar5, hown5⟩, hb5⟩
      have HB5 := Lib.hid (HB3.out.trans (HB4.out.trans hb5))
      have HOWN5 := Lib.hid hown5
      have HP : Hid (packB rate l = ys ++ le 4 (smB ys)) := Lib.hid (by unfold packB; rw [HYS.out])
      generalize hzs : ys ++ le 4 (smB ys) = zs at *
      have qv5 := cell_of_row w5 _ 0 _ _ _ hvar5
      simp at qv5
      clear hvar5 hown5 hb5
      go_wp2_with fail
      go_ret2
      rw [HP.out]
      refine ⟨A5, c5, rfl, ?_, bel_trans D1.out.bel HB5.out⟩
      exact ownsRow_le HOWN5.out (by omega)
end Go.Proofs.Ytnhkngmdjomfjaa
