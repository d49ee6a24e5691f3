/- the reference's Segments -/
import Derived.Test.YtnhkngmdjomfjaaKnown
import Derived.Test.YtnhkngmdjomfjaaSlcI
import Derived.Test.YtnhkngmdjomfjaaMeas2
namespace Go.Proofs.Ytnhkngmdjomfjaa
open Go.RowKit Ear

/-- segments and a bool -/
def SegBool (b : Bool) (out : List (Int × Int)) (w : World) (e : Ending) (w' : World) : Prop :=
  ∃ A c, e = .returned (.tuple #[.slice A out.length c, .bool b]) ∧ w'.ownsRow w.heap.size 57 2 (.slice A out.length c) out.length (scs out) ∧ Below w.heap.size w w'

/-- between two rounds, k blocks having been taken -/
def RSegRel (V : World) (g : Gt) (s : Ls) (B : Nat) (x : List Int) (t8 t9 t10 t11 t12 t13 : Value) (wr : World) : Prop :=
  ∃ k : Nat, k * B ≤ x.length ∧ t13 = .int .i64 k ∧ t9 = .bool (decide ((stp g B s x k).1.state = 1)) ∧ t10 = .int .i64 (stp g B s x k).1.run ∧ t11 = .int .i64 (stp g B s x k).1.begin_ ∧ t12 = .int .i64 (stp g B s x k).1.free ∧
    ∃ O oc, t8 = .slice O (stp g B s x k).2.length oc ∧ wr.ownsRow V.heap.size 57 2 (.slice O (stp g B s x k).2.length oc) (stp g B s x k).2.length (scs (stp g B s x k).2) ∧ Below V.heap.size V wr

theorem RSegRel.next {V : World} {g : Gt} {s : Ls} {B : Nat} {x : List Int} {k : Nat} (hk : (k + 1) * B ≤ x.length) {st' : Ls} {sgs' : List (Int × Int)} (hst : stp g B s x (k + 1) = (st', sgs')) (sp : Bool) (run bg fr : Int) (h1 : decide (st'.state = 1) = sp) (h2 : st'.run = run) (h3 : st'.begin_ = bg) (h4 : st'.free = fr)
    (O : Option Addr) (oc n : Nat) (wr : World) (hn : sgs'.length = n) (h5 : wr.ownsRow V.heap.size 57 2 (.slice O n oc) n (scs sgs')) (h6 : Below V.heap.size V wr) :
    RSegRel V g s B x (.slice O n oc) (.bool sp) (.int .i64 run) (.int .i64 bg) (.int .i64 fr) (.int .i64 ((k : Int) + 1)) wr := by
  subst h1 h2 h3 h4 hn
  exact ⟨k + 1, hk, by go_num, by rw [hst], by rw [hst], by rw [hst], by rw [hst], O, oc, by rw [hst], by rw [hst]; exact h5, h6⟩

theorem div_of_stop {k B n : Nat} (h1 : k * B ≤ n) (h2 : n < (k + 1) * B) : k = n / B :=
  ((Nat.div_eq_of_lt_le h1 h2)).symm

theorem smp_wide {l : List Int} (h : smp l = true) : allR (-65536) 65535 l = true := allR_of fun x hx => by have := allR_mem h hx; omega

set_option maxRecDepth 100000 in
set_option maxHeartbeats 4000000 in
theorem rSegments_any (g : Gt) (B : Nat) (A : Option Addr) (c : Nat) (x : List Int) (cl : Bool) (w : World) (h : Lies w A (ics x)) (hlc : x.length ≤ c) (hv : Hid (smp x = true)) (hl : x.length ≤ 200000) (hg : Hid g.ok) (hB : Hid (g.block = B)) (sp : Bool) (out : List (Int × Int))
    (hsp : Hid (decide ((segSt g B x).1.state = 1) = sp)) (hout : Hid (out = (segSt g B x).2 ++ (if cl = true ∧ (segSt g B x).1.state = 1 then [((segSt g B x).1.begin_ * g.block, (segSt g B x).1.samples)] else []))) :
    Calls Try.prog 32 #[.slice A x.length c, gateV g, .bool cl] w (SegBool sp out w) := by
  obtain ⟨j0, hi0, hz0, hz1, hz2⟩ := info_parts seg_info
  have KI := Lib.hid hi0; have KZ0 := Lib.hid hz0; have KZ1 := Lib.hid hz1; have KZ2 := Lib.hid hz2
  clear hi0 hz0 hz1 hz2
  obtain ⟨g1, g2, g3, g4, g5, g6, g7⟩ := g
  have hB' : g1 = B := hB.out
  subst hB'
  clear hB
  obtain ⟨b1, b2, b3, b4, b5, b6, b7, b8, b9, b10, b11, b12, b13⟩ := hg.out
  simp only at b1 b2 b3 b4 b5 b6 b7 b8 b9 b10 b11 b12 b13
  have HLC := Lib.hid hlc
  clear hlc
  have hi0 : Hid (Ls.Inv ⟨0, 0, (0 : Int) + x.length, 0, 0, 0⟩) := Lib.hid (by simp [Ls.Inv])
  go_enter Try.func32, Try.ntmps32
  go_wp2_with fail
  obtain ⟨V, hV⟩ : ∃ V : World, V = w.alloc (.cells #[.int .i64 B, .int .i64 g2, .int .i64 g3, .int .i64 g4, .int .i64 g5, .int .i64 g6, .int .i64 g7] 41) := ⟨_, rfl⟩
  rw [← hV]
  have RV : Hid (V.heap[w.heap.size]? = some (.cells #[.int .i64 B, .int .i64 g2, .int .i64 g3, .int .i64 g4, .int .i64 g5, .int .i64 g6, .int .i64 g7] 41 (0, 0))) := by rw [hV]; exact heap_alloc_new w _
  have LV : Hid (Lies V A (ics x)) := by rw [hV]; exact h.alloc _
  have BV : Hid (Below w.heap.size w V) := by rw [hV]; exact (Below.refl _ _).alloc (Nat.le_refl _) _
  clear hV h
  go_loopw [8, 9, 10, 11, 12, 13, 14, 15] (fun t8 t9 t10 t11 t12 t13 _ _ wr => RSegRel V ⟨B, g2, g3, g4, g5, g6, g7⟩ ⟨0, 0, (0 : Int) + x.length, 0, 0, 0⟩ B x t8 t9 t10 t11 t12 t13 wr) (fun _ _ _ _ _ t13 _ _ _ => x.length - (intOf t13).toNat)
  case atStart => exact ⟨0, by omega, rfl, rfl, rfl, rfl, rfl, none, 0, rfl, World.ownsRow_nil _ _ _ _, Below.refl _ _⟩
  case round =>
    obtain ⟨k, hk, rfl, rfl, rfl, rfl, rfl, O, oc, rfl, r1, r2⟩ := hrel
    have hsi := stp_inv (B := B) (all := x) hg.out hi0.out k
    have hsl := stp_len ⟨B, g2, g3, g4, g5, g6, g7⟩ B ⟨0, 0, (0 : Int) + x.length, 0, 0, 0⟩ x k
    have HST1 : Hid (stp ⟨B, g2, g3, g4, g5, g6, g7⟩ B ⟨0, 0, (0 : Int) + x.length, 0, 0, 0⟩ x (k + 1) = (((stp ⟨B, g2, g3, g4, g5, g6, g7⟩ B ⟨0, 0, (0 : Int) + x.length, 0, 0, 0⟩ x k).1.step ⟨B, g2, g3, g4, g5, g6, g7⟩ (enr ((x.drop (k * B)).take B))).1, (stp ⟨B, g2, g3, g4, g5, g6, g7⟩ B ⟨0, 0, (0 : Int) + x.length, 0, 0, 0⟩ x k).2 ++ ((stp ⟨B, g2, g3, g4, g5, g6, g7⟩ B ⟨0, 0, (0 : Int) + x.length, 0, 0, 0⟩ x k).1.step ⟨B, g2, g3, g4, g5, g6, g7⟩ (enr ((x.drop (k * B)).take B))).2.toList)) := Lib.hid rfl
    obtain ⟨st, sgs, hstk⟩ : ∃ st sgs, stp ⟨B, g2, g3, g4, g5, g6, g7⟩ B ⟨0, 0, (0 : Int) + x.length, 0, 0, 0⟩ x k = (st, sgs) := ⟨_, _, rfl⟩
    rw [hstk] at hsi hsl r1 HST1 ⊢
    simp only at hsi hsl r1 HST1 ⊢
    have HSTK := Lib.hid hstk
    clear hstk
    obtain ⟨s1, s2, s3, s4, s5, s6⟩ := st
    obtain ⟨⟨i1, i2, i3, i4, i5, i6, i7⟩, i8, i9⟩ := hsi
    simp only at i1 i2 i3 i4 i5 i6 i7 i8 i9 ⊢
    obtain ⟨f, hf⟩ : ∃ f : Nat, k * B = f := ⟨_, rfl⟩
    obtain ⟨t, ht⟩ : ∃ t : Nat, (k + 1) * B = t := ⟨_, rfl⟩
    have htf : t = f + B := by rw [← ht, ← hf, Nat.succ_mul]
    have m1 : (k : Int) * (B : Int) = (f : Int) := by rw [← hf, Int.natCast_mul]
    have m2 : ((k : Int) + 1) * (B : Int) = (t : Int) := by rw [← ht, Int.natCast_mul]; rfl
    have hkf : k ≤ f := by rw [← hf]; exact Nat.le_mul_of_pos_right _ (by omega)
    have hkt : k + 1 ≤ t := by rw [← ht]; exact Nat.le_mul_of_pos_right _ (by omega)
    have hfx : f ≤ x.length := by rw [← hf]; exact hk
    have RW := row_keep RV.out r2
    have q0 := cell_of_row wr _ 0 _ _ _ RW
    have q1 := cell_of_row wr _ 1 _ _ _ RW
    have q2 := cell_of_row wr _ 2 _ _ _ RW
    have q3 := cell_of_row wr _ 3 _ _ _ RW
    have q4 := cell_of_row wr _ 4 _ _ _ RW
    have q5 := cell_of_row wr _ 5 _ _ _ RW
    have q6 := cell_of_row wr _ 6 _ _ _ RW
    simp at q0 q1 q2 q3 q4 q5 q6
    have hzw := row_lt RW
    clear RW
    by_cases hge : t ≤ x.length
    · have hblen : ((x.drop f).take B).length = B := by rw [← hf]; exact smp_len_take (by rw [← ht] at hge; rw [Nat.succ_mul] at hge; exact hge)
      have hbv : Hid (allR (-65536) 65535 ((x.drop f).take B) = true) := Lib.hid (smp_wide (smp_take (smp_drop hv.out _) _))
      have hsl' : Hid (∀ w, (Instr.slice 22 (.slice A x.length c) (some (.int .i64 (f : Int))) (some (.int .i64 (t : Int))) none).run Try.prog w = .ok (.slice (cutA A f c) B (c - f)) w) := Lib.hid fun w => by
        have := run_cut A x.length c f t (by omega) (by have := HLC.out; omega) w
        rw [show t - f = B by omega] at this
        exact this
      have LB : Hid (Lies wr (cutA A f c) (ics ((x.drop f).take B))) := by
        have := (LV.out.below r2).cut (f := f) (t := t) (c := c) (by omega) hge HLC.out
        rw [show t - f = B by omega] at this
        exact this
      have hn := enr_bd (l := (x.drop f).take B) (B := 32768) (fun y hy => by have := allR_mem (smp_take (smp_drop hv.out f) B) hy; omega)
      rw [hblen] at hn
      have HEN : Hid (∀ W' : World, Lies W' (cutA A f c) (ics ((x.drop f).take B)) → Calls Try.prog 58 #[.slice (cutA A f c) B (c - f)] W' (RetInt (enr ((x.drop f).take B)) W')) := Lib.hid fun W' h' => by
        have := rEnergy_any (cutA A f c) (c - f) ((x.drop f).take B) W' h' hbv (by omega)
        rw [hblen] at this
        exact this
      rw [hf] at HST1
      generalize hne : enr ((x.drop f).take B) = n at *
      clear hne hbv
      have hp2 := mul_bd3 (x := g2) (y := (B : Int)) (X := 1073741824) (Y := 4096) (by omega) (by omega) (by omega) (by omega) (by omega)
      have hp3 := mul_bd3 (x := g3) (y := (B : Int)) (X := 1073741824) (Y := 4096) (by omega) (by omega) (by omega) (by omega) (by omega)
      have hbk := mul_bd3 (x := s5) (y := (B : Int)) (X := 200000) (Y := 4096) (by omega) (by omega) (by omega) (by omega) (by omega)
      have d0 : decide ((t : Int) ≤ (x.length : Int)) = true := by simp; omega
      have d0' : decide (t ≤ x.length) = true := by simp; omega
      have hkx : k + 1 ≤ 200000 := by omega
      have hkm : x.length - (k + 1) < x.length - k := by omega
      have HX := Lib.hid (And.intro hge (And.intro hfx (And.intro htf (And.intro hkf hkt))))
      have htb : t ≤ 200000 := by omega
      have hfb : f ≤ 200000 := by omega
      have hs2k : s2 = (k : Int) := by omega
      subst hs2k
      clear hge hfx htf hkf hkt hk i8 i9
      have hsl := hsl'.out
      go_wp2_with fail
      clear hsl
      refine (HEN.out _ LB.out).mono ?_
      rintro e wx ⟨rfl, m, hwx⟩
      have BX : Hid (Below V.heap.size V wx) := by rw [hwx]; exact ⟨r2.os, r2.tape, r2.output, r2.size, r2.block⟩
      have r1x : wx.ownsRow V.heap.size 57 2 (.slice O sgs.length oc) sgs.length (scs sgs) := by rw [hwx]; exact r1
      have RW := row_keep RV.out BX.out
      clear q0 q1 q2 q3 q4 q5 q6 r1 r2 LB hwx
      have q0 := cell_of_row wx _ 0 _ _ _ RW
      have q1 := cell_of_row wx _ 1 _ _ _ RW
      have q2 := cell_of_row wx _ 2 _ _ _ RW
      have q3 := cell_of_row wx _ 3 _ _ _ RW
      have q4 := cell_of_row wx _ 4 _ _ _ RW
      have q5 := cell_of_row wx _ 5 _ _ _ RW
      have q6 := cell_of_row wx _ 6 _ _ _ RW
      simp at q0 q1 q2 q3 q4 q5 q6
      have hzx := row_lt RW
      clear RW hzw m1 m2 d0 d0' HEN hsl'
      have hbs := BX.out.size
      have htx : (k + 1) * B ≤ x.length := by rw [ht]; exact HX.out.1
      have HTX := Lib.hid htx
      clear htx ht hf
      rcases i1 with rfl | rfl
      · rw [show decide ((0 : Int) = 1) = false from rfl]
        by_cases ld : g2 * (B : Int) ≤ n
        · have e1 : decide (n < g2 * (B : Int)) = false := by simp; omega
          by_cases hr : s4 + 1 = g4
          · have HS : Hid (stp ⟨B, g2, g3, g4, g5, g6, g7⟩ B ⟨0, 0, (0 : Int) + x.length, 0, 0, 0⟩ x (k + 1) = (⟨1, (k : Int) + 1, s3, 0, max ((k : Int) - g4 + 1 - g6) s6, s6⟩, sgs)) := by
              show _ = _
              rw [HST1.out, Ls.step_wait_yes (R := s4 + 1) (ld := true) rfl (by simp; exact ld) (by simp) hr]; simp
            have e2 : (s4 + 1 == g4) = true := by simp [hr]
            have HR := Lib.hid hr
            clear hr HST1
            go_wp2_with fail
            go_roundw
            case rel => exact RSegRel.next HTX.out HS.out true 0 _ s6 (by simp) rfl (by simp only; split <;> omega) rfl O oc _ wx rfl r1x BX.out
            case measure => simp [intOf]; omega
          · have HS : Hid (stp ⟨B, g2, g3, g4, g5, g6, g7⟩ B ⟨0, 0, (0 : Int) + x.length, 0, 0, 0⟩ x (k + 1) = (⟨0, (k : Int) + 1, s3, s4 + 1, s5, s6⟩, sgs)) := by
              show _ = _
              rw [HST1.out, Ls.step_wait_no (R := s4 + 1) (ld := true) rfl (by simp; exact ld) (by simp) hr]; simp
            have e2 : (s4 + 1 == g4) = false := by simp [hr]
            have HR := Lib.hid hr
            clear hr HST1
            go_wp2_with fail
            go_roundw
            case rel => exact RSegRel.next HTX.out HS.out false _ _ _ (by simp) rfl rfl rfl O oc _ wx rfl r1x BX.out
            case measure => simp [intOf]; omega
        · have HS : Hid (stp ⟨B, g2, g3, g4, g5, g6, g7⟩ B ⟨0, 0, (0 : Int) + x.length, 0, 0, 0⟩ x (k + 1) = (⟨0, (k : Int) + 1, s3, 0, s5, s6⟩, sgs)) := by
            show _ = _
            rw [HST1.out, Ls.step_wait_no (R := 0) (ld := false) rfl (by simp; omega) (by simp) (by simp only; omega)]; simp
          have e1 : decide (n < g2 * (B : Int)) = true := by simp; omega
          have e2 : ((0 : Int) == g4) = false := by simp; omega
          clear HST1
          go_wp2_with fail
          go_roundw
          case rel => exact RSegRel.next HTX.out HS.out false _ _ _ (by simp) rfl rfl rfl O oc _ wx rfl r1x BX.out
          case measure => simp [intOf]; omega
      · rw [show decide ((1 : Int) = 1) = true from rfl]
        by_cases qt : n < g3 * (B : Int)
        · have e1 : decide (g3 * (B : Int) ≤ n) = false := by simp; omega
          by_cases hr : s4 + 1 = g5
          · have HS : Hid (stp ⟨B, g2, g3, g4, g5, g6, g7⟩ B ⟨0, 0, (0 : Int) + x.length, 0, 0, 0⟩ x (k + 1) = (⟨0, (k : Int) + 1, s3, 0, s5, (k : Int) - g5 + 1⟩, sgs ++ [(s5 * (B : Int), ((k : Int) - g5 + 1) * (B : Int))])) := by
              show _ = _
              rw [HST1.out, Ls.step_speech_fall (R := s4 + 1) (qt := true) (by simp) (by simp; exact qt) (by simp) hr]; simp
            have e2 : (s4 + 1 == g5) = true := by simp [hr]
            have e3 : decide ((0 : Int) ≤ (k : Int) - g5 + 1) = true := by simp; omega
            have e4 : (0 : Int) ≤ (k : Int) - g5 + 1 := by omega
            have hpe := mul_bd3 (x := (k : Int) - g5 + 1) (y := (B : Int)) (X := 200000) (Y := 4096) (by omega) (by omega) (by omega) (by omega) (by omega)
            clear HST1 hr
            go_wp2_with (at_builtin; refine wpList_append_own_at _ rfl (.tmp 92) (.tmp 102) _ rfl V.heap.size 57 j0 _ 2 16 Try.underlying42 KI.out KZ0.out KZ1.out KZ2.out rfl (by omega) (.slice O sgs.length oc) sgs.length (scs sgs) rfl (r1x.alloc _) ⟨wx.heap.size, 0, none⟩ 1 1 [.int .i64 (s5 * (B : Int)), .int .i64 (((k : Int) - g5 + 1) * (B : Int))] rfl rfl (World.news_of_block (cs := #[.int .i64 (s5 * (B : Int)), .int .i64 (((k : Int) - g5 + 1) * (B : Int))]) (t := 57) (fr := (0, 0)) (heap_alloc_new wx _)) (by simp [Value.oneCell']) (by unfold maxLen; omega) (by omega) (by simp; omega) ?_; intro v' w5 hown5 hgr5 _ hat5)
            obtain ⟨O', oc', rfl⟩ := own_slice hown5
            exact ⟨RSegRel.next HTX.out HS.out false 0 s5 ((k : Int) - g5 + 1) (by simp) rfl rfl rfl O' oc' _ w5 (by simp) (by rw [scs_append]; exact hown5) ((BX.out.alloc BX.out.size _).grown hgr5 (by simp; omega) (fun j hj => (r1x.lt j hj).1)), by simp [intOf]; omega⟩
          · have e2 : (s4 + 1 == g5) = false := by simp [hr]
            by_cases hg7 : (k : Int) - s5 + 1 = g7
            · have HS : Hid (stp ⟨B, g2, g3, g4, g5, g6, g7⟩ B ⟨0, 0, (0 : Int) + x.length, 0, 0, 0⟩ x (k + 1) = (⟨0, (k : Int) + 1, s3, 0, s5, (k : Int) + 1⟩, sgs ++ [(s5 * (B : Int), ((k : Int) + 1) * (B : Int))])) := by
                show _ = _
                rw [HST1.out, Ls.step_speech_long (R := s4 + 1) (qt := true) (by simp) (by simp; exact qt) (by simp) hr hg7]; simp
              have e3 : ((k : Int) + 1 - s5 == g7) = true := by simp; omega
              have hpe := mul_bd3 (x := (k : Int) + 1) (y := (B : Int)) (X := 200000) (Y := 4096) (by omega) (by omega) (by omega) (by omega) (by omega)
              clear HST1 hr hg7
              go_wp2_with (at_builtin; refine wpList_append_own_at _ rfl (.tmp 92) (.tmp 102) _ rfl V.heap.size 57 j0 _ 2 16 Try.underlying42 KI.out KZ0.out KZ1.out KZ2.out rfl (by omega) (.slice O sgs.length oc) sgs.length (scs sgs) rfl (r1x.alloc _) ⟨wx.heap.size, 0, none⟩ 1 1 [.int .i64 (s5 * (B : Int)), .int .i64 (((k : Int) + 1) * (B : Int))] rfl rfl (World.news_of_block (cs := #[.int .i64 (s5 * (B : Int)), .int .i64 (((k : Int) + 1) * (B : Int))]) (t := 57) (fr := (0, 0)) (heap_alloc_new wx _)) (by simp [Value.oneCell']) (by unfold maxLen; omega) (by omega) (by simp; omega) ?_; intro v' w5 hown5 hgr5 _ hat5)
              obtain ⟨O', oc', rfl⟩ := own_slice hown5
              exact ⟨RSegRel.next HTX.out HS.out false 0 s5 ((k : Int) + 1) (by simp) rfl rfl rfl O' oc' _ w5 (by simp) (by rw [scs_append]; exact hown5) ((BX.out.alloc BX.out.size _).grown hgr5 (by simp; omega) (fun j hj => (r1x.lt j hj).1)), by simp [intOf]; omega⟩
            · have HS : Hid (stp ⟨B, g2, g3, g4, g5, g6, g7⟩ B ⟨0, 0, (0 : Int) + x.length, 0, 0, 0⟩ x (k + 1) = (⟨1, (k : Int) + 1, s3, s4 + 1, s5, s6⟩, sgs)) := by
                show _ = _
                rw [HST1.out, Ls.step_speech_on (R := s4 + 1) (qt := true) (by simp) (by simp; exact qt) (by simp) hr hg7]; simp
              have e3 : ((k : Int) + 1 - s5 == g7) = false := by simp; omega
              clear HST1 hr hg7
              go_wp2_with fail
              go_roundw
              case rel => exact RSegRel.next HTX.out HS.out true _ _ _ (by simp) rfl rfl rfl O oc _ wx rfl r1x BX.out
              case measure => simp [intOf]; omega
        · have e1 : decide (g3 * (B : Int) ≤ n) = true := by simp; omega
          have hr : ¬ (0 : Int) = g5 := by omega
          have e2 : ((0 : Int) == g5) = false := by simp; omega
          by_cases hg7 : (k : Int) - s5 + 1 = g7
          · have HS : Hid (stp ⟨B, g2, g3, g4, g5, g6, g7⟩ B ⟨0, 0, (0 : Int) + x.length, 0, 0, 0⟩ x (k + 1) = (⟨0, (k : Int) + 1, s3, 0, s5, (k : Int) + 1⟩, sgs ++ [(s5 * (B : Int), ((k : Int) + 1) * (B : Int))])) := by
              show _ = _
              rw [HST1.out, Ls.step_speech_long (R := 0) (qt := false) (by simp) (by simp; omega) (by simp) hr hg7]; simp
            have e3 : ((k : Int) + 1 - s5 == g7) = true := by simp; omega
            have hpe := mul_bd3 (x := (k : Int) + 1) (y := (B : Int)) (X := 200000) (Y := 4096) (by omega) (by omega) (by omega) (by omega) (by omega)
            clear HST1 hr hg7
            go_wp2_with (at_builtin; refine wpList_append_own_at _ rfl (.tmp 92) (.tmp 102) _ rfl V.heap.size 57 j0 _ 2 16 Try.underlying42 KI.out KZ0.out KZ1.out KZ2.out rfl (by omega) (.slice O sgs.length oc) sgs.length (scs sgs) rfl (r1x.alloc _) ⟨wx.heap.size, 0, none⟩ 1 1 [.int .i64 (s5 * (B : Int)), .int .i64 (((k : Int) + 1) * (B : Int))] rfl rfl (World.news_of_block (cs := #[.int .i64 (s5 * (B : Int)), .int .i64 (((k : Int) + 1) * (B : Int))]) (t := 57) (fr := (0, 0)) (heap_alloc_new wx _)) (by simp [Value.oneCell']) (by unfold maxLen; omega) (by omega) (by simp; omega) ?_; intro v' w5 hown5 hgr5 _ hat5)
            obtain ⟨O', oc', rfl⟩ := own_slice hown5
            exact ⟨RSegRel.next HTX.out HS.out false 0 s5 ((k : Int) + 1) (by simp) rfl rfl rfl O' oc' _ w5 (by simp) (by rw [scs_append]; exact hown5) ((BX.out.alloc BX.out.size _).grown hgr5 (by simp; omega) (fun j hj => (r1x.lt j hj).1)), by simp [intOf]; omega⟩
          · have HS : Hid (stp ⟨B, g2, g3, g4, g5, g6, g7⟩ B ⟨0, 0, (0 : Int) + x.length, 0, 0, 0⟩ x (k + 1) = (⟨1, (k : Int) + 1, s3, 0, s5, s6⟩, sgs)) := by
              show _ = _
              rw [HST1.out, Ls.step_speech_on (R := 0) (qt := false) (by simp) (by simp; omega) (by simp) hr hg7]; simp
            have e3 : ((k : Int) + 1 - s5 == g7) = false := by simp; omega
            clear HST1 hr hg7
            go_wp2_with fail
            go_roundw
            case rel => exact RSegRel.next HTX.out HS.out true _ _ _ (by simp) rfl rfl rfl O oc _ wx rfl r1x BX.out
            case measure => simp [intOf]; omega
    · have hkk : x.length / B = k := by
        refine Nat.div_eq_of_lt_le (by omega) ?_
        rw [ht]; omega
      have hss : segSt ⟨B, g2, g3, g4, g5, g6, g7⟩ B x = (⟨s1, s2, s3, s4, s5, s6⟩, sgs) := by unfold segSt; rw [hkk]; exact HSTK.out
      have hsp' := hsp.out
      have hout' := hout.out
      rw [hss] at hsp' hout'
      simp only at hsp' hout'
      subst hsp' hout'
      have hbk := mul_bd3 (x := s5) (y := (B : Int)) (X := 200000) (Y := 4096) (by omega) (by omega) (by omega) (by omega) (by omega)
      have d0 : decide ((t : Int) ≤ (x.length : Int)) = false := by simp; omega
      have d0' : decide (t ≤ x.length) = false := by simp; omega
      have htb : t ≤ 1000000 := by omega
      have hkb : k ≤ 200000 := by omega
      have hs3 : s3 = (x.length : Int) := by omega
      have HX := Lib.hid (And.intro hge (And.intro htf hs3))
      have hbs := r2.size
      have hsg : sgs.length ≤ 200000 := by omega
      have HS3 := Lib.hid hs3
      have BW := Lib.hid (bel_trans BV.out r2)
      have hvw := BV.out.size
      clear hge hkk hss hkf hkt hfx htf hf ht hsp hout HST1 HSTK i8 i9 hs3
      cases cl with
      | false =>
        rw [if_neg (by simp)]
        rcases i1 with rfl | rfl
        all_goals
          go_wp2_with fail
          go_ret2
          exact ⟨O, oc, rfl, ownsRow_le r1 hvw, BW.out⟩
      | true =>
        rcases i1 with rfl | rfl
        · rw [if_neg (by simp)]
          go_wp2_with fail
          go_ret2
          exact ⟨O, oc, rfl, ownsRow_le r1 hvw, BW.out⟩
        · rw [if_pos ⟨rfl, rfl⟩]
          go_wp2_with (at_builtin; refine wpList_append_own_at _ rfl (.tmp 109) (.tmp 117) _ rfl V.heap.size 57 j0 _ 2 16 Try.underlying42 KI.out KZ0.out KZ1.out KZ2.out rfl (by omega) (.slice O sgs.length oc) sgs.length (scs sgs) rfl (r1.alloc _) ⟨wr.heap.size, 0, none⟩ 1 1 [.int .i64 (s5 * (B : Int)), .int .i64 (x.length : Int)] rfl rfl (World.news_of_block (cs := #[.int .i64 (s5 * (B : Int)), .int .i64 (x.length : Int)]) (t := 57) (fr := (0, 0)) (heap_alloc_new wr _)) (by simp [Value.oneCell']) (by unfold maxLen; omega) (by omega) (by simp; omega) ?_; intro v' w5 hown5 hgr5 _ hat5)
          obtain ⟨O', oc', rfl⟩ := own_slice hown5
          go_ret2
          refine ⟨O', oc', by simp only [List.length_append, List.length_cons, List.length_nil, Nat.zero_add]; rfl, ?_, ?_⟩
          · rw [scs_append, List.length_append, HS3.out]
            exact ownsRow_le hown5 hvw
          · exact (BW.out.alloc BW.out.size _).grown hgr5 (by simp; exact Nat.le_succ_of_le BW.out.size) (fun j hj => Nat.le_trans hvw (r1.lt j hj).1)
end Go.Proofs.Ytnhkngmdjomfjaa
