/- FeatureLinear: the walk -/
import Derived.Test.YtfapmghhmkekaaaDoorLLinA
namespace Go.Proofs.YtfapmghhmkekaaaDoor
open Go.RowKit Ear
set_option linter.unusedVariables false
set_option maxRecDepth 100000 in
set_option maxHeartbeats 4000000 in
theorem FeatureLinear_o0 (A B : Option Addr) (c d : Nat) (x y : List Int) (m : Int) (w : World) (hA : Lies w A (ics x)) (hB : Lies w B (ics y)) (hn : x.length ≤ 9223372036854775807) (hm : y.length ≤ 9223372036854775807) (hC : CosOk w) (hk : Kn) (hs : Hid (spn x = false)) :
    Calls Tryd.prog 4 #[.slice A x.length c, .slice B y.length d, .int .i64 m] w (RetB true w) := by
  go_enter Tryd.func4, Tryd.ntmps4
  go_wp2_with fail
  refine (spans_any A c x w hA hn false hs).mono ?_
  rintro e w' ⟨rfl, rfl⟩
  go_wp2_with fail
  refine (hk _ hC).mono ?_
  rintro e w99 ⟨rfl, hb⟩
  go_wp2_with fail
  go_ret
  exact ⟨rfl, hb⟩
set_option maxRecDepth 100000 in
set_option maxHeartbeats 4000000 in
theorem FeatureLinear_o1 (A B : Option Addr) (c d : Nat) (x y : List Int) (m : Int) (w : World) (hA : Lies w A (ics x)) (hB : Lies w B (ics y)) (hn : x.length ≤ 9223372036854775807) (hm : y.length ≤ 9223372036854775807) (hC : CosOk w) (hk : Kn) (hs : Hid (spn x = true)) (hl : x.length ≠ y.length) :
    Calls Tryd.prog 4 #[.slice A x.length c, .slice B y.length d, .int .i64 m] w (RetB true w) := by
  have q1 : ((x.length : Int) != (y.length : Int)) = true := by simp; omega
  go_enter Tryd.func4, Tryd.ntmps4
  go_wp2_with fail
  refine (spans_any A c x w hA hn true hs).mono ?_
  rintro e w' ⟨rfl, rfl⟩
  go_wp2_with fail
  refine (hk _ hC).mono ?_
  rintro e w99 ⟨rfl, hb⟩
  go_wp2_with fail
  go_ret
  exact ⟨rfl, hb⟩
set_option maxRecDepth 100000 in
set_option maxHeartbeats 4000000 in
theorem FeatureLinear_o2 (A B : Option Addr) (c d : Nat) (x y : List Int) (m : Int) (w : World) (hA : Lies w A (ics x)) (hB : Lies w B (ics y)) (hn : x.length ≤ 9223372036854775807) (hm : y.length ≤ 9223372036854775807) (hC : CosOk w) (hk : Kn) (hs : Hid (spn x = true)) (hl : Hid (x.length = y.length)) (hx : Hid (allR (-30000) 30000 x = false)) :
    Calls Tryd.prog 4 #[.slice A x.length c, .slice B y.length d, .int .i64 m] w (RetB true w) := by
  have q1 : ((x.length : Int) != (y.length : Int)) = false := by have := hl.out; simp; omega
  go_enter Tryd.func4, Tryd.ntmps4
  go_wp2_with fail
  refine (spans_any A c x w hA hn true hs).mono ?_
  rintro e w' ⟨rfl, rfl⟩
  go_wp2_with fail
  refine (All_any A c x (-30000) 30000 w hA hn false hx).mono ?_
  rintro e w' ⟨rfl, rfl⟩
  go_wp2_with fail
  refine (hk _ hC).mono ?_
  rintro e w99 ⟨rfl, hb⟩
  go_wp2_with fail
  go_ret
  exact ⟨rfl, hb⟩
set_option maxRecDepth 100000 in
set_option maxHeartbeats 4000000 in
theorem FeatureLinear_o3 (A B : Option Addr) (c d : Nat) (x y : List Int) (m : Int) (w : World) (hA : Lies w A (ics x)) (hB : Lies w B (ics y)) (hn : x.length ≤ 9223372036854775807) (hm : y.length ≤ 9223372036854775807) (hC : CosOk w) (hk : Kn) (hs : Hid (spn x = true)) (hl : Hid (x.length = y.length)) (hx : Hid (allR (-30000) 30000 x = true)) (hy : Hid (allR (-30000) 30000 y = false)) :
    Calls Tryd.prog 4 #[.slice A x.length c, .slice B y.length d, .int .i64 m] w (RetB true w) := by
  have q1 : ((x.length : Int) != (y.length : Int)) = false := by have := hl.out; simp; omega
  go_enter Tryd.func4, Tryd.ntmps4
  go_wp2_with fail
  refine (spans_any A c x w hA hn true hs).mono ?_
  rintro e w' ⟨rfl, rfl⟩
  go_wp2_with fail
  refine (All_any A c x (-30000) 30000 w hA hn true hx).mono ?_
  rintro e w' ⟨rfl, rfl⟩
  go_wp2_with fail
  refine (All_any B d y (-30000) 30000 w hB hm false hy).mono ?_
  rintro e w' ⟨rfl, rfl⟩
  go_wp2_with fail
  refine (hk _ hC).mono ?_
  rintro e w99 ⟨rfl, hb⟩
  go_wp2_with fail
  go_ret
  exact ⟨rfl, hb⟩
set_option maxRecDepth 100000 in
set_option maxHeartbeats 4000000 in
theorem FeatureLinear_o4 (A B : Option Addr) (c d : Nat) (x y : List Int) (m : Int) (w : World) (hA : Lies w A (ics x)) (hB : Lies w B (ics y)) (hn : x.length ≤ 9223372036854775807) (hm : y.length ≤ 9223372036854775807) (hC : CosOk w) (hk : Kn) (hs : Hid (spn x = true)) (hl : Hid (x.length = y.length)) (hx : Hid (allR (-30000) 30000 x = true)) (hy : Hid (allR (-30000) 30000 y = true)) (h1 : m < -2) :
    Calls Tryd.prog 4 #[.slice A x.length c, .slice B y.length d, .int .i64 m] w (RetB true w) := by
  have q1 : ((x.length : Int) != (y.length : Int)) = false := by have := hl.out; simp; omega
  go_enter Tryd.func4, Tryd.ntmps4
  go_wp2_with fail
  refine (spans_any A c x w hA hn true hs).mono ?_
  rintro e w' ⟨rfl, rfl⟩
  go_wp2_with fail
  refine (All_any A c x (-30000) 30000 w hA hn true hx).mono ?_
  rintro e w' ⟨rfl, rfl⟩
  go_wp2_with fail
  refine (All_any B d y (-30000) 30000 w hB hm true hy).mono ?_
  rintro e w' ⟨rfl, rfl⟩
  go_wp2_with fail
  refine (hk _ hC).mono ?_
  rintro e w99 ⟨rfl, hb⟩
  go_wp2_with fail
  go_ret
  exact ⟨rfl, hb⟩
set_option maxRecDepth 100000 in
set_option maxHeartbeats 4000000 in
theorem FeatureLinear_o5 (A B : Option Addr) (c d : Nat) (x y : List Int) (m : Int) (w : World) (hA : Lies w A (ics x)) (hB : Lies w B (ics y)) (hn : x.length ≤ 9223372036854775807) (hm : y.length ≤ 9223372036854775807) (hC : CosOk w) (hk : Kn) (hs : Hid (spn x = true)) (hl : Hid (x.length = y.length)) (hx : Hid (allR (-30000) 30000 x = true)) (hy : Hid (allR (-30000) 30000 y = true)) (h1 : 2 < m) :
    Calls Tryd.prog 4 #[.slice A x.length c, .slice B y.length d, .int .i64 m] w (RetB true w) := by
  have q1 : ((x.length : Int) != (y.length : Int)) = false := by have := hl.out; simp; omega
  go_enter Tryd.func4, Tryd.ntmps4
  go_wp2_with fail
  refine (spans_any A c x w hA hn true hs).mono ?_
  rintro e w' ⟨rfl, rfl⟩
  go_wp2_with fail
  refine (All_any A c x (-30000) 30000 w hA hn true hx).mono ?_
  rintro e w' ⟨rfl, rfl⟩
  go_wp2_with fail
  refine (All_any B d y (-30000) 30000 w hB hm true hy).mono ?_
  rintro e w' ⟨rfl, rfl⟩
  go_wp2_with fail
  refine (hk _ hC).mono ?_
  rintro e w99 ⟨rfl, hb⟩
  go_wp2_with fail
  go_ret
  exact ⟨rfl, hb⟩
set_option maxRecDepth 100000 in
set_option maxHeartbeats 4000000 in
theorem FeatureLinear_ok (A B : Option Addr) (c d : Nat) (x y : List Int) (m : Int) (w : World) (hA : Lies w A (ics x)) (hB : Lies w B (ics y)) (hn : x.length ≤ 9223372036854775807) (hm : y.length ≤ 9223372036854775807) (hC : CosOk w) (hk : Kn) (hs : Hid (spn x = true)) (hl : Hid (x.length = y.length)) (hx : Hid (allR (-30000) 30000 x = true)) (hy : Hid (allR (-30000) 30000 y = true)) (h1 : -2 ≤ m) (h2 : m ≤ 2) :
    Calls Tryd.prog 4 #[.slice A x.length c, .slice B y.length d, .int .i64 m] w (RetB true w) := by
  have q1 : ((x.length : Int) != (y.length : Int)) = false := by have := hl.out; simp; omega
  have hsp : lenOk x.length = true := by have := hs.out; unfold spn at this; rw [Bool.and_eq_true] at this; exact this.1
  have HL := Lib.hid hsp
  have h64 := lenOk_bd hsp
  clear hsp
  have HXW : Hid (allR (-65536) 65536 x = true) := Lib.hid (allR_of (fun z hz => by have := allR_mem hx.out hz; omega))
  have HYW : Hid (allR (-65536) 65536 y = true) := Lib.hid (allR_of (fun z hz => by have := allR_mem hy.out hz; omega))
  have NX : Hid (x.length = x.length) := Lib.hid rfl
  have NY : Hid (y.length = x.length) := Lib.hid hl.out.symm
  have NS : Hid ((linS x y).length = x.length) := Lib.hid (by simp [linS])
  have NM : Hid ((linM m x).length = x.length) := Lib.hid (by simp [linM])
  have NT : Hid ((linT x).length = x.length) := Lib.hid (by simp [linT])
  have RNX : Hid ((trf x).length = x.length) := Lib.hid (trf_length x)
  have RNY : Hid ((trf y).length = x.length) := Lib.hid (by rw [trf_length, NY.out])
  have RNS : Hid ((trf (linS x y)).length = x.length) := Lib.hid (by rw [trf_length, NS.out])
  have RNM : Hid ((trf (linM m x)).length = x.length) := Lib.hid (by rw [trf_length, NM.out])
  have RNT : Hid ((trf (linT x)).length = x.length) := Lib.hid (by rw [trf_length, NT.out])
  have TX : Hid (trfR x = (0, trf x)) := Lib.hid (by unfold trfR; rw [if_pos ⟨HL.out, HXW.out⟩])
  have TY : Hid (trfR y = (0, trf y)) := Lib.hid (by unfold trfR; rw [if_pos ⟨by rw [NY.out]; exact HL.out, HYW.out⟩])
  have TS : Hid (trfR (linS x y) = (0, trf (linS x y))) := Lib.hid (by unfold trfR; rw [if_pos ⟨by rw [NS.out]; exact HL.out, linS_ok hx.out hy.out⟩])
  have TM : Hid (trfR (linM m x) = (0, trf (linM m x))) := Lib.hid (by unfold trfR; rw [if_pos ⟨by rw [NM.out]; exact HL.out, linM_ok hx.out h1 h2⟩])
  have TT : Hid (trfR (linT x) = (0, trf (linT x))) := Lib.hid (by unfold trfR; rw [if_pos ⟨by rw [NT.out]; exact HL.out, linT_ok hx.out⟩])
  go_enter Tryd.func4, Tryd.ntmps4
  go_wp2_with fail
  refine (spans_any A c x w hA hn true hs).mono ?_
  rintro e w' ⟨rfl, rfl⟩
  go_wp2_with fail
  refine (All_any A c x (-30000) 30000 w hA hn true hx).mono ?_
  rintro e w' ⟨rfl, rfl⟩
  go_wp2_with fail
  refine (All_any B d y (-30000) 30000 w hB hm true hy).mono ?_
  rintro e w' ⟨rfl, rfl⟩
  go_wp2_with fail
  clear q1
  obtain ⟨mk, hmk⟩ := make_all x.length (by omega)
  have hrun := fun W => (hmk W).1
  have HMK := Lib.hid hmk
  clear hmk
  go_cut [7, 8] (fun t7 t8 wx => ∃ g1 g2 : Nat, t7 = .slice (some ⟨g1, 0, none⟩) x.length x.length ∧ t8 = .slice (some ⟨g2, 0, none⟩) x.length x.length ∧ g1 ≠ g2 ∧ wx.ownsRow w.heap.size 3 1 (.slice (some ⟨g1, 0, none⟩) x.length x.length) x.length (ics (List.replicate x.length 0)) ∧ wx.ownsRow w.heap.size 3 1 (.slice (some ⟨g2, 0, none⟩) x.length x.length) x.length (ics (List.replicate x.length 0)) ∧ Below w.heap.size w wx)
  case first =>
    go_region
    all_goals
      go_wp2_with fail
      go_meet
      have M1 := HMK.out w.drew
      have M2 := HMK.out (mk w.drew)
      have b1 : Below w.heap.size w (mk w.drew) := (Below.refl _ w).drew.trans M1.2.2
      have b2 : Below w.heap.size w (mk (mk w.drew)) := b1.trans (M2.2.2.mono b1.size)
      have e1 : (mk (mk w.drew)).ownsRow w.heap.size 3 1 (.slice (some ⟨w.heap.size, 0, none⟩) x.length x.length) x.length (ics (List.replicate x.length 0)) := own_below M1.2.1 M2.2.2
      have e2 : (mk (mk w.drew)).ownsRow w.heap.size 3 1 (.slice (some ⟨(mk w.drew).heap.size, 0, none⟩) x.length x.length) x.length (ics (List.replicate x.length 0)) := ownsRow_le M2.2.1 b1.size
      have e3 : w.heap.size ≠ (mk w.drew).heap.size := by have := (M1.2.1.lt w.drew.heap.size rfl).2; have e : w.drew.heap.size = w.heap.size := rfl; omega
      first
        | exact ⟨_, _, rfl, rfl, e3, e1, e2, b2⟩
        | exact ⟨_, _, rfl, rfl, e3.symm, e2, e1, b2⟩
  case rest =>
    clear hrun HMK
    obtain ⟨g1, g2, rfl, rfl, hne12, ro1, ro2, hbx⟩ := hcut
    go_wp2_with fail
    obtain ⟨w3, hmk3, ro3, hb3⟩ := make_ints wc x.length (by omega) wc.heap.size (Nat.le_refl _)
    rw [hmk3]
    clear hmk3
    obtain ⟨g3, hg3⟩ : ∃ g, g = wc.heap.size := ⟨_, rfl⟩
    rw [← hg3] at ro3 ⊢
    have hne13 : g1 ≠ g3 := by have := (ro1.lt g1 rfl).2; omega
    have hne23 : g2 ≠ g3 := by have := (ro2.lt g2 rfl).2; omega
    have G1 := (ro1.lt g1 rfl).1
    have G2 := (ro2.lt g2 rfl).1
    have G3 : w.heap.size ≤ g3 := by rw [hg3]; exact hbx.size
    have S1 := Lib.hid (own_below ro1 hb3)
    have S2 := Lib.hid (own_below ro2 hb3)
    have S3 := Lib.hid ro3
    have SB := Lib.hid (hbx.trans (hb3.mono hbx.size))
    clear ro1 ro2 ro3 hb3 hbx hg3
    clear wc
    go_wp2_with fail
    go_loopw [10] (fun i wr => ∃ k : Nat, k ≤ x.length ∧ i = .int .i64 k ∧ wr.ownsRow w.heap.size 3 1 (.slice (some ⟨g1, 0, none⟩) x.length x.length) x.length (ics (fillTo (fun i => x[i]?.getD 0 + y[i]?.getD 0) x.length k)) ∧ wr.ownsRow w.heap.size 3 1 (.slice (some ⟨g2, 0, none⟩) x.length x.length) x.length (ics (fillTo (fun i => x[x.length - 1 - i]?.getD 0) x.length k)) ∧ wr.ownsRow g3 3 1 (.slice (some ⟨g3, 0, none⟩) x.length x.length) x.length (ics (fillTo (fun i => m * x[i]?.getD 0) x.length k)) ∧ Below w.heap.size w wr) (fun i _ => x.length - (intOf i).toNat)
    case atStart => exact ⟨0, by omega, rfl, by rw [fillTo_zero]; exact S1.out, by rw [fillTo_zero]; exact S2.out, by rw [fillTo_zero]; exact S3.out, SB.out⟩
    case round =>
      clear S1 S2 S3 SB
      obtain ⟨k, hk9, rfl, r1, r2, r3, r4⟩ := hrel
      by_cases hlt : k < x.length
      · have hly : k < y.length := by rw [← hl.out]; exact hlt
        have hlz : x.length - 1 - k < x.length := by omega
        obtain ⟨bx, ox, rfl, hbx, hcx⟩ := hA.at_ hlt
        obtain ⟨bx2, ox2, eA, hbx2, hcz⟩ := hA.at_ hlz
        cases eA
        obtain ⟨by_, oy, rfl, hby, hcy⟩ := hB.at_ hly
        have m1 := lin_wide hx.out k
        have m2 := lin_wide hy.out k
        obtain ⟨f1, hf1⟩ : ∃ f : Nat → Int, f = (fun i => x[i]?.getD 0 + y[i]?.getD 0) := ⟨_, rfl⟩
        obtain ⟨f2, hf2⟩ : ∃ f : Nat → Int, f = (fun i => x[x.length - 1 - i]?.getD 0) := ⟨_, rfl⟩
        obtain ⟨f3, hf3⟩ : ∃ f : Nat → Int, f = (fun i => m * x[i]?.getD 0) := ⟨_, rfl⟩
        have v1 : x[k]?.getD 0 + y[k]?.getD 0 = f1 k := by rw [hf1]
        have v2 : x[x.length - 1 - k]?.getD 0 = f2 k := by rw [hf2]
        have v3 : m * x[k]?.getD 0 = f3 k := by rw [hf3]
        rw [← hf1] at r1
        rw [← hf2] at r2
        rw [← hf3] at r3
        have F1 := Lib.hid hf1
        have F2 := Lib.hid hf2
        have F3 := Lib.hid hf3
        clear hf1 hf2 hf3
        rw [v2] at hcz
        have z3 := mul_two h1 h2 m1
        generalize x[k]?.getD 0 = xk at *
        generalize y[k]?.getD 0 = yk at *
        rw [v3] at z3
        have z1 : -60000 ≤ f1 k ∧ f1 k ≤ 60000 := by omega
        have HV1 := Lib.hid v1
        have HV2 := Lib.hid v2
        have HV3 := Lib.hid v3
        have p1 : IntKind.i64.wrap (xk + yk) = f1 k := by rw [v1]; exact IntWalk.i64_in _ (by omega)
        have p2 : IntKind.i64.wrap (m * xk) = f3 k := by rw [v3]; exact IntWalk.i64_in _ (by omega)
        have p3 : IntKind.i64.wrap ((x.length : Int) - 1) = (x.length : Int) - 1 := IntWalk.i64_in _ (by omega)
        have p4 : IntKind.i64.wrap ((x.length : Int) - 1 - k) = (x.length : Int) - 1 - k := IntWalk.i64_in _ (by omega)
        have i1 : ((x.length : Int) - 1 - k).toNat = x.length - 1 - k := by omega
        have i2 : (0 : Int) ≤ (x.length : Int) - 1 - k := by omega
        have i3 : (x.length : Int) - 1 - k < (x.length : Int) := by omega
        have i4 : (k : Int) ≤ (x.length : Int) - 1 := by omega
        generalize hz1 : f1 k = a1 at *
        generalize hz2 : f2 k = a2 at *
        generalize hz3 : f3 k = a3 at *
        have HZ1 := Lib.hid hz1
        have HZ2 := Lib.hid hz2
        have HZ3 := Lib.hid hz3
        clear hz1 hz2 hz3 v1 v2 v3
        obtain ⟨W0, hW0⟩ : ∃ W, W = wr.drew := ⟨_, rfl⟩
        obtain ⟨W1, hW1⟩ : ∃ W, W = W0.setCell ⟨g1, k, none⟩ (.int .i64 a1) := ⟨_, rfl⟩
        obtain ⟨W2, hW2⟩ : ∃ W, W = W1.setCell ⟨g3, k, none⟩ (.int .i64 a3) := ⟨_, rfl⟩
        obtain ⟨W3, hW3⟩ : ∃ W, W = W2.setCell ⟨g2, k, none⟩ (.int .i64 a2) := ⟨_, rfl⟩
        have s1 : W0.ownsRow w.heap.size 3 1 (.slice (some ⟨g1, 0, none⟩) x.length x.length) x.length (ics (fillTo f1 x.length k)) := by rw [hW0]; exact r1.drew
        have s2 : W0.ownsRow w.heap.size 3 1 (.slice (some ⟨g2, 0, none⟩) x.length x.length) x.length (ics (fillTo f2 x.length k)) := by rw [hW0]; exact r2.drew
        have s3 : W0.ownsRow g3 3 1 (.slice (some ⟨g3, 0, none⟩) x.length x.length) x.length (ics (fillTo f3 x.length k)) := by rw [hW0]; exact r3.drew
        have t0 : Below w.heap.size w W0 := by rw [hW0]; exact r4.drew
        have t1 : Below w.heap.size w W1 := by rw [hW1]; exact t0.setCell G1 _
        have t2 : Below w.heap.size w W2 := by rw [hW2]; exact t1.setCell G3 _
        have t3 : Below w.heap.size w W3 := by rw [hW3]; exact t2.setCell G2 _
        have u1 : W1.ownsRow w.heap.size 3 1 (.slice (some ⟨g1, 0, none⟩) x.length x.length) x.length (ics (fillTo f1 x.length (k + 1))) := by rw [hW1, ← HZ1.out]; exact own_put s1
        have u2 : W1.ownsRow w.heap.size 3 1 (.slice (some ⟨g2, 0, none⟩) x.length x.length) x.length (ics (fillTo f2 x.length k)) := by rw [hW1]; exact own_apart_set s2 hne12.symm _
        have u3 : W1.ownsRow g3 3 1 (.slice (some ⟨g3, 0, none⟩) x.length x.length) x.length (ics (fillTo f3 x.length k)) := by rw [hW1]; exact own_apart_set s3 hne13.symm _
        have x1 : W2.ownsRow w.heap.size 3 1 (.slice (some ⟨g1, 0, none⟩) x.length x.length) x.length (ics (fillTo f1 x.length (k + 1))) := by rw [hW2]; exact own_apart_set u1 hne13 _
        have x2 : W2.ownsRow w.heap.size 3 1 (.slice (some ⟨g2, 0, none⟩) x.length x.length) x.length (ics (fillTo f2 x.length k)) := by rw [hW2]; exact own_apart_set u2 hne23 _
        have x3 : W2.ownsRow g3 3 1 (.slice (some ⟨g3, 0, none⟩) x.length x.length) x.length (ics (fillTo f3 x.length (k + 1))) := by rw [hW2, ← HZ3.out]; exact own_put u3
        have y1 : W3.ownsRow w.heap.size 3 1 (.slice (some ⟨g1, 0, none⟩) x.length x.length) x.length (ics (fillTo f1 x.length (k + 1))) := by rw [hW3]; exact own_apart_set x1 hne12 _
        have y2 : W3.ownsRow w.heap.size 3 1 (.slice (some ⟨g2, 0, none⟩) x.length x.length) x.length (ics (fillTo f2 x.length (k + 1))) := by rw [hW3, ← HZ2.out]; exact own_put x2
        have y3 : W3.ownsRow g3 3 1 (.slice (some ⟨g3, 0, none⟩) x.length x.length) x.length (ics (fillTo f3 x.length (k + 1))) := by rw [hW3]; exact own_apart_set x3 hne23.symm _
        have SC0 : Hid (W0.cell? ⟨bx, ox + k, none⟩ = some (.int .i64 xk) ∧ W0.cell? ⟨bx, ox + (x.length - 1 - k), none⟩ = some (.int .i64 a2) ∧ W0.cell? ⟨by_, oy + k, none⟩ = some (.int .i64 yk)) := Lib.hid ⟨(t0.cell (p := ⟨bx, ox + k, none⟩) hbx).trans hcx, (t0.cell (p := ⟨bx, ox + (x.length - 1 - k), none⟩) hbx).trans hcz, (t0.cell (p := ⟨by_, oy + k, none⟩) hby).trans hcy⟩
        have SC1 : Hid (W1.cell? ⟨bx, ox + k, none⟩ = some (.int .i64 xk) ∧ W1.cell? ⟨bx, ox + (x.length - 1 - k), none⟩ = some (.int .i64 a2) ∧ W1.cell? ⟨by_, oy + k, none⟩ = some (.int .i64 yk)) := Lib.hid ⟨(t1.cell (p := ⟨bx, ox + k, none⟩) hbx).trans hcx, (t1.cell (p := ⟨bx, ox + (x.length - 1 - k), none⟩) hbx).trans hcz, (t1.cell (p := ⟨by_, oy + k, none⟩) hby).trans hcy⟩
        have SC2 : Hid (W2.cell? ⟨bx, ox + k, none⟩ = some (.int .i64 xk) ∧ W2.cell? ⟨bx, ox + (x.length - 1 - k), none⟩ = some (.int .i64 a2) ∧ W2.cell? ⟨by_, oy + k, none⟩ = some (.int .i64 yk)) := Lib.hid ⟨(t2.cell (p := ⟨bx, ox + k, none⟩) hbx).trans hcx, (t2.cell (p := ⟨bx, ox + (x.length - 1 - k), none⟩) hbx).trans hcz, (t2.cell (p := ⟨by_, oy + k, none⟩) hby).trans hcy⟩
        have SC3 : Hid (W3.cell? ⟨bx, ox + k, none⟩ = some (.int .i64 xk) ∧ W3.cell? ⟨bx, ox + (x.length - 1 - k), none⟩ = some (.int .i64 a2) ∧ W3.cell? ⟨by_, oy + k, none⟩ = some (.int .i64 yk)) := Lib.hid ⟨(t3.cell (p := ⟨bx, ox + k, none⟩) hbx).trans hcx, (t3.cell (p := ⟨bx, ox + (x.length - 1 - k), none⟩) hbx).trans hcz, (t3.cell (p := ⟨by_, oy + k, none⟩) hby).trans hcy⟩
        obtain ⟨c1, d1⟩ := own_cell r1 hlt
        obtain ⟨c3, d3⟩ := own_cell r3 hlt
        obtain ⟨c2, d2⟩ := own_cell r2 hlt
        have hne31 := hne13.symm
        have hne21 := hne12.symm
        have hne32 := hne23.symm
        have a13 : (⟨g1, k, none⟩ : Addr) ≠ ⟨g3, k, none⟩ := fun e => by injection e with e1; exact hne13 e1
        have a12 : (⟨g1, k, none⟩ : Addr) ≠ ⟨g2, k, none⟩ := fun e => by injection e with e1; exact hne12 e1
        have a32 : (⟨g3, k, none⟩ : Addr) ≠ ⟨g2, k, none⟩ := fun e => by injection e with e1; exact hne32 e1
        have Y1 := Lib.hid y1
        have Y2 := Lib.hid y2
        have Y3 := Lib.hid y3
        have T3 := Lib.hid t3
        clear s1 s2 s3 u1 u2 u3 x1 x2 x3 y1 y2 y3 t0 t1 t2 t3 r1 r2 r3 r4 hcx hcz hcy
        subst hW3
        subst hW2
        subst hW1
        subst hW0
        go_wp2_with fail
        go_upto_region 8 with (fail)
        go_region_held3 (fun w' => w'.cell? ⟨bx, ox + k, none⟩ = some (.int .i64 xk) ∧ w'.cell? ⟨bx, ox + (x.length - 1 - k), none⟩ = some (.int .i64 a2) ∧ w'.cell? ⟨by_, oy + k, none⟩ = some (.int .i64 yk))
          (first | exact SC0.out | exact SC1.out | exact SC2.out | exact SC3.out)
          (fail)
        go_wp2_with fail
        exact ⟨⟨k + 1, by omega, by go_num, by have h9 := Y1.out; rw [F1.out] at h9; exact h9, by have h9 := Y2.out; rw [F2.out] at h9; exact h9, by have h9 := Y3.out; rw [F3.out] at h9; exact h9, T3.out⟩, by simp [intOf]; omega⟩
      · obtain rfl : k = x.length := by omega
        rw [fillTo_all] at r1 r2 r3
        obtain ⟨W0, rfl⟩ : ∃ W, W = wr := ⟨_, rfl⟩
        have LS : Hid (Lies W0 (some ⟨g1, 0, none⟩) (ics (linS x y))) := Lib.hid (Lies.of_own r1)
        have LT : Hid (Lies W0 (some ⟨g2, 0, none⟩) (ics (linT x))) := Lib.hid (Lies.of_own r2)
        have LM : Hid (Lies W0 (some ⟨g3, 0, none⟩) (ics (linM m x))) := Lib.hid (Lies.of_own r3)
        have LX : Hid (Lies W0 A (ics x)) := Lib.hid (hA.below r4)
        have LY : Hid (Lies W0 B (ics y)) := Lib.hid (hB.below r4)
        have CC : Hid (CosOk W0) := Lib.hid (hC.below r4)
        have BB := Lib.hid r4
        clear r1 r2 r3 r4
        have hcall := Transform_any A c x W0 LX.out CC.out (by omega) 0 (trf x) TX
        have HCALL := Lib.hid hcall
        clear hcall
        go_wp2_with fail
        refine HCALL.out.mono ?_
        clear HCALL
        rintro e v0 ⟨P0, c0, rfl, ho, hb⟩
        rw [RNX.out]
        have LX1 : Hid (Lies v0 A (ics x)) := Lib.hid (LX.out.below hb)
        have LY1 : Hid (Lies v0 B (ics y)) := Lib.hid (LY.out.below hb)
        have CC1 : Hid (CosOk v0) := Lib.hid (CC.out.below hb)
        have LS1 : Hid (Lies v0 (some ⟨g1, 0, none⟩) (ics (linS x y))) := Lib.hid (LS.out.below hb)
        have LT1 : Hid (Lies v0 (some ⟨g2, 0, none⟩) (ics (linT x))) := Lib.hid (LT.out.below hb)
        have LM1 : Hid (Lies v0 (some ⟨g3, 0, none⟩) (ics (linM m x))) := Lib.hid (LM.out.below hb)
        have B1 : Hid (Below w.heap.size w v0) := Lib.hid (BB.out.trans (hb.mono BB.out.size))
        clear hb LX LY CC LS LT LM BB
        have Q0 : Hid (Lies v0 P0 (ics (trf x))) := Lib.hid (Lies.of_own ho)
        clear ho
        have hcall := Transform_any B d y v0 LY1.out CC1.out (by rw [NY.out]; omega) 0 (trf y) TY
        have HCALL := Lib.hid hcall
        clear hcall
        go_wp2_with fail
        refine HCALL.out.mono ?_
        clear HCALL
        rintro e v1 ⟨P1, c1, rfl, ho, hb⟩
        rw [RNY.out]
        have LY2 : Hid (Lies v1 B (ics y)) := Lib.hid (LY1.out.below hb)
        have CC2 : Hid (CosOk v1) := Lib.hid (CC1.out.below hb)
        have LS2 : Hid (Lies v1 (some ⟨g1, 0, none⟩) (ics (linS x y))) := Lib.hid (LS1.out.below hb)
        have LT2 : Hid (Lies v1 (some ⟨g2, 0, none⟩) (ics (linT x))) := Lib.hid (LT1.out.below hb)
        have LM2 : Hid (Lies v1 (some ⟨g3, 0, none⟩) (ics (linM m x))) := Lib.hid (LM1.out.below hb)
        have Q02 : Hid (Lies v1 P0 (ics (trf x))) := Lib.hid (Q0.out.below hb)
        have B2 : Hid (Below w.heap.size w v1) := Lib.hid (B1.out.trans (hb.mono B1.out.size))
        clear hb LY1 CC1 LS1 LT1 LM1 Q0 B1
        have Q1 : Hid (Lies v1 P1 (ics (trf y))) := Lib.hid (Lies.of_own ho)
        clear ho
        have hcall := Transform_any (some ⟨g1, 0, none⟩) x.length (linS x y) v1 LS2.out CC2.out (by rw [NS.out]; omega) 0 (trf (linS x y)) TS
        rw [NS.out] at hcall
        have HCALL := Lib.hid hcall
        clear hcall
        go_wp2_with fail
        refine HCALL.out.mono ?_
        clear HCALL
        rintro e v2 ⟨P2, c2, rfl, ho, hb⟩
        rw [RNS.out]
        have CC3 : Hid (CosOk v2) := Lib.hid (CC2.out.below hb)
        have LS3 : Hid (Lies v2 (some ⟨g1, 0, none⟩) (ics (linS x y))) := Lib.hid (LS2.out.below hb)
        have LT3 : Hid (Lies v2 (some ⟨g2, 0, none⟩) (ics (linT x))) := Lib.hid (LT2.out.below hb)
        have LM3 : Hid (Lies v2 (some ⟨g3, 0, none⟩) (ics (linM m x))) := Lib.hid (LM2.out.below hb)
        have Q03 : Hid (Lies v2 P0 (ics (trf x))) := Lib.hid (Q02.out.below hb)
        have Q13 : Hid (Lies v2 P1 (ics (trf y))) := Lib.hid (Q1.out.below hb)
        have B3 : Hid (Below w.heap.size w v2) := Lib.hid (B2.out.trans (hb.mono B2.out.size))
        clear hb CC2 LS2 LT2 LM2 Q02 Q1 B2
        have Q2 : Hid (Lies v2 P2 (ics (trf (linS x y)))) := Lib.hid (Lies.of_own ho)
        clear ho
        have hcall := Transform_any (some ⟨g3, 0, none⟩) x.length (linM m x) v2 LM3.out CC3.out (by rw [NM.out]; omega) 0 (trf (linM m x)) TM
        rw [NM.out] at hcall
        have HCALL := Lib.hid hcall
        clear hcall
        go_wp2_with fail
        refine HCALL.out.mono ?_
        clear HCALL
        rintro e v3 ⟨P3, c3, rfl, ho, hb⟩
        rw [RNM.out]
        have CC4 : Hid (CosOk v3) := Lib.hid (CC3.out.below hb)
        have LT4 : Hid (Lies v3 (some ⟨g2, 0, none⟩) (ics (linT x))) := Lib.hid (LT3.out.below hb)
        have LM4 : Hid (Lies v3 (some ⟨g3, 0, none⟩) (ics (linM m x))) := Lib.hid (LM3.out.below hb)
        have Q04 : Hid (Lies v3 P0 (ics (trf x))) := Lib.hid (Q03.out.below hb)
        have Q14 : Hid (Lies v3 P1 (ics (trf y))) := Lib.hid (Q13.out.below hb)
        have Q24 : Hid (Lies v3 P2 (ics (trf (linS x y)))) := Lib.hid (Q2.out.below hb)
        have B4 : Hid (Below w.heap.size w v3) := Lib.hid (B3.out.trans (hb.mono B3.out.size))
        clear hb CC3 LT3 LM3 Q03 Q13 Q2 B3
        have Q3 : Hid (Lies v3 P3 (ics (trf (linM m x)))) := Lib.hid (Lies.of_own ho)
        clear ho
        have hcall := Transform_any (some ⟨g2, 0, none⟩) x.length (linT x) v3 LT4.out CC4.out (by rw [NT.out]; omega) 0 (trf (linT x)) TT
        rw [NT.out] at hcall
        have HCALL := Lib.hid hcall
        clear hcall
        go_wp2_with fail
        refine HCALL.out.mono ?_
        clear HCALL
        rintro e v4 ⟨P4, c4, rfl, ho, hb⟩
        rw [RNT.out]
        have CC5 : Hid (CosOk v4) := Lib.hid (CC4.out.below hb)
        have LT5 : Hid (Lies v4 (some ⟨g2, 0, none⟩) (ics (linT x))) := Lib.hid (LT4.out.below hb)
        have Q05 : Hid (Lies v4 P0 (ics (trf x))) := Lib.hid (Q04.out.below hb)
        have Q15 : Hid (Lies v4 P1 (ics (trf y))) := Lib.hid (Q14.out.below hb)
        have Q25 : Hid (Lies v4 P2 (ics (trf (linS x y)))) := Lib.hid (Q24.out.below hb)
        have Q35 : Hid (Lies v4 P3 (ics (trf (linM m x)))) := Lib.hid (Q3.out.below hb)
        have B5 : Hid (Below w.heap.size w v4) := Lib.hid (B4.out.trans (hb.mono B4.out.size))
        clear hb CC4 LT4 Q04 Q14 Q24 Q3 B4
        have Q4 : Hid (Lies v4 P4 (ics (trf (linT x)))) := Lib.hid (Lies.of_own ho)
        clear ho
        go_wp2_with fail
        go_loopw [21] (fun i wr => ∃ k : Nat, k ≤ x.length ∧ i = .int .i64 k ∧ ∃ n, wr = v4.drewN n) (fun i _ => x.length - (intOf i).toNat)
        case atStart => exact ⟨0, by omega, rfl, 0, rfl⟩
        case round =>
          obtain ⟨k, hk9, rfl, n, hwd⟩ := hrel
          have U0 : Lies wr P0 (ics (trf x)) := by rw [hwd]; exact Q05.out.drewN n
          have U1 : Lies wr P1 (ics (trf y)) := by rw [hwd]; exact Q15.out.drewN n
          have U2 : Lies wr P2 (ics (trf (linS x y))) := by rw [hwd]; exact Q25.out.drewN n
          have U3 : Lies wr P3 (ics (trf (linM m x))) := by rw [hwd]; exact Q35.out.drewN n
          have U4 : Lies wr P4 (ics (trf (linT x))) := by rw [hwd]; exact Q4.out.drewN n
          have WD := Lib.hid hwd
          clear hwd
          by_cases hlt : k < x.length
          · have e2 := lin_add hl.out hlt
            have e3 := lin_mul m hlt
            have e4 := lin_turn HL.out hlt
            obtain ⟨b0, o0, rfl, hb0, hc0⟩ := U0.at_ (k := k) (by rw [RNX.out]; exact hlt)
            obtain ⟨b1, o1, rfl, hb1, hc1⟩ := U1.at_ (k := k) (by rw [RNY.out]; exact hlt)
            obtain ⟨b2, o2, rfl, hb2, hc2⟩ := U2.at_ (k := k) (by rw [RNS.out]; exact hlt)
            obtain ⟨b3, o3, rfl, hb3, hc3⟩ := U3.at_ (k := k) (by rw [RNM.out]; exact hlt)
            obtain ⟨b4, o4, rfl, hb4, hc4⟩ := U4.at_ (k := k) (by rw [RNT.out]; exact hlt)
            have z1 := trf_bd HXW.out h64.2 k
            have z2 := trf_bd HYW.out (by rw [← hl.out]; exact h64.2) k
            rw [e2] at hc2
            rw [e3] at hc3
            rw [e4] at hc4
            clear e2 e3 e4 U0 U1 U2 U3 U4
            generalize (trf x)[k]?.getD 0 = a at *
            generalize (trf y)[k]?.getD 0 = b at *
            have z3 := mul_two h1 h2 (b := 68719476736) z1
            generalize hma : m * a = ma at *
            have HMA := Lib.hid hma
            have p1 : IntKind.i64.wrap (a + b) = a + b := IntWalk.i64_in _ (by omega)
            have p2 : IntKind.i64.wrap (m * a) = ma := by rw [hma]; exact IntWalk.i64_in _ (by omega)
            have p3 : IntKind.i64.wrap (-a) = -a := IntWalk.i64_in _ (by omega)
            clear hma
            have e5 : Int.tmod (k : Int) 2 = ((k % 2 : Nat) : Int) := rfl
            by_cases hpar : k % 2 = 0
            · rw [if_pos hpar] at hc4
              rw [hpar] at e5
              have e6 : Int.tmod (k : Int) 2 = 0 := e5
              clear e5 hpar
              go_wp2_with fail
              go_quiet (fail)
              go_wp2_with fail
              exact ⟨⟨k + 1, by omega, by go_num, by rw [WD.out]; exact drewN_ex _ _ _⟩, by simp [intOf]; omega⟩
            · rw [if_neg hpar] at hc4
              rw [show k % 2 = 1 by omega] at e5
              have e6 : Int.tmod (k : Int) 2 = 1 := e5
              clear e5 hpar
              go_wp2_with fail
              go_quiet (fail)
              go_wp2_with fail
              exact ⟨⟨k + 1, by omega, by go_num, by rw [WD.out]; exact drewN_ex _ _ _⟩, by simp [intOf]; omega⟩
          · obtain rfl : k = x.length := by omega
            clear U0 U1 U2 U3 U4
            have BW : Hid (Below w.heap.size w wr) := Lib.hid (by rw [WD.out]; exact B5.out.trans (below_drewN' _ _))
            go_wp2_with fail
            refine (hk _ (hC.below BW.out)).mono ?_
            rintro e w99 ⟨rfl, hb⟩
            go_wp2_with fail
            go_ret
            exact ⟨rfl, BW.out.trans (hb.mono BW.out.size)⟩
theorem FeatureLinear_any (A B : Option Addr) (c d : Nat) (x y : List Int) (m : Int) (w : World) (hA : Lies w A (ics x)) (hB : Lies w B (ics y)) (hn : x.length ≤ 9223372036854775807) (hm : y.length ≤ 9223372036854775807) (hC : CosOk w) (hk : Kn) :
    Calls Tryd.prog 4 #[.slice A x.length c, .slice B y.length d, .int .i64 m] w (RetB true w) := by
  cases hs : spn x with
  | false => exact FeatureLinear_o0 A B c d x y m w hA hB hn hm hC hk (Lib.hid hs)
  | true =>
    by_cases hl : x.length = y.length
    · cases hx : allR (-30000) 30000 x with
      | false => exact FeatureLinear_o2 A B c d x y m w hA hB hn hm hC hk (Lib.hid hs) (Lib.hid hl) (Lib.hid hx)
      | true =>
        cases hy : allR (-30000) 30000 y with
        | false => exact FeatureLinear_o3 A B c d x y m w hA hB hn hm hC hk (Lib.hid hs) (Lib.hid hl) (Lib.hid hx) (Lib.hid hy)
        | true =>
          by_cases h1 : m < -2
          · exact FeatureLinear_o4 A B c d x y m w hA hB hn hm hC hk (Lib.hid hs) (Lib.hid hl) (Lib.hid hx) (Lib.hid hy) h1
          · by_cases h2 : 2 < m
            · exact FeatureLinear_o5 A B c d x y m w hA hB hn hm hC hk (Lib.hid hs) (Lib.hid hl) (Lib.hid hx) (Lib.hid hy) h2
            · exact FeatureLinear_ok A B c d x y m w hA hB hn hm hC hk (Lib.hid hs) (Lib.hid hl) (Lib.hid hx) (Lib.hid hy) (by omega) (by omega)
    · exact FeatureLinear_o1 A B c d x y m w hA hB hn hm hC hk (Lib.hid hs) hl
end Go.Proofs.YtfapmghhmkekaaaDoor
