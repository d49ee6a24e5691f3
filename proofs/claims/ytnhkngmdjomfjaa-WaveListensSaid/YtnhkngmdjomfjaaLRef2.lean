/- WaveRefuses: the walk where the listener is asked -/
import Derived.Test.YtnhkngmdjomfjaaLRef
namespace Go.Proofs.Ytnhkngmdjomfjaa
open Go.RowKit Ear

theorem Lies.past {wa w w' : World} {A : Option Addr} {xs : List Value} {p : Nat} (ha : Lies wa A xs) (h : Lies w A xs) (hg : w.grownBy w' (some p)) (hp : wa.heap.size ≤ p) : Lies w' A xs := fun h0 => by
  obtain ⟨b, off, e, hb, hc⟩ := ha h0
  exact h.grown hg (fun b' off' e' e2 => by
    rw [e] at e'
    injection e' with e'
    injection e' with e3 _ _
    injection e2 with e2
    omega) h0
theorem Led.past {w0 wa w w' : World} {F : List (Option Addr × List Value)} {p : Nat} (ha : Led w0 wa F) (h : Led w0 w F) (hg : w.grownBy w' (some p)) (hp : wa.heap.size ≤ p) : Led w0 w' F :=
  ⟨h.bel.trans (Below.of_only hg h.bel.size (Nat.le_trans ha.bel.size hp)), fun i A xs e => (ha.lies i A xs e).past (h.lies i A xs e) hg hp⟩
theorem only_none {w w' : World} (hb : Below w.heap.size w w') : w.grownBy w' none := ⟨hb.os, hb.tape, hb.output, hb.size, fun i hi _ => hb.block i hi⟩
theorem below_none {w w' : World} (h : w.grownBy w' none) : Below w.heap.size w w' := ⟨h.os, h.tape, h.output, h.size, fun i hi => h.block i hi (by simp)⟩
theorem below_undrew {w w' : World} (h : Below w.drew.heap.size w.drew w') : Below w.heap.size w w' := ⟨h.os, h.tape, h.output, h.size, h.block⟩
theorem own_below {w w' : World} {base : Nat} {e : TypeId} {size n : Nat} {v : Value} {xs : List Value} (h : w.ownsRow base e size v n xs) (hb : Below w.heap.size w w') : w'.ownsRow base e size v n xs :=
  h.kept (only_none hb) (by cases hx : v.ownBlock <;> simp)
/-- what is owned stays if another row turns -/
theorem own_apart {w w' : World} {base : Nat} {e : TypeId} {size n : Nat} {v : Value} {xs : List Value} {row : Option Nat} (h : w.ownsRow base e size v n xs) (hg : w.grownBy w' row) (hr : ∀ k, v.ownBlock = some k → row ≠ some k) : w'.ownsRow base e size v n xs :=
  h.kept hg (by
    cases hx : v.ownBlock with
    | none => exact .inl rfl
    | some k => exact .inr (fun e => hr k hx e.symm))
theorem row_of_led {w0 w : World} {F : List (Option Addr × List Value)} (h : Led w0 w F) (i b : Nat) (g : Gt) (e : F[i]? = some (some ⟨b, 0, none⟩, [.int .i64 g.block, .int .i64 g.high, .int .i64 g.low, .int .i64 g.rise, .int .i64 g.fall, .int .i64 g.lead, .int .i64 g.longest])) :
    w.cell? ⟨b, 0, none⟩ = some (.int .i64 g.block) ∧ w.cell? ⟨b, 1, none⟩ = some (.int .i64 g.high) ∧ w.cell? ⟨b, 2, none⟩ = some (.int .i64 g.low) ∧ w.cell? ⟨b, 3, none⟩ = some (.int .i64 g.rise) ∧ w.cell? ⟨b, 4, none⟩ = some (.int .i64 g.fall) ∧ w.cell? ⟨b, 5, none⟩ = some (.int .i64 g.lead) ∧ w.cell? ⟨b, 6, none⟩ = some (.int .i64 g.longest) := by
  have h0 := h.cell i e 0 rfl
  have h1 := h.cell i e 1 rfl
  have h2 := h.cell i e 2 rfl
  have h3 := h.cell i e 3 rfl
  have h4 := h.cell i e 4 rfl
  have h5 := h.cell i e 5 rfl
  have h6 := h.cell i e 6 rfl
  simp only [Nat.zero_add, Nat.add_zero] at h0 h1 h2 h3 h4 h5 h6
  exact ⟨h0, h1, h2, h3, h4, h5, h6⟩

set_option maxRecDepth 100000 in
set_option maxHeartbeats 4000000 in
theorem WaveRefuses_ok (g : Gt) (B : Nat) (A A1 A2 : Option Addr) (c c1 c2 : Nat) (x wr y : List Int) (w : World) (h : Lies w A (ics x)) (h1 : Lies w A1 (ics wr)) (h2 : Lies w A2 (ics y)) (hA : A = none → c = 0) (hA2 : A2 = none → c2 = 0)
    (hl : x.length ≤ 500) (hl1 : wr.length ≤ 500) (hl2 : y.length ≤ 500) (hg : Hid (decide g.ok = true)) (hB : Hid (g.block = B)) (vx : Hid (smp x = true)) (vy : Hid (smp y = true)) (vr : Hid (smp wr = false)) :
    Calls Try.prog 7 #[.slice A x.length c, .slice A1 wr.length c1, .slice A2 y.length c2, gateV g] w fun e w' => e = .returned (.bool true) ∧ Below w.heap.size w w' := by
  obtain ⟨i0, hi0, hz0, hz1, hz2⟩ := info_parts int_info
  obtain ⟨j0, ki0, kz0, kz1, kz2⟩ := info_parts seg_info
  have HI := Lib.hid hi0; have HZ0 := Lib.hid hz0; have HZ1 := Lib.hid hz1; have HZ2 := Lib.hid hz2
  have KI := Lib.hid ki0; have KZ0 := Lib.hid kz0; have KZ1 := Lib.hid kz1; have KZ2 := Lib.hid kz2
  clear hi0 hz0 hz1 hz2 ki0 kz0 kz1 kz2
  have HA := Lib.hid hA
  have HA2 := Lib.hid hA2
  have hgo : Hid g.ok := Lib.hid (by simpa using hg.out)
  have vxy : Hid (smp (x ++ y) = true) := Lib.hid (smp_append vx.out vy.out)
  obtain ⟨out, hout⟩ : ∃ out, segsOf g B (x ++ y) = out := ⟨_, rfl⟩
  have HSG : Hid (∀ A' c' w, Lies w A' (ics (x ++ y)) → (A' = none → c' = 0) → Calls Try.prog 30 #[.slice A' (x.length + y.length) c', gateV g] w (SegRet 0 out w)) := Lib.hid fun A' c' w h hA' => by
    rw [← hout, ← List.length_append]; exact Segments_ok g B A' c' (x ++ y) w h hA' vxy (by simp; omega) hgo hB
  have HO := Lib.hid hout
  clear hA hA2 hout
  have D0 := Lib.hid (((((Led.nil w).add h).add h1).add h2).alloc (.cells #[.int .i64 g.block, .int .i64 g.high, .int .i64 g.low, .int .i64 g.rise, .int .i64 g.fall, .int .i64 g.lead, .int .i64 g.longest] 41) |>.row (heap_alloc_new w _))
  clear h h1 h2
  obtain ⟨g1, g2, g3, g4, g5, g6, g7⟩ := g
  go_enter Try.func7, Try.ntmps7
  go_wp2_with fail
  refine (rGate_any ⟨g1, g2, g3, g4, g5, g6, g7⟩ _ true hg).mono ?_
  rintro e w1 ⟨rfl, hb1⟩
  have D1 := Lib.hid (D0.out.below hb1)
  clear hb1 D0
  have q := row_of_led D1.out 3 w.heap.size ⟨g1, g2, g3, g4, g5, g6, g7⟩ rfl
  obtain ⟨q0, q1, q2, q3, q4, q5, q6⟩ := q
  simp only at q0 q1 q2 q3 q4 q5 q6
  go_wp2_with fail
  refine (All_any A c x _ _ _ (D1.out.lies 0 _ _ rfl) (by omega) true vx).mono ?_
  rintro e w0 ⟨rfl, rfl⟩
  go_wp2_with fail
  refine (All_any A2 c2 y _ _ _ (D1.out.lies 2 _ _ rfl) (by omega) true vy).mono ?_
  rintro e w0 ⟨rfl, rfl⟩
  go_wp2_with fail
  refine (All_any A1 c1 wr _ _ _ (D1.out.lies 1 _ _ rfl) (by omega) false vr).mono ?_
  rintro e w0 ⟨rfl, rfl⟩
  go_wp2_with fail
  refine (Listen_ok ⟨g1, g2, g3, g4, g5, g6, g7⟩ _ hg).mono ?_
  rintro e w2 ⟨p, rfl, hp, hL, hb2⟩
  have D2 := Lib.hid (D1.out.below hb2)
  have F2 := Lib.hid (FedAt.new B hL w2.heap.size)
  have hp2 : p < w2.heap.size := row_lt hL
  clear hb2 hL q0 q1 q2 q3 q4 q5 q6
  go_wp2_with fail
  refine (Feed_fed ⟨g1, g2, g3, g4, g5, g6, g7⟩ p B [] x A c _ w2 F2.out (D2.out.lies 0 _ _ rfl) HA.out (Lib.hid rfl) vx (by simp; omega) hgo hB).mono ?_
  rintro e w3 ⟨o1, O1, oc1, rfl, he1, hown1, hF3, hg3⟩
  simp only [List.nil_append] at he1 hF3
  rw [(Fed_nil _ _).1, List.nil_append] at he1
  have D3 := Lib.hid (D1.out.past D2.out hg3 hp)
  have HK1 := Lib.hid (fun k hk => (hown1.lt k hk).2)
  have F3 := Lib.hid hF3
  have OW1 := Lib.hid hown1
  have E1 := Lib.hid he1
  have hs3 := hg3.size
  clear hF3 hg3 hown1 he1 F2
  go_wp2_with fail
  obtain ⟨Ab, cb, hL3, _⟩ := F3.out
  have HL3 := Lib.hid hL3
  clear hL3
  refine (Feed_arg ⟨g1, g2, g3, g4, g5, g6, g7⟩ _ _ p A1 c1 wr w3 HL3.out (D3.out.lies 1 _ _ rfl) (by omega) vr).mono ?_
  rintro e w0 ⟨rfl, rfl⟩
  clear HL3
  go_wp2_with fail
  refine (Feed_fed ⟨g1, g2, g3, g4, g5, g6, g7⟩ p B x y A2 c2 _ w3 F3.out (D3.out.lies 2 _ _ rfl) HA2.out vx vy (by omega) hgo hB).mono ?_
  rintro e w4 ⟨o2, O2, oc2, rfl, he2, hown2, hF4, hg4⟩
  have D4 := Lib.hid (D1.out.past D3.out hg4 hp)
  have OW1' := Lib.hid (own_kept OW1.out hg4 hp2)
  have F4 := Lib.hid hF4
  have OW2 := Lib.hid hown2
  have E2 := Lib.hid he2
  have hs4 := hg4.size
  clear hF4 hg4 hown2 he2 OW1 F3
  go_wp2_with fail
  refine (Close_fed ⟨g1, g2, g3, g4, g5, g6, g7⟩ p B (x ++ y) _ w4 F4.out (by simp; omega) hgo).mono ?_
  have hl3 := segsOf_fed ⟨g1, g2, g3, g4, g5, g6, g7⟩ B (x ++ y)
  have hl4 := lastOf_len ⟨g1, g2, g3, g4, g5, g6, g7⟩ B (x ++ y)
  have hl5 := segsOf_len ⟨g1, g2, g3, g4, g5, g6, g7⟩ B (x ++ y)
  rw [HO.out, E2.out, E1.out] at hl3
  rw [HO.out] at hl5
  rintro e w5 ⟨O3, oc3, rfl, hown3, _, hg5⟩
  generalize lastOf ⟨g1, g2, g3, g4, g5, g6, g7⟩ B (x ++ y) = o3 at *
  have E3 := Lib.hid hl3
  have hol : out.length = o1.length + o2.length + o3.length := by rw [hl3]; simp; omega
  have HOL := Lib.hid hol
  have hlb : o1.length ≤ 1001 ∧ o2.length ≤ 1001 ∧ o3.length ≤ 1001 ∧ out.length ≤ 1001 := by simp at hl5; omega
  clear hl3 hl5 hol HO E1 E2
  have D5 := Lib.hid (D1.out.past D4.out hg5 hp)
  have OW1 := Lib.hid (own_kept OW1'.out hg5 hp2)
  have OW2' := Lib.hid (own_kept OW2.out hg5 (by omega))
  have OW3 := Lib.hid hown3
  have hs5 := hg5.size
  clear hg5 hown3 OW1' OW2 F4 D4 D3 D2
  go_wp2_with fail
  have HG0 := Lib.hid (row_of_led D5.out 3 w.heap.size ⟨g1, g2, g3, g4, g5, g6, g7⟩ rfl)
  go_cut [11, 12, 14, 15, 16, 17, 18, 19, 20] (fun t11 t12 t14 t15 t16 t17 t18 t19 t20 wx => t11 = .slice O1 o1.length oc1 ∧ t12 = .int .i64 0 ∧ t14 = .int .i64 2 ∧ t15 = .slice O2 o2.length oc2 ∧ t16 = .int .i64 0 ∧ t17 = .slice O3 o3.length oc3 ∧ t18 = .int .i64 0 ∧ ∃ AS cs, t19 = .slice AS out.length cs ∧ t20 = .int .i64 0 ∧ wx.ownsRow w5.heap.size 57 2 (.slice AS out.length cs) out.length (scs out) ∧ Below w5.heap.size w5 wx)
  case first =>
    go_region_held3 (fun w' => w'.cell? ⟨w.heap.size, 0, none⟩ = some (.int .i64 g1) ∧ w'.cell? ⟨w.heap.size, 1, none⟩ = some (.int .i64 g2) ∧ w'.cell? ⟨w.heap.size, 2, none⟩ = some (.int .i64 g3) ∧ w'.cell? ⟨w.heap.size, 3, none⟩ = some (.int .i64 g4) ∧ w'.cell? ⟨w.heap.size, 4, none⟩ = some (.int .i64 g5) ∧ w'.cell? ⟨w.heap.size, 5, none⟩ = some (.int .i64 g6) ∧ w'.cell? ⟨w.heap.size, 6, none⟩ = some (.int .i64 g7))
      (first | exact HG0.out | exact HG1.out | exact HG2.out | exact HG3.out)
      (first
        | (refine step_append_src _ (by rfl) (.const (.slice none 0 0)) (.tmp 89) _ (by rfl) w5.heap.size 3 i0 _ 1 8 Try.underlying22 HI.out HZ0.out HZ1.out HZ2.out rfl (by omega) (.slice none 0 0) 0 [] (by rfl) (World.ownsRow_nil _ _ _ _) A x.length c (ics x) (by rfl) HA.out ((D5.out.lies 0 _ _ rfl).drew) (by simp) (ics_one _) (by unfold maxLen; omega) (by omega) (Nat.le_refl _) x.length (Nat.zero_add _) ?_; intro Aa ca wa howna hgra hata; simp only [List.nil_append] at howna; have Da := Lib.hid (D5.out.drew.below (below_none hgra)); have HG1 := Lib.hid (row_of_led Da.out 3 w.heap.size ⟨g1, g2, g3, g4, g5, g6, g7⟩ rfl))
        | (refine step_append_src _ (by rfl) (.tmp 90) (.tmp 91) _ (by rfl) w5.heap.size 3 i0 _ 1 8 Try.underlying22 HI.out HZ0.out HZ1.out HZ2.out rfl (by omega) (.slice Aa x.length ca) x.length (ics x) (by rfl) howna A2 y.length c2 (ics y) (by rfl) HA2.out (Da.out.lies 2 _ _ rfl) (by simp) (ics_one _) (by unfold maxLen; omega) (by omega) hgra.size (x.length + y.length) rfl ?_; intro Ab cb wb hownb hgrb hatb; have hbb : Below w5.drew.heap.size w5.drew wb := (below_none hgra).grown hgrb hgra.size (fun k hk => (howna.lt k hk).1); have Db := Lib.hid (D5.out.drew.below hbb); have HG2 := Lib.hid (row_of_led Db.out 3 w.heap.size ⟨g1, g2, g3, g4, g5, g6, g7⟩ rfl); have LB : Hid (Lies wb Ab (ics (x ++ y))) := Lib.hid (by have := Lies.of_own hownb; simpa [ics] using this); have NB := Lib.hid (own_none hownb))
        | (go_at_call 30; refine (HSG.out _ _ _ LB.out NB.out).mono ?_; rintro e wc ⟨AS, cs, rfl, hoc, hbc⟩; have Dc := Lib.hid (Db.out.below hbc); have HG3 := Lib.hid (row_of_led Dc.out 3 w.heap.size ⟨g1, g2, g3, g4, g5, g6, g7⟩ rfl)))
    go_wp2_with fail
    go_meet
    exact ⟨rfl, rfl, rfl, rfl, rfl, rfl, rfl, AS, cs, rfl, rfl, ownsRow_le hoc hbb.size, below_undrew (hbb.trans (hbc.mono hbb.size))⟩
  case rest =>
    obtain ⟨rfl, rfl, rfl, rfl, rfl, rfl, rfl, AS, cs, rfl, rfl, OWS, BX⟩ := hcut
    rename_i wx
    have OX1 := Lib.hid (own_below OW1.out BX)
    have LX2 := Lib.hid ((Lies.of_own OW2'.out).below BX)
    have NX2 := Lib.hid (own_none OW2'.out)
    have OX3 := Lib.hid (own_below OW3.out BX)
    have NX3 := Lib.hid (own_none OW3.out)
    have K3 := Lib.hid OW3.out.lt
    have DX := Lib.hid (D5.out.bel.trans (BX.mono D5.out.bel.size))
    have HS := Lib.hid OWS
    have hsx := BX.size
    have hsd := D1.out.bel.size
    clear OWS BX D5 OW1 OW2' OW3 HG0 HSG D1
    go_wp2_with (first
      | (at_builtin; refine wpList_append_src2 rfl (.tmp 120) (.tmp 121) _ rfl w2.heap.size 57 j0 _ 2 16 Try.underlying42 KI.out KZ0.out KZ1.out KZ2.out rfl (by omega) (.slice O1 o1.length oc1) o1.length (scs o1) rfl OX1.out O2 o2.length oc2 (scs o2) rfl NX2.out LX2.out (scs_length _) (scs_one _) (by unfold maxLen; omega) (by omega) (by omega) ?_; intro Od cd wd hownd hgrd hatd; have OD3 := Lib.hid (own_apart OX3.out hgrd (fun k h1 h2 => by have := HK1.out k h2; have := (K3.out k h1).1; omega)); have ODS := Lib.hid (own_apart HS.out hgrd (fun k h1 h2 => by have := HK1.out k h2; have := (HS.out.lt k h1).1; omega)))
      | (at_builtin; refine wpList_append_src2 rfl (.tmp 122) (.tmp 123) _ rfl w2.heap.size 57 j0 _ 2 16 Try.underlying42 KI.out KZ0.out KZ1.out KZ2.out rfl (by omega) (.slice Od (o1.length + o2.length) cd) (o1.length + o2.length) (scs o1 ++ scs o2) rfl hownd O3 o3.length oc3 (scs o3) rfl NX3.out (Lies.of_own OD3.out) (scs_length _) (scs_one _) (by unfold maxLen; omega) (by omega) (by have := hgrd.size; omega) ?_; intro Oe ce we howne hgre _; have OES := Lib.hid (own_apart ODS.out hgre (fun k h1 h2 => by
          have h3 := HS.out.lt k h1
          rcases hatd with h4 | h4
          · rw [h4] at h2; have := HK1.out k h2; omega
          · rw [h4] at h2; injection h2 with h2; omega)); have LE : Hid (Lies we Oe (scs out)) := Lib.hid (by have := Lies.of_own howne; rw [E3.out, scs_append, scs_append]; exact this)))
    rw [← HOL.out]
    have BE : Hid (Below w.heap.size w we) := Lib.hid ((DX.out.grown hgrd (by omega) (fun k hk => by have := (OX1.out.lt k hk).1; omega)).grown hgre (by have := hgrd.size; omega) (fun k hk => by have := (hownd.lt k hk).1; omega))
    refine (sames_bel Oe AS ce cs out out _ LE.out (Lies.of_own OES.out) (by omega) (by omega) true (Lib.hid (by simp))).mono ?_
    rintro e w6 ⟨rfl, hb6⟩
    have B6 := Lib.hid (bel_trans BE.out hb6)
    clear hb6
    go_wp2_with fail
    refine (known2_any _).mono ?_
    rintro e w7 ⟨rfl, hb7⟩
    go_wp2_with fail
    go_ret
    exact ⟨rfl, bel_trans B6.out hb7⟩

theorem WaveRefuses_any (g : Gt) (A A1 A2 : Option Addr) (c c1 c2 : Nat) (x wr y : List Int) (w : World) (h : Lies w A (ics x)) (h1 : Lies w A1 (ics wr)) (h2 : Lies w A2 (ics y)) (hA : A = none → c = 0) (hA2 : A2 = none → c2 = 0) :
    Calls Try.prog 7 #[.slice A x.length c, .slice A1 wr.length c1, .slice A2 y.length c2, gateV g] w fun e w' => e = .returned (.bool true) ∧ Below w.heap.size w w' := by
  by_cases l1 : 500 < x.length
  · exact WaveRefuses_no g A A1 A2 c c1 c2 x wr y w h h1 h2 (.inl l1)
  by_cases l2 : 500 < wr.length
  · exact WaveRefuses_no g A A1 A2 c c1 c2 x wr y w h h1 h2 (.inr (.inl ⟨by omega, l2⟩))
  by_cases l3 : 500 < y.length
  · exact WaveRefuses_no g A A1 A2 c c1 c2 x wr y w h h1 h2 (.inr (.inr (.inl ⟨by omega, by omega, l3⟩)))
  cases hg : decide g.ok with
  | false => exact WaveRefuses_no g A A1 A2 c c1 c2 x wr y w h h1 h2 (.inr (.inr (.inr ⟨by omega, by omega, by omega, .inl (Lib.hid hg)⟩)))
  | true =>
    cases vx : smp x with
    | false => exact WaveRefuses_no g A A1 A2 c c1 c2 x wr y w h h1 h2 (.inr (.inr (.inr ⟨by omega, by omega, by omega, .inr ⟨Lib.hid hg, .inl (Lib.hid vx)⟩⟩)))
    | true =>
      cases vy : smp y with
      | false => exact WaveRefuses_no g A A1 A2 c c1 c2 x wr y w h h1 h2 (.inr (.inr (.inr ⟨by omega, by omega, by omega, .inr ⟨Lib.hid hg, .inr ⟨Lib.hid vx, .inl (Lib.hid vy)⟩⟩⟩)))
      | true =>
        cases vr : smp wr with
        | true => exact WaveRefuses_no g A A1 A2 c c1 c2 x wr y w h h1 h2 (.inr (.inr (.inr ⟨by omega, by omega, by omega, .inr ⟨Lib.hid hg, .inr ⟨Lib.hid vx, .inr ⟨Lib.hid vy, Lib.hid vr⟩⟩⟩⟩)))
        | false =>
          have hgo : g.ok := by simpa using hg
          obtain ⟨B, hB⟩ := Int.eq_ofNat_of_zero_le (show 0 ≤ g.block by have := hgo.1; omega)
          exact WaveRefuses_ok g B A A1 A2 c c1 c2 x wr y w h h1 h2 hA hA2 (by omega) (by omega) (by omega) (Lib.hid hg) (Lib.hid hB) (Lib.hid vx) (Lib.hid vy) (Lib.hid vr)
end Go.Proofs.Ytnhkngmdjomfjaa
