/- (*Listener).Feed where nothing is refused -/
import Derived.Test.YtnflpnbpigcfhaaSrc
namespace Go.Proofs.Ytnflpnbpigcfhaa
open Go.RowKit Ear

attribute [local go_sem ↓] Go.wp_at_zero Go.wp_at_succ

/-- one call of process, whatever the state -/
theorem process_any (g : Gt) (s : Ls) (bl : Value) (p : Nat) (A : Option Addr) (c : Nat) (l : List Int) (w : World) (hL : Lsn w p g s bl) (h : Lies w A (ics l)) (hv : Hid (smp l = true)) (hl : l.length ≤ 4096)
    (hg : g.ok) (hi : s.Inv) (b2 : s.blocks ≤ 3000000000) (sg : Int × Int) (en : Bool) (hsg : Hid ((s.step g (enr l)).2 = (if en = true then some sg else none) ∧ (en = false → sg = (0, 0)))) :
    Calls Try.prog 39 #[.pointer (some ⟨p, 0, none⟩), .slice A l.length c] w fun e w' => e = .returned (.tuple #[.agg #[.int .i64 sg.1, .int .i64 sg.2], .bool en]) ∧ Lsn w' p g (s.step g (enr l)).1 bl ∧ w.grownBy w' (some p) := by
  obtain ⟨h1, h2, h3, h4, h5, h6, h7⟩ := hi
  rcases h1 with h1 | h1
  · have := Ls.step_wait_none (g := g) (n := enr l) h1
    have hs := hsg.out
    rw [this] at hs
    cases en with
    | true => simp at hs
    | false =>
      obtain rfl := hs.2 rfl
      exact process_wait g s bl p A c l w hL h hv hl hg h1 (by omega) b2 h2 (by omega) h4 (by omega)
  · exact process_speech g s bl p A c l w hL h hv hl hg h1 (by omega) b2 h2 (by omega) h6 (by omega) sg en hsg

theorem smp_len_take {l : List Int} {k B : Nat} (h : k * B + B ≤ l.length) : ((l.drop (k * B)).take B).length = B := by simp; omega

/-- what Feed leaves: the blocks of what was left and of what came are taken one by one; the rest stays -/
def FeedPost (p : Nat) (g : Gt) (B : Nat) (s : Ls) (bk x : List Int) (w : World) (e : Ending) (w' : World) : Prop :=
  ∃ A1 c1, SegsErr p g (stp g B { s with samples := s.samples + x.length } (bk ++ x) ((bk ++ x).length / B)).1 (.slice A1 ((bk ++ x).drop ((bk ++ x).length / B * B)).length c1) 0 (stp g B { s with samples := s.samples + x.length } (bk ++ x) ((bk ++ x).length / B)).2 w e w' ∧
      Lies w' A1 (ics ((bk ++ x).drop ((bk ++ x).length / B * B))) ∧ (A1 = none → c1 = 0) ∧ ∀ b off, A1 = some ⟨b, off, none⟩ → w.heap.size ≤ b

def sliceLen : Value → Nat | .slice _ n _ => n | _ => 0
/-- between two rounds, k blocks having been taken -/
def FeedRel (w W : World) (p : Nat) (g : Gt) (s : Ls) (bl : Value) (B : Nat) (all : List Int) (o r : Value) (wr : World) : Prop :=
  ∃ k : Nat, k * B ≤ all.length ∧ ∃ A3 c3 O oc, r = .slice A3 (all.length - k * B) c3 ∧ all.length - k * B ≤ c3 ∧ (A3 = none → c3 = 0) ∧ (∀ b off, A3 = some ⟨b, off, none⟩ → w.heap.size ≤ b ∧ b < W.heap.size) ∧ Lies wr A3 (ics (all.drop (k * B))) ∧
    o = .slice O (stp g B s all k).2.length oc ∧ wr.ownsRow W.heap.size 51 2 (.slice O (stp g B s all k).2.length oc) (stp g B s all k).2.length (scs (stp g B s all k).2) ∧ Lsn wr p g (stp g B s all k).1 bl ∧ w.grownBy wr (some p) ∧ W.heap.size ≤ wr.heap.size

theorem FeedRel.next {w W : World} {p : Nat} {g : Gt} {s : Ls} {bl : Value} {B : Nat} {all : List Int} {k n1 : Nat} {st' : Ls} {sgs' : List (Int × Int)} (hk : k * B ≤ all.length) (hn1 : all.length - k * B = n1) (hge : B ≤ n1)
    (hst : stp g B s all (k + 1) = (st', sgs')) (A3 : Option Addr) (c3 : Nat) (O : Option Addr) (oc : Nat) (wr : World) (h1 : n1 - B ≤ c3) (h2 : A3 = none → c3 = 0) (h3 : ∀ b off, A3 = some ⟨b, off, none⟩ → w.heap.size ≤ b ∧ b < W.heap.size) (h4 : Lies wr A3 (ics ((all.drop (k * B)).drop B)))
    (h5 : wr.ownsRow W.heap.size 51 2 (.slice O sgs'.length oc) sgs'.length (scs sgs')) (h6 : Lsn wr p g st' bl) (h7 : w.grownBy wr (some p)) (h8 : W.heap.size ≤ wr.heap.size) :
    FeedRel w W p g s bl B all (.slice O sgs'.length oc) (.slice A3 (n1 - B) c3) wr := by
  have e1 : (k + 1) * B = k * B + B := by rw [Nat.add_mul, Nat.one_mul]
  refine ⟨k + 1, by omega, A3, c3, O, oc, by rw [show all.length - (k + 1) * B = n1 - B by omega], by omega, h2, h3, ?_, by rw [hst], by rw [hst]; exact h5, by rw [hst]; exact h6, h7, h8⟩
  rw [List.drop_drop] at h4
  rw [e1]
  exact h4
theorem own_kept {w w' : World} {base p : Nat} {e : TypeId} {size n : Nat} {v : Value} {xs : List Value} (h : w.ownsRow base e size v n xs) (hg : w.grownBy w' (some p)) (hp : p < base) : w'.ownsRow base e size v n xs :=
  h.kept hg (.inr (fun e => by have := (h.lt p e).1; omega))
theorem only_only {a b c : World} {p : Nat} (h : a.grownBy b (some p)) (k : b.grownBy c (some p)) : a.grownBy c (some p) :=
  ⟨k.os.trans h.os, k.tape.trans h.tape, k.output.trans h.output, Nat.le_trans h.size k.size, fun i hi hne => (k.block i (Nat.lt_of_lt_of_le hi h.size) hne).trans (h.block i hi hne)⟩

set_option maxRecDepth 100000 in
set_option maxHeartbeats 2000000 in
theorem Feed_ok (g : Gt) (s : Ls) (p : Nat) (A0 : Option Addr) (c0 : Nat) (bk : List Int) (A : Option Addr) (c : Nat) (x : List Int) (B : Nat) (w : World) (hL : Lsn w p g s (.slice A0 bk.length c0)) (hb : Lies w A0 (ics bk)) (hA0 : A0 = none → c0 = 0)
    (h : Lies w A (ics x)) (hA : A = none → c = 0) (hvb : Hid (smp bk = true)) (hv : Hid (smp x = true)) (hl : x.length ≤ 200000) (hbl : bk.length ≤ 4096)
    (hg : Hid g.ok) (hB : Hid (g.block = B)) (hB1 : 1 ≤ B) (hB2 : B ≤ 4096) (hi : Hid s.Inv) (hsm : s.samples + x.length ≤ 2147483648) (hs0 : 0 ≤ s.samples) (hsb : s.blocks ≤ s.samples) :
    Calls Try.prog 28 #[.pointer (some ⟨p, 0, none⟩), .slice A x.length c] w (FeedPost p g B s bk x w) := by
  obtain ⟨i0, hi0, hz0, hz1, hz2⟩ := info_parts int_info
  have HI := Lib.hid hi0; have HZ0 := Lib.hid hz0; have HZ1 := Lib.hid hz1; have HZ2 := Lib.hid hz2
  clear hi0 hz0 hz1 hz2
  obtain ⟨j0, hi0, hz0, hz1, hz2⟩ := info_parts seg_info
  have KI := Lib.hid hi0; have KZ0 := Lib.hid hz0; have KZ1 := Lib.hid hz1; have KZ2 := Lib.hid hz2
  clear hi0 hz0 hz1 hz2
  obtain ⟨s1, s2, s3, s4, s5, s6⟩ := s
  obtain ⟨g1, g2, g3, g4, g5, g6, g7⟩ := g
  simp only at hsm hs0 hsb
  have hB' : g1 = B := hB.out
  subst hB'
  have hst : s1 = 0 ∨ s1 = 1 := hi.out.1
  have e8 : (s1 == 2) = false := by simp; omega
  have e9 : decide (2147483648 < s3 + (x.length : Int)) = false := by simp; omega
  have e10 : decide ((200000 : Int) < x.length) = false := by simp; omega
  have c7 : w.cell? ⟨p, 7, none⟩ = some (.bool true) := cell_of_row w p 7 _ _ _ hL
  have c8 : w.cell? ⟨p, 8, none⟩ = some (.int .i64 s1) := cell_of_row w p 8 _ _ _ hL
  have c9 : w.cell? ⟨p, 9, none⟩ = some (.slice A0 bk.length c0) := cell_of_row w p 9 _ _ _ hL
  have c11 : w.cell? ⟨p, 11, none⟩ = some (.int .i64 s3) := cell_of_row w p 11 _ _ _ hL
  have hp := row_lt hL
  have HL := Lib.hid hL
  have HA0 := Lib.hid hA0
  have HA := Lib.hid hA
  clear hL hA0 hA hst
  go_enter Try.func28, Try.ntmps28
  go_wp2_with (first
    | (go_at_call 38; refine (usable_yes p _ c7).mono ?_; rintro e w' ⟨rfl, rfl⟩)
    | (go_at_call 33; refine (samples_any A c x _ h (by omega) true hv).mono ?_; rintro e w' ⟨rfl, rfl⟩)
    | (at_builtin; refine wpList_append_src rfl (.const (.slice none 0 0)) (.tmp 40) _ rfl w.heap.size 3 i0 _ 1 8 Try.underlying22 HI.out HZ0.out HZ1.out HZ2.out rfl (by omega) (.slice none 0 0) 0 [] rfl (World.ownsRow_nil _ _ _ _) A0 bk.length c0 (ics bk) rfl HA0.out hb (by simp) (ics_one _) (by unfold maxLen; omega) (by omega) (Nat.le_refl _) ?_; intro A1 c1 w1 hown1 hgr1; simp only [Nat.zero_add, List.nil_append] at hown1)
    | (at_builtin; refine wpList_append_src rfl (.tmp 41) (.tmp 42) _ rfl w.heap.size 3 i0 _ 1 8 Try.underlying22 HI.out HZ0.out HZ1.out HZ2.out rfl (by omega) (.slice A1 bk.length c1) bk.length (ics bk) rfl hown1 A x.length c (ics x) rfl HA.out (h.grown hgr1 (by simp [Value.ownBlock])) (by simp) (ics_one _) (by unfold maxLen; omega) (by omega) hgr1.size ?_; intro A2 c2 w2 hown2 hgr2; have hbw : Below w.heap.size w w2 := ((Below.refl _ _).grown hgr1 (Nat.le_refl _) (by simp [Value.ownBlock])).grown hgr2 hgr1.size (fun k hk => (hown1.lt k hk).1); have q11 : w2.cell? ⟨p, 11, none⟩ = some (.int .i64 s3) := (hbw.cell (p := ⟨p, 11, none⟩) hp).trans c11; have qf : w2.frozen? ⟨p, 11, none⟩ = false := (hbw.frozen (p := ⟨p, 11, none⟩) hp).trans (row_frozen HL.out 11)))
  clear e8 e9 e10 c7 c8 c9 c11
  obtain ⟨W, hW⟩ : ∃ W : World, W = w2.setCell ⟨p, 11, none⟩ (.int .i64 (s3 + (x.length : Int))) := ⟨_, rfl⟩
  rw [← hW]
  generalize hall : bk ++ x = all at *
  have hallc : ics bk ++ ics x = ics all := by rw [← hall]; simp [ics]
  have halen : bk.length + x.length = all.length := by rw [← hall]; simp
  have hvall : Hid (smp all = true) := by rw [← hall]; exact smp_append hvb.out hv.out
  rw [halen, hallc] at hown2
  rw [halen]
  have hs3 : s3 ≤ 2147483648 := by omega
  generalize hsx : s3 + (x.length : Int) = s3' at *
  have k1 : Lsn W p ⟨B, g2, g3, g4, g5, g6, g7⟩ ⟨s1, s2, s3', s4, s5, s6⟩ (.slice A0 bk.length c0) := by
    rw [hW]; exact row_set ((hbw.block p hp).trans HL.out) 11 _
  have k4 : w.grownBy W (some p) := by
    rw [hW]; exact only_set ⟨hbw.os, hbw.tape, hbw.output, hbw.size, fun i hi _ => hbw.block i hi⟩ (.inl rfl) _
  have k5 : W.ownsRow w.heap.size 3 1 (.slice A2 all.length c2) all.length (ics all) := by
    rw [hW]; exact ownsRow_far hown2 (by exact hp) _
  clear hW hown1 hgr1 hown2 hgr2 hbw q11 qf HL HA0 HA
  have hi0 : Hid (Ls.Inv ⟨s1, s2, s3', s4, s5, s6⟩) := hi.out
  have ha0 : all.length ≤ 204096 := by omega
  have HSX := Lib.hid hsx
  have HAL := Lib.hid hall
  clear hsx hall hallc halen hb h hi
  go_loopw [6, 7, 8, 9] (fun o r _ _ wr => FeedRel w W p ⟨B, g2, g3, g4, g5, g6, g7⟩ ⟨s1, s2, s3', s4, s5, s6⟩ (.slice A0 bk.length c0) B all o r wr) (fun _ r _ _ _ => sliceLen r)
  case atStart =>
    refine ⟨0, by omega, A2, c2, none, 0, by simp, ?_, ?_, ?_, by simpa using Lies.of_own k5, rfl, World.ownsRow_nil _ _ _ _, k1, k4, Nat.le_refl _⟩
    · rcases k5.2 with ⟨e1, e2⟩ | ⟨gg, cap, cur, e1, _, _, e2, _⟩
      · injection e1 with _ e3 _; omega
      · injection e1 with _ _ e3; omega
    · intro e; subst e
      rcases k5.2 with ⟨e1, e2⟩ | ⟨gg, cap, cur, e1, _, _, e2, _⟩
      · injection e1
      · injection e1 with e3 _ _; cases e3
    · intro b off e; subst e
      exact k5.lt b rfl
  case round =>
    obtain ⟨k, hk, A3, c3, O, oc, rfl, r1, r2, r3, r4, rfl, r5, r6, r7, r8⟩ := hrel
    have hsi := stp_inv (B := B) (all := all) hg.out hi0.out k
    have hsl := stp_len ⟨B, g2, g3, g4, g5, g6, g7⟩ B ⟨s1, s2, s3', s4, s5, s6⟩ all k
    have hkb : k ≤ 204096 := by
      have := Nat.mul_le_mul_left k hB1
      omega
    have q0 : wr.cell? ⟨p, 0, none⟩ = some (.int .i64 B) := cell_of_row wr p 0 _ _ _ r6
    have HSTP : Hid (∀ n, stp ⟨B, g2, g3, g4, g5, g6, g7⟩ B ⟨s1, s2, s3', s4, s5, s6⟩ all (n + 1) = (((stp ⟨B, g2, g3, g4, g5, g6, g7⟩ B ⟨s1, s2, s3', s4, s5, s6⟩ all n).1.step ⟨B, g2, g3, g4, g5, g6, g7⟩ (enr ((all.drop (n * B)).take B))).1, (stp ⟨B, g2, g3, g4, g5, g6, g7⟩ B ⟨s1, s2, s3', s4, s5, s6⟩ all n).2 ++ ((stp ⟨B, g2, g3, g4, g5, g6, g7⟩ B ⟨s1, s2, s3', s4, s5, s6⟩ all n).1.step ⟨B, g2, g3, g4, g5, g6, g7⟩ (enr ((all.drop (n * B)).take B))).2.toList)) := fun n => rfl
    have HST1 := Lib.hid (HSTP.out k)
    clear HSTP
    generalize hn1 : all.length - k * B = n1 at *
    by_cases hge : B ≤ n1
    · obtain ⟨st, hst⟩ : ∃ st, (stp ⟨B, g2, g3, g4, g5, g6, g7⟩ B ⟨s1, s2, s3', s4, s5, s6⟩ all k).1 = st := ⟨_, rfl⟩
      obtain ⟨sgs, hsgs⟩ : ∃ sgs, (stp ⟨B, g2, g3, g4, g5, g6, g7⟩ B ⟨s1, s2, s3', s4, s5, s6⟩ all k).2 = sgs := ⟨_, rfl⟩
      have hstk : stp ⟨B, g2, g3, g4, g5, g6, g7⟩ B ⟨s1, s2, s3', s4, s5, s6⟩ all k = (st, sgs) := by rw [← hst, ← hsgs]
      have HST2 := HST1.out
      rw [hstk] at HST2
      rw [hst] at r6 hsi
      rw [hsgs] at r5 hsl ⊢
      have HST := Lib.hid HST2
      clear HST2 HST1 hst hsgs
      have hblen : ((all.drop (k * B)).take B).length = B := smp_len_take (by omega)
      have hbv : Hid (smp ((all.drop (k * B)).take B) = true) := smp_take (smp_drop hvall.out _) _
      obtain ⟨b3, o3, rfl, hb3, _⟩ := r4 (by simp; omega)
      have hb3' := r3 b3 o3 rfl
      have hLk := r4.take B
      have hicst : (ics (all.drop (k * B))).take B = ics ((all.drop (k * B)).take B) := by simp [ics, List.map_take]
      rw [hicst] at hLk
      have HD := Lib.hid (r4.drop B)
      generalize hblk : (all.drop (k * B)).take B = blk at *
      obtain ⟨sg, en, hse⟩ : ∃ (sg : Int × Int) (en : Bool), (st.step ⟨B, g2, g3, g4, g5, g6, g7⟩ (enr blk)).2 = (if en = true then some sg else none) ∧ (en = false → sg = (0, 0)) := by
        cases h2 : (st.step ⟨B, g2, g3, g4, g5, g6, g7⟩ (enr blk)).2 with
        | none => exact ⟨(0, 0), false, by simp, fun _ => rfl⟩
        | some q => exact ⟨q, true, by simp, by simp⟩
      have HSE := Lib.hid hse
      clear hse hicst
      have hPr : ∀ W' : World, Lsn W' p ⟨B, g2, g3, g4, g5, g6, g7⟩ st (.slice A0 bk.length c0) → Lies W' (some ⟨b3, o3, none⟩) (ics blk) → Calls Try.prog 39 #[.pointer (some ⟨p, 0, none⟩), .slice (some ⟨b3, o3, none⟩) B B] W' fun e w' => e = .returned (.tuple #[.agg #[.int .i64 sg.1, .int .i64 sg.2], .bool en]) ∧ Lsn w' p ⟨B, g2, g3, g4, g5, g6, g7⟩ (st.step ⟨B, g2, g3, g4, g5, g6, g7⟩ (enr blk)).1 (.slice A0 bk.length c0) ∧ W'.grownBy w' (some p) := by
        intro W' h1 h2
        have := process_any ⟨B, g2, g3, g4, g5, g6, g7⟩ st (.slice A0 bk.length c0) p (some ⟨b3, o3, none⟩) B blk W' h1 h2 hbv (by omega) hg.out hsi.1 (by have := hsi.2.1; simp only at this; omega) sg en HSE
        rw [hblen] at this
        exact this
      have HPR := Lib.hid hPr
      have HBL := Lib.hid hblen
      have HBK := Lib.hid hblk
      have HSI := Lib.hid hsi
      have HR6 := Lib.hid r6
      have hpr := row_lt r6
      generalize hst' : (st.step ⟨B, g2, g3, g4, g5, g6, g7⟩ (enr blk)).1 = st' at *
      have HST' := Lib.hid hst'
      have HN1 := Lib.hid hn1
      clear hPr hblen hblk hsi r6 hst' hn1 HPR
      have HPR : Hid (∀ W' : World, Lsn W' p ⟨B, g2, g3, g4, g5, g6, g7⟩ st (.slice A0 bk.length c0) → Lies W' (some ⟨b3, o3, none⟩) (ics blk) → Calls Try.prog 39 #[.pointer (some ⟨p, 0, none⟩), .slice (some ⟨b3, o3, none⟩) B B] W' fun e w' => e = .returned (.tuple #[.agg #[.int .i64 sg.1, .int .i64 sg.2], .bool en]) ∧ Lsn w' p ⟨B, g2, g3, g4, g5, g6, g7⟩ st' (.slice A0 bk.length c0) ∧ W'.grownBy w' (some p)) := by
        intro W' h1 h2
        have := process_any ⟨B, g2, g3, g4, g5, g6, g7⟩ st (.slice A0 bk.length c0) p (some ⟨b3, o3, none⟩) B blk W' h1 h2 hbv (by have := HBL.out; omega) hg.out HSI.out.1 (by have := HSI.out.2.1; simp only at this; omega) sg en HSE
        rw [HBL.out, HST'.out] at this
        exact this
      have i1 : (0 : Int) ≤ (B : Int) := by omega
      have i2 : (B : Int) ≤ (n1 : Int) := by omega
      have i3 : (B : Int) ≤ (c3 : Int) := by omega
      have i4 : B ≤ c3 := by omega
      go_upto_region 15 with (fail)
      go_cut [8, 9] (fun t8 t9 wx => ∃ q : Nat, t8 = .pointer (some ⟨q, 0, none⟩) ∧ t9 = .bool en ∧ wx.heap[q]? = some (.cells #[.int .i64 sg.1, .int .i64 sg.2] 51 (0, 0)) ∧ Lsn wx p ⟨B, g2, g3, g4, g5, g6, g7⟩ st' (.slice A0 bk.length c0) ∧ wr.grownBy wx (some p) ∧ wr.heap.size ≤ q)
      case first =>
        go_region_held3 (fun w' => w'.cell? ⟨p, 0, none⟩ = some (.int .i64 B)) (first | assumption | simp [go_sem, World.cell?_alloc_past, *])
          (first | (go_at_call 39; refine (HPR.out _ ?_ ?_).mono ?_; (first | exact HR6.out | exact (Below.heap_alloc wr _ p hpr).trans HR6.out); (first | exact hLk.drew | exact (hLk.alloc _).drew); rintro e wp ⟨rfl, hp1, hp2⟩; have hS2 : wp.cell? ⟨p, 0, none⟩ = some (.int .i64 B) := cell_of_row wp p 0 _ _ _ hp1; have hpw : p < wp.heap.size := row_lt hp1; (first | (have hq : wp.heap[wr.heap.size]? = some (.cells #[.int .i64 0, .int .i64 0] 51 (0, 0)) := (hp2.block wr.heap.size (by simp) (fun e => by have := Option.some.inj e; omega)).trans (heap_alloc_new wr _); have hq0 := cell_of_row wp _ 0 _ _ _ hq; have hq1 := cell_of_row wp _ 1 _ _ _ hq; simp at hq0 hq1; have hqf0 := row_frozen hq 0; have hqf1 := row_frozen hq 1; have hqh := Lib.hid hq; clear hq) | skip)))
        · go_wp2_with fail
          go_meet
          have hp2' : wr.grownBy wp (some p) := ⟨hp2.os, hp2.tape, hp2.output, hp2.size, hp2.block⟩
          exact ⟨wp.heap.size, rfl, rfl, heap_alloc_new wp _, (Below.heap_alloc wp _ p hpw).trans hp1, only_alloc hp2' _, hp2.size⟩
        · go_wp2_with fail
          go_meet
          have hs9 := hp2.size
          simp at hs9
          have hp2' : wr.grownBy wp (some p) := ⟨hp2.os, hp2.tape, hp2.output, by omega, fun i hi hne => (hp2.block i (by simp; omega) hne).trans (Below.heap_alloc wr _ i hi)⟩
          have hne : p ≠ wr.heap.size := by omega
          exact ⟨wr.heap.size, rfl, rfl, row_set (row_set hqh.out 0 _) 1 _, (Below.heap_setCell _ _ _ _ hne).trans ((Below.heap_setCell _ _ _ _ hne).trans hp1), only_set (only_set hp2' (.inr (Nat.le_refl _)) _) (.inr (Nat.le_refl _)) _, Nat.le_refl _⟩
      case rest =>
        obtain ⟨q, rfl, rfl, x1, x2, x3, x4⟩ := hcut
        have y0 : wc.cell? ⟨p, 0, none⟩ = some (.int .i64 B) := cell_of_row wc p 0 _ _ _ x2
        have z0 : wc.cell? ⟨q, 0, none⟩ = some (.int .i64 sg.1) := cell_of_row wc q 0 _ _ _ x1
        have z1 : wc.cell? ⟨q, 1, none⟩ = some (.int .i64 sg.2) := cell_of_row wc q 1 _ _ _ x1
        have hpc := row_lt x2
        have X1 := Lib.hid x1
        have X2 := Lib.hid x2
        clear x1 x2
        have HLC : Hid (Lies wc (some ⟨b3, o3, none⟩) (ics (all.drop (k * B)))) := r4.grown x3 (fun b off e => by cases e; intro e2; have := Option.some.inj e2; omega)
        have hs2 := x3.size
        have hpW : p < W.heap.size := Nat.lt_of_lt_of_le hp k4.size
        have hown := own_kept r5 x3 hpW
        have hgrw := only_only r7 x3
        cases en with
        | false =>
          have hstn : Hid (stp ⟨B, g2, g3, g4, g5, g6, g7⟩ B ⟨s1, s2, s3', s4, s5, s6⟩ all (k + 1) = (st', sgs)) := by
            have h1 := HST.out
            have h2 := HSE.out.1
            simp only at h1
            rw [h2] at h1
            simp at h1
            exact h1
          by_cases hcc : c3 = B
          · go_wp2_with fail
            refine ⟨FeedRel.next hk HN1.out hge hstn.out _ _ _ _ _ (by omega) (fun e => by cases e) (fun b off e => by cases e; exact hb3') ?_ hown X2.out hgrw (by omega), by simp only [sliceLen]; omega⟩
            rw [List.drop_eq_nil_of_le (by rw [List.length_drop]; have := HN1.out; omega)]
            exact Lies.nil _ _
          · go_wp2_with fail
            refine ⟨FeedRel.next hk HN1.out hge hstn.out _ _ _ _ _ (by omega) (fun e => by cases e) (fun b off e => by cases e; exact hb3') ?_ hown X2.out hgrw (by omega), by simp only [sliceLen]; omega⟩
            have := HLC.out.drop B
            simpa [ics, List.map_drop] using this
        | true =>
          have hstn : Hid (stp ⟨B, g2, g3, g4, g5, g6, g7⟩ B ⟨s1, s2, s3', s4, s5, s6⟩ all (k + 1) = (st', sgs ++ [sg])) := by
            have h1 := HST.out
            have h2 := HSE.out.1
            simp only at h1
            rw [h2] at h1
            simp at h1
            exact h1
          by_cases hcc : c3 = B
          all_goals
            go_wp2_with (at_builtin; refine wpList_append_own_at _ rfl (.tmp 79) (.tmp 81) _ rfl W.heap.size 51 j0 _ 2 16 Try.underlying43 KI.out KZ0.out KZ1.out KZ2.out rfl (by omega) (.slice O sgs.length oc) sgs.length (scs sgs) rfl (hown.alloc _) ⟨wc.heap.size, 0, none⟩ 1 1 [.int .i64 sg.1, .int .i64 sg.2] rfl rfl (World.news_of_block (cs := #[.int .i64 sg.1, .int .i64 sg.2]) (t := 51) (fr := (0, 0)) (heap_alloc_new wc _)) (by simp [Value.oneCell']) (by unfold maxLen; omega) (by omega) (by simp; omega) ?_; intro v' w5 hown5 hgr5 _ hat5; have y5 : w5.cell? ⟨p, 0, none⟩ = some (.int .i64 B) := (hgr5.cell_far ⟨p, 0, none⟩ (by simp; omega) (fun e => by have := (hown.lt p e.symm).1; omega)).trans ((World.cell?_of_block (w := wc) (Below.heap_alloc wc _ p hpc)).trans y0))
          all_goals
            obtain ⟨O', oc', rfl⟩ := own_slice hown5
            have hlen : (sgs ++ [sg]).length = sgs.length + 1 := by simp
            have hown6 : w5.ownsRow W.heap.size 51 2 (.slice O' (sgs ++ [sg]).length oc') (sgs ++ [sg]).length (scs (sgs ++ [sg])) := by
              rw [hlen, scs_append]; exact hown5
            have hgr6 : w.grownBy w5 (some p) := only_grown (only_alloc hgrw _) hgr5 (fun j hj => by have := (hown.lt j hj).1; have := k4.size; omega)
            have hz5 := hgr5.size
            simp at hz5
            have hL5 : Lsn w5 p ⟨B, g2, g3, g4, g5, g6, g7⟩ st' (.slice A0 bk.length c0) := (hgr5.block p (by simp; omega) (fun e => by have := (hown.lt p e.symm).1; omega)).trans ((Below.heap_alloc wc _ p hpc).trans X2.out)
            rw [← hlen]
          · refine ⟨FeedRel.next hk HN1.out hge hstn.out _ _ _ _ _ (by omega) (fun e => by cases e) (fun b off e => by cases e; exact hb3') ?_ hown6 hL5 hgr6 (by omega), by simp only [sliceLen]; omega⟩
            rw [List.drop_eq_nil_of_le (by rw [List.length_drop]; have := HN1.out; omega)]
            exact Lies.nil _ _
          · refine ⟨FeedRel.next hk HN1.out hge hstn.out _ _ _ _ _ (by omega) (fun e => by cases e) (fun b off e => by cases e; exact hb3') ?_ hown6 hL5 hgr6 (by omega), by simp only [sliceLen]; omega⟩
            have h9 := (((HLC.out.alloc (.cells #[.int .i64 sg.1, .int .i64 sg.2] 51)).grown hgr5 (fun b off e => by cases e; intro e2; have h8 := (hown.lt b3 e2).1; omega)).drop B)
            simpa [ics, List.map_drop] using h9
    · have hkk : all.length / B = k := by
        refine Nat.div_eq_of_lt_le (by omega) ?_
        rw [Nat.add_mul, Nat.one_mul]; omega
      have HKK := Lib.hid hkk
      clear hkk
      have hdl : (all.drop (k * B)).length = n1 := by rw [List.length_drop]; omega
      go_wp2_with (at_builtin; refine wpList_append_src rfl (.const (.slice none 0 0)) (.tmp 91) _ rfl w.heap.size 3 i0 _ 1 8 Try.underlying22 HI.out HZ0.out HZ1.out HZ2.out rfl (by omega) (.slice none 0 0) 0 [] rfl (World.ownsRow_nil _ _ _ _) A3 n1 c3 (ics (all.drop (k * B))) rfl r2 r4 (by simp; omega) (ics_one _) (by unfold maxLen; omega) (by omega) (by have := k4.size; omega) ?_; intro A5 c5 w5 hown5 hgr5; have hL5 := (hgr5.block p (row_lt r6) (by simp [Value.ownBlock])).trans r6; have y9 := cell_of_row w5 p 9 _ _ _ hL5; simp at y9; have yf9 := row_frozen hL5 9; have HL5 := Lib.hid hL5; clear hL5; simp only [Nat.zero_add, List.nil_append] at hown5)
      go_ret2
      have hpW : p < W.heap.size := Nat.lt_of_lt_of_le hp k4.size
      have hwW := k4.size
      have hsx : s3 + (x.length : Int) = s3' := HSX.out
      have hno : A5 = none → c5 = 0 := by
        intro e; subst e
        rcases hown5.2 with ⟨e1, e2⟩ | ⟨gg, cap, cur, e1, _, _, e2, _⟩
        · injection e1
        · injection e1 with e3 _ _; cases e3
      unfold FeedPost
      rw [HAL.out]
      simp only
      rw [hsx, HKK.out]
      refine ⟨A5, c5, ⟨O, oc, rfl, ?_, ?_, ?_⟩, ?_, hno, fun b off e => by subst e; exact (hown5.lt b rfl).1⟩
      · exact ownsRow_le (ownsRow_far (r5.kept hgr5 (Classical.em _)) (by exact hpW) _) hwW
      · rw [hdl]; exact row_set HL5.out 9 _
      · exact only_set (only_grown r7 hgr5 (by simp [Value.ownBlock])) (.inl rfl) _
      · exact (Lies.of_own (hown5)).grown ((World.grownBy.refl w5 (some p)) |> fun h => only_set h (.inl rfl) _) (fun b off e => by
          subst e
          intro e2
          have h1 : w.heap.size ≤ b := (hown5.lt b rfl).1
          have h2 : p = b := Option.some.inj e2
          rw [← h2] at h1
          exact absurd hp (Nat.not_lt.2 h1))
end Go.Proofs.Ytnflpnbpigcfhaa
