/- wave.Segments where nothing is refused -/
import Derived.Test.YtnflpnbpigcfhaaFeed
namespace Go.Proofs.Ytnflpnbpigcfhaa
open Go.RowKit Ear

/-- the state after all blocks, and all segments -/
def segSt (g : Gt) (B : Nat) (x : List Int) : Ls × List (Int × Int) := stp g B ⟨0, 0, (0 : Int) + x.length, 0, 0, 0⟩ x (x.length / B)
def segsOf (g : Gt) (B : Nat) (x : List Int) : List (Int × Int) := (segSt g B x).2 ++ (if (segSt g B x).1.state = 1 then [((segSt g B x).1.begin_ * g.block, (segSt g B x).1.samples)] else [])
/-- segments and an error -/
def SegRet (err : Int) (out : List (Int × Int)) (w : World) (e : Ending) (w' : World) : Prop :=
  ∃ A c, e = .returned (.tuple #[.slice A out.length c, .int .i64 err]) ∧ w'.ownsRow w.heap.size 51 2 (.slice A out.length c) out.length (scs out) ∧ Below w.heap.size w w'

theorem scs_one (l : List (Int × Int)) : ∀ u ∈ scs l, u.oneCell' = true := by
  induction l with
  | nil => simp [scs]
  | cons p l ih =>
    intro u hu
    simp only [scs, List.mem_cons] at hu
    rcases hu with rfl | rfl | hu
    · rfl
    · rfl
    · exact ih u hu
theorem own_none {w : World} {base : Nat} {e : TypeId} {size n c : Nat} {A : Option Addr} {xs : List Value} (h : w.ownsRow base e size (.slice A n c) n xs) : A = none → c = 0 := by
  intro e; subst e
  rcases h.2 with ⟨e1, e2⟩ | ⟨gg, cap, cur, e1, _, _, e2, _⟩
  · injection e1
  · injection e1 with e3 _ _; cases e3

set_option maxRecDepth 100000 in
set_option maxHeartbeats 1000000 in
theorem Segments_ok (g : Gt) (B : Nat) (A : Option Addr) (c : Nat) (x : List Int) (w : World) (h : Lies w A (ics x)) (hA : A = none → c = 0) (hv : Hid (smp x = true)) (hl : x.length ≤ 200000) (hg : Hid g.ok) (hB : Hid (g.block = B)) :
    Calls Try.prog 16 #[.slice A x.length c, gateV g] w (SegRet 0 (segsOf g B x) w) := by
  obtain ⟨j0, hi0, hz0, hz1, hz2⟩ := info_parts seg_info
  have KI := Lib.hid hi0; have KZ0 := Lib.hid hz0; have KZ1 := Lib.hid hz1; have KZ2 := Lib.hid hz2
  clear hi0 hz0 hz1 hz2
  have hgo := hg.out
  have hB1 : 1 ≤ B := by have := hB.out; have := hgo.1; omega
  have hB2 : B ≤ 4096 := by have := hB.out; have := hgo.2.1; omega
  have hgd : Hid (decide g.ok = true) := by show decide g.ok = true; simp [hgo]
  clear hgo
  have HA := Lib.hid hA
  clear hA
  have HLS := Lib.hid (stp_inv (g := g) (B := B) (s := ⟨0, 0, (0 : Int) + x.length, 0, 0, 0⟩) (all := x) hg.out (by simp [Ls.Inv]) (x.length / B))
  have HLN := Lib.hid (stp_len g B ⟨0, 0, (0 : Int) + x.length, 0, 0, 0⟩ x (x.length / B))
  have hdiv : x.length / B ≤ x.length := Nat.div_le_self _ _
  go_enter Try.func16, Try.ntmps16
  go_wp2_with fail
  refine (Listen_ok g _ hgd).mono ?_
  rintro e w1 ⟨p, rfl, hp, hL, hb1⟩
  simp only [World.size_alloc] at hp
  have hbw : Below w.heap.size w w1 := ((Below.refl _ _).alloc (Nat.le_refl _) _).trans (hb1.mono (by simp))
  have HL := Lib.hid hL
  clear hL hb1
  go_wp2_with fail
  refine (Feed_ok g Ls.new p none 0 [] A c x B w1 HL.out (Lies.nil _ _) (fun _ => rfl) (h.below hbw) HA.out (show smp [] = true from rfl) hv hl (by simp) hg hB hB1 hB2 (by show Ls.Inv Ls.new; simp [Ls.Inv, Ls.new]) (by simp [Ls.new]; omega) (by simp [Ls.new]) (by simp [Ls.new])).mono ?_
  rintro e w2 ⟨A1, c1, ⟨O, oc, rfl, ho2, hL2, hg2⟩, _, _⟩
  simp only [List.nil_append, Ls.new] at ho2 hL2 ⊢
  have hls := HLS.out
  have hln := HLN.out
  have hout : segsOf g B x = (stp g B ⟨0, 0, (0 : Int) + x.length, 0, 0, 0⟩ x (x.length / B)).2 ++ (if (stp g B ⟨0, 0, (0 : Int) + x.length, 0, 0, 0⟩ x (x.length / B)).1.state = 1 then [((stp g B ⟨0, 0, (0 : Int) + x.length, 0, 0, 0⟩ x (x.length / B)).1.begin_ * g.block, (stp g B ⟨0, 0, (0 : Int) + x.length, 0, 0, 0⟩ x (x.length / B)).1.samples)] else []) := rfl
  clear HLS HLN
  generalize stp g B ⟨0, 0, (0 : Int) + x.length, 0, 0, 0⟩ x (x.length / B) = r at *
  obtain ⟨st, sgs⟩ := r
  simp only at ho2 hL2 hls hln hout ⊢
  have HO := Lib.hid hout
  have HI := Lib.hid hls.1
  have hblk : st.blocks = 0 + (x.length / B : Nat) := hls.2.1
  have hbg : 0 ≤ st.begin_ ∧ st.begin_ ≤ 3000000001 := by have := hls.1.2.2.2.2.2; omega
  have HB2 := Lib.hid hblk
  clear hout hls hblk
  have hz2 := hg2.size
  have hz1 := hbw.size
  have hpl : p < w1.heap.size := row_lt HL.out
  rcases HI.out.1 with hs | hs
  · have HLo : Hid (segsOf g B x = sgs) := by show segsOf g B x = sgs; rw [HO.out, if_neg (by omega)]; simp
    go_wp2_with fail
    refine (Close_wait g st _ p w2 hL2 hs).mono ?_
    rintro e w3 ⟨A3, c3, rfl, ho3, hL3, hg3⟩
    have hown := own_kept (base := w1.heap.size) ho2 hg3 hpl
    have hz3 := hg3.size
    simp only [List.length_nil] at ho3 ⊢
    go_wp2_with (at_builtin; refine wpList_append_src rfl (.tmp 36) (.tmp 37) _ rfl w1.heap.size 51 j0 _ 2 16 Try.underlying43 KI.out KZ0.out KZ1.out KZ2.out rfl (by omega) (.slice O sgs.length oc) sgs.length (scs sgs) rfl hown A3 0 c3 (scs []) rfl (own_none ho3) (Lies.of_own ho3) rfl (scs_one _) (by unfold maxLen; omega) (by omega) (by omega) ?_; intro A4 c4 w4 hown4 hgr4)
    go_ret2
    have hb4 : Below w.heap.size w w4 := ((hbw.trans (Below.of_only hg2 (by omega) (by omega))).trans (Below.of_only hg3 (by omega) (by omega))).grown hgr4 (by omega) (fun k hk => by have := (hown.lt k hk).1; omega)
    rw [HLo.out]
    exact ⟨A4, c4, rfl, ownsRow_le (by simpa [scs] using hown4) (by omega), hb4⟩
  · have HLo : Hid (segsOf g B x = sgs ++ [(st.begin_ * g.block, st.samples)]) := by show segsOf g B x = _; rw [HO.out, if_pos hs]
    have hgo := hg.out
    go_wp2_with fail
    refine (Close_speech g st _ p w2 hL2 hs hgo.1 hgo.2.1 hbg.1 hbg.2).mono ?_
    rintro e w3 ⟨A3, c3, rfl, ho3, hL3, hg3⟩
    have hown := own_kept (base := w1.heap.size) ho2 hg3 hpl
    have hz3 := hg3.size
    clear hgo
    simp only [List.length_cons, List.length_nil, Nat.zero_add] at ho3 ⊢
    go_wp2_with (at_builtin; refine wpList_append_src rfl (.tmp 36) (.tmp 37) _ rfl w1.heap.size 51 j0 _ 2 16 Try.underlying43 KI.out KZ0.out KZ1.out KZ2.out rfl (by omega) (.slice O sgs.length oc) sgs.length (scs sgs) rfl hown A3 1 c3 (scs [(st.begin_ * g.block, st.samples)]) rfl (own_none ho3) (Lies.of_own ho3) rfl (scs_one _) (by unfold maxLen; omega) (by omega) (by omega) ?_; intro A4 c4 w4 hown4 hgr4)
    go_ret2
    have hb4 : Below w.heap.size w w4 := ((hbw.trans (Below.of_only hg2 (by omega) (by omega))).trans (Below.of_only hg3 (by omega) (by omega))).grown hgr4 (by omega) (fun k hk => by have := (hown.lt k hk).1; omega)
    rw [HLo.out]
    refine ⟨A4, c4, by simp only [List.length_append, List.length_cons, List.length_nil, Nat.zero_add]; rfl, ?_, hb4⟩
    rw [scs_append, List.length_append]
    exact ownsRow_le hown4 (by omega)
end Go.Proofs.Ytnflpnbpigcfhaa
