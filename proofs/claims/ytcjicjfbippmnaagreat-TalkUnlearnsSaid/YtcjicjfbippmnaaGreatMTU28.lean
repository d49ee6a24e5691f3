/- a part of TalkUnlearns -/
import Derived.Test.YtcjicjfbippmnaaGreatMTU27
set_option maxRecDepth 100000
set_option maxHeartbeats 32000000
namespace Ear
def valN (S : List PSl) (x : BA) : Nat := S.findIdx fun s => decide (x ∈ s.vs)
def valI (S : List PSl) (x : BA) : Int := if valN S x < S.length then (valN S x : Int) else -1
theorem valI_at {S : List PSl} {x : BA} {k : Nat} (hk : k < S.length) (h : x ∈ S[k].vs) (h2 : ∀ (j : Nat) (hj : j < S.length), j < k -> x ∉ S[j].vs) : valI S x = k := by
 have e : valN S x = k := by
  unfold valN
  rw [List.findIdx_eq hk]
  exact ⟨by simpa using h, fun j hj => by simpa using h2 j (by omega) hj⟩
 unfold valI
 rw [e, if_pos hk]
theorem valI_none {S : List PSl} {x : BA} (h2 : ∀ (j : Nat) (hj : j < S.length), x ∉ S[j].vs) : valI S x = -1 := by
 have e : valN S x = S.length := by
  unfold valN
  refine List.findIdx_eq_length_of_false fun y hy => ?_
  obtain ⟨j, hj, rfl⟩ := List.getElem_of_mem hy
  simpa using h2 j hj
 unfold valI
 rw [e, if_neg (by omega)]
end Ear
namespace Go.Proofs.YtcjicjfbippmnaaGreat
open Go.RowKit Ear

theorem value1_any (s : SlM) (x : BA) (eb : Nat) (w : World) (h : Lies w s.A (sbs s.vs)) (hn : s.vs.length <= 1000000) (hx : w.cell? ⟨eb, 1, none⟩ = some (.string x)) (r : Bool) (hr : Hid (decide (x ∈ s.vs) = r)) :
  Calls Tryz.prog 175 #[.agg #[.string s.nm, .slice s.A s.vs.length s.c, .bool s.L.neg, .slice s.L.A s.L.N.length s.L.c, .slice s.L.B s.L.D.length s.L.d, .bool s.S.neg, .slice s.S.A s.S.N.length s.S.c, .slice s.S.B s.S.D.length s.S.d], .pointer (some ⟨eb, 0, none⟩)] w fun e w' => e = .returned (.bool r) /\ Below w.heap.size w w' := by
 obtain ⟨W0, hW0⟩ : ∃ W0 : World, W0 = w.alloc (.cells #[.string s.nm, .slice s.A s.vs.length s.c, .bool s.L.neg, .slice s.L.A s.L.N.length s.L.c, .slice s.L.B s.L.D.length s.L.d, .bool s.S.neg, .slice s.S.A s.S.N.length s.S.c, .slice s.S.B s.S.D.length s.S.d] 79) := ⟨_, rfl⟩
 have HB0 : Hid (Below w.heap.size w W0) := zH (by rw [hW0]; exact (Below.refl _ _).alloc (Nat.le_refl _) _)
 have HX0 : Hid (W0.heap[w.heap.size]? = some (.cells #[.string s.nm, .slice s.A s.vs.length s.c, .bool s.L.neg, .slice s.L.A s.L.N.length s.L.c, .slice s.L.B s.L.D.length s.L.d, .bool s.S.neg, .slice s.S.A s.S.N.length s.S.c, .slice s.S.B s.S.D.length s.S.d] 79 (0, 0))) := zH (by rw [hW0]; exact heap_alloc_new w _)
 have c1 : W0.cell? ⟨w.heap.size, 1, none⟩ = some (.slice s.A s.vs.length s.c) := (cell_of_row _ _ 1 _ _ _ HX0.out).trans rfl
 have hx0 : W0.cell? ⟨eb, 1, none⟩ = some (.string x) := (HB0.out.cell (p := ⟨eb, 1, none⟩) (cell_lt' hx)).trans hx
 have hxa := hx0
 rw [hW0] at hxa
 have HC := zH (ContainsStr_any s.A s.c s.vs x W0 (h.below HB0.out) (by omega) r hr)
 clear h hx hr
 go_enter Tryz.func175, Tryz.ntmps175
 go_wp2_with fail
 rw [<- hW0]
 clear hW0 hxa
 refine HC.out.mono ?_
 rintro e w' ⟨rfl, rfl⟩
 go_wp2_with fail
 go_ret
 exact ⟨rfl, HB0.out⟩
theorem IndexSl_any (A : Option Addr) (pc : Nat) (Ss : List SlM) (Ps : List PSl) (x : BA) (eb : Nat) (w : World) (h : PlM w A Ss Ps) (hn : Ss.length <= 1000000) (hv : ∀ p ∈ Ps, p.vs.length <= 1000000) (hx : w.cell? ⟨eb, 1, none⟩ = some (.string x)) (r : Int) (hr : Hid (valI Ps x = r)) :
  Calls Tryz.prog 174 #[.slice A Ss.length pc, .func (.func 175) #[] #[.pointer (some ⟨eb, 0, none⟩)]] w fun e w' => e = .returned (.int .i64 r) /\ Below w.heap.size w w' := by
 have heg := enters_of Tryz.func175 (by kernel_rfl) rfl
 have HO := zH h
 have HX := zH hx
 clear h hx
 go_enter Tryz.func174, Tryz.ntmps174
 go_wp2_with fail
 go_loopw [5, 8] (fun _ i wr => ∃ k : Nat, k <= Ss.length /\ i = .int .i64 k /\ Hid (∀ (j : Nat) (hj : j < Ps.length), j < k -> x ∉ Ps[j].vs) /\ Hid (Below w.heap.size w wr)) (fun _ i _ => Ss.length - (intOf i).toNat)
 case atStart => exact ⟨0, Nat.zero_le _, rfl, zH (fun j _ h => by omega), zH (Below.refl _ _)⟩
 case round =>
  obtain ⟨k, hk, rfl, HN, HB⟩ := hrel
  by_cases hlt : k < Ss.length
  ·have hltP : k < Ps.length := by rw [<- HO.out.len]; exact hlt
   obtain ⟨gb, go, eA, hgb, hcell⟩ := (HO.out.below HB.out).at_ hlt
   have hok := (HO.out.below HB.out).ok k _ _ (List.getElem?_eq_getElem hlt) (List.getElem?_eq_getElem hltP)
   have HL := zH hok.lies
   have HVS : Hid (Ss[k].vs = Ps[k].vs) := zH hok.vs
   have hvl : Ss[k].vs.length <= 1000000 := by rw [hok.vs]; exact hv _ (List.getElem_mem hltP)
   have hxr : wr.cell? ⟨eb, 1, none⟩ = some (.string x) := (HB.out.cell (p := ⟨eb, 1, none⟩) (cell_lt' HX.out)).trans HX.out
   have HXR := zH hxr
   clear hok hxr
   subst eA
   generalize Ss[k] = s at *
   have c0 : wr.cell? ⟨gb, go + k * 8, none⟩ = some (.string s.nm) := hcell 0 _ rfl
   have c1 := hcell 1 _ rfl
   have c2 := hcell 2 _ rfl
   have c3 := hcell 3 _ rfl
   have c4 := hcell 4 _ rfl
   have c5 := hcell 5 _ rfl
   have c6 := hcell 6 _ rfl
   have c7 := hcell 7 _ rfl
   clear hcell
   obtain ⟨b, hb⟩ : ∃ b, decide (x ∈ s.vs) = b := ⟨_, rfl⟩
   have HBB := zH hb
   clear hb
   go_wp2_with fail
   refine (value1_any s x eb wr HL.out hvl HXR.out b HBB).mono ?_
   rintro e w1 ⟨rfl, hb1⟩
   have HB1 := zH (HB.out.trans (hb1.mono HB.out.size))
   clear hb1 c0 c1 c2 c3 c4 c5 c6 c7
   cases b with
   | true =>
    have hin := of_decide_eq_true HBB.out
    rw [HVS.out] at hin
    have HR : Hid (r = (k : Int)) := zH (hr.out.symm.trans (valI_at hltP hin (fun j hj hjk => HN.out j hj hjk)))
    clear hin
    go_wp2_with fail
    go_ret
    exact ⟨by rw [HR.out]; rfl, HB1.out⟩
   | false =>
    have hin := of_decide_eq_false HBB.out
    rw [HVS.out] at hin
    have HN1 : Hid (∀ (j : Nat) (hj : j < Ps.length), j < k + 1 -> x ∉ Ps[j].vs) := zH (fun j hj hjk => by
     by_cases e : j = k
     ·subst e; exact hin
     ·exact HN.out j hj (by omega))
    clear hin
    go_wp2_with fail
    exact ⟨⟨k + 1, by omega, by go_num, HN1, HB1⟩, by simp [intOf]; omega⟩
  ·have HR : Hid (r = -1) := zH (by
    rw [<- hr.out]
    exact valI_none (fun j hj => HN.out j hj (by have := HO.out.len; omega)))
   have hlt' : ¬ (k : Int) < (Ss.length : Int) := by omega
   go_wp2_with fail
   go_ret
   exact ⟨by rw [HR.out]; rfl, HB.out⟩
end Go.Proofs.YtcjicjfbippmnaaGreat
