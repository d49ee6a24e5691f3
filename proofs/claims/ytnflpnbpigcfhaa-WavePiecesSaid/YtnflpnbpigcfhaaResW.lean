/- wave.Resample and its reference -/
import Derived.Test.YtnflpnbpigcfhaaRes
namespace Go.Proofs.Ytnflpnbpigcfhaa
open Go.RowKit Ear

theorem int_info : (Try.prog.info? 3).map (fun i => (i.zero, i.size, i.bytes)) = some (some (.int .i64 0), 1, 8) := by kernel_rfl

/-- a recording and an error come back; the samples lie in new memory -/
def RecRet (rate' : Int) (err : Int) (out : List Int) (w : World) (e : Ending) (w' : World) : Prop :=
  ∃ A c, e = .returned (.tuple #[.agg #[.int .i64 rate', .slice A out.length c], .int .i64 err]) ∧ w'.ownsRow w.heap.size 3 1 (.slice A out.length c) out.length (ics out) ∧ Below w.heap.size w w'

theorem RecRet.none_ {err : Int} {w w' : World} {e : Ending} (he : e = .returned (.tuple #[.agg #[.int .i64 0, .slice none 0 0], .int .i64 err])) (hb : Below w.heap.size w w') : RecRet 0 err [] w e w' :=
  ⟨none, 0, he, World.ownsRow_nil _ _ _ _, hb⟩

theorem bcell {W w1 : World} (hb : Below W.heap.size W w1) : (∀ b o, b < W.heap.size → w1.cell? ⟨b, o, none⟩ = W.cell? ⟨b, o, none⟩) ∧ (∀ b o, b < W.heap.size → w1.frozen? ⟨b, o, none⟩ = W.frozen? ⟨b, o, none⟩) :=
  ⟨fun b o h => hb.cell (p := ⟨b, o, none⟩) h, fun b o h => hb.frozen (p := ⟨b, o, none⟩) h⟩

set_option maxHeartbeats 400000 in
theorem Resample_chk (rate : Int) (A : Option Addr) (c : Nat) (l : List Int) (u d : Int) (w : World) (h : Lies w A (ics l)) (hn : l.length ≤ 9223372036854775807) (r : Int) (hr : Hid (chk rate l = r)) (h0 : (r != 0) = true) :
    Calls Try.prog 13 #[recV rate A l.length c, .int .i64 u, .int .i64 d] w (RecRet 0 r [] w) := by
  have HL := Lib.hid (fun o o' => (h.alloc (w := w) o).alloc o')
  go_enter Try.func13, Try.ntmps13
  go_wp2_with fail
  refine (check_any rate A c l _ (HL.out _ _) hn _ hr).mono ?_
  rintro e w1 ⟨rfl, hb⟩
  obtain ⟨hc, hf⟩ := bcell hb
  go_wp2_with fail
  refine bodyPost_ret (v := .tuple #[.agg #[.int .i64 0, .slice none 0 0], .int .i64 r]) (by simp [results, Try.results13, go_sem, hc]) rfl (RecRet.none_ rfl ?_)
  exact ((((((Below.refl _ _).alloc (Nat.le_refl _) _).alloc (by simp) _).trans (hb.mono (by simp; omega))).setCell (by simp) _).setCell (by simp) _)

set_option maxHeartbeats 1000000 in
theorem Resample_arg (rate : Int) (A : Option Addr) (c : Nat) (l : List Int) (u d : Int) (w : World) (h : Lies w A (ics l)) (hn : l.length ≤ 200000) (hr : Hid (chk rate l = 0))
    (hru : 0 ≤ rate * u ∨ u < 1) (hru' : rate * u ≤ 3072000 ∨ 16 < u)
    (hh : u < 1 ∨ 16 < u ∨ (1 ≤ u ∧ u ≤ 16 ∧ d < 1) ∨ (1 ≤ u ∧ u ≤ 16 ∧ 16 < d) ∨ (1 ≤ u ∧ u ≤ 16 ∧ 1 ≤ d ∧ d ≤ 16 ∧ (rate * u % d != 0) = true) ∨ (1 ≤ u ∧ u ≤ 16 ∧ 1 ≤ d ∧ d ≤ 16 ∧ (rate * u % d != 0) = false ∧ rate * u / d < 1) ∨ (1 ≤ u ∧ u ≤ 16 ∧ 1 ≤ d ∧ d ≤ 16 ∧ (rate * u % d != 0) = false ∧ 192000 < rate * u / d)) :
    Calls Try.prog 13 #[recV rate A l.length c, .int .i64 u, .int .i64 d] w (RecRet 0 2 [] w) := by
  have HL := Lib.hid (fun o o' => (h.alloc (w := w) o).alloc o')
  rcases hh with h1 | h1 | ⟨h1, h2, h3⟩ | ⟨h1, h2, h3⟩ | ⟨h1, h2, h3, h4, h5⟩ | ⟨h1, h2, h3, h4, h5, h6⟩ | ⟨h1, h2, h3, h4, h5, h6⟩
  all_goals
    try have hru1 : 0 ≤ rate * u := by omega
    try have hru2 : rate * u ≤ 3072000 := by omega
    clear hru hru'
    go_enter Try.func13, Try.ntmps13
    go_wp2_with fail
    refine (check_any rate A c l _ (HL.out _ _) (by omega) _ hr).mono ?_
    rintro e w1 ⟨rfl, hb⟩
    obtain ⟨hc, hf⟩ := bcell hb
    go_wp2_with fail
    refine bodyPost_ret (v := .tuple #[.agg #[.int .i64 0, .slice none 0 0], .int .i64 2]) (by simp [results, Try.results13, go_sem, hc]) rfl (RecRet.none_ rfl ?_)
    exact ((((((Below.refl _ _).alloc (Nat.le_refl _) _).alloc (by simp) _).trans (hb.mono (by simp; omega))).setCell (by simp) _).setCell (by simp) _)

end Go.Proofs.Ytnflpnbpigcfhaa
