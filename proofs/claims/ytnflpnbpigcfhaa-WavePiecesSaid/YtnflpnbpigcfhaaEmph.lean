/- slices.Clone, ratio, Emphasize, Restore -/
import Derived.Test.YtnflpnbpigcfhaaResW
import Derived.Test.YtnflpnbpigcfhaaPop
import Derived.Laws.AppendOwnNone
namespace Go.Proofs.Ytnflpnbpigcfhaa
open Go.RowKit Ear

/-- a list of numbers comes back, in new memory -/
def IntsRet (out : List Int) (w : World) (e : Ending) (w' : World) : Prop :=
  ∃ A c, e = .returned (.slice A out.length c) ∧ w'.ownsRow w.heap.size 3 1 (.slice A out.length c) out.length (ics out) ∧ Below w.heap.size w w'
/-- a list of numbers and an error -/
def IntsErr (err : Int) (out : List Int) (w : World) (e : Ending) (w' : World) : Prop :=
  ∃ A c, e = .returned (.tuple #[.slice A out.length c, .int .i64 err]) ∧ w'.ownsRow w.heap.size 3 1 (.slice A out.length c) out.length (ics out) ∧ Below w.heap.size w w'

theorem ics_one (l : List Int) : ∀ u ∈ ics l, u.oneCell' = true := by
  intro u hu
  obtain ⟨x, _, rfl⟩ := List.mem_map.1 hu
  rfl
theorem own_slice {w : World} {base : Nat} {e : TypeId} {size n : Nat} {v : Value} {xs : List Value} (h : w.ownsRow base e size v n xs) : ∃ A c, v = .slice A n c := by
  rcases h.2 with ⟨rfl, rfl⟩ | ⟨g, cap, cur, rfl, _⟩
  · exact ⟨_, _, rfl⟩
  · exact ⟨_, _, rfl⟩

theorem Lies.news {w : World} {ad : Addr} {xs : List Value} (h : Lies w (some ad) xs) (o : Obj) (j : Nat) (u : Value) (hu : xs[j]? = some u) : (w.alloc o).cell? (ad.add j) = some u := by
  obtain ⟨b, off, e, hb, hc⟩ := h (Nat.lt_of_le_of_lt (Nat.zero_le _) (List.getElem?_eq_some_iff.1 hu).1)
  cases e
  rw [Addr.add_lit]
  exact (World.cell?_alloc_lt w o _ hb).trans (hc j u hu)

set_option maxHeartbeats 400000 in
theorem CloneI_any (A : Option Addr) (c : Nat) (l : List Int) (w : World) (h : Lies w A (ics l)) (hA : A = none → c = 0 ∧ l = []) (hn : l.length ≤ 1000000) :
    Calls Try.prog 25 #[.slice A l.length c] w (IntsRet l w) := by
  obtain ⟨i0, hi0, hz0, hz1, hz2⟩ := info_parts int_info
  have HI := Lib.hid hi0; have HZ0 := Lib.hid hz0; have HZ1 := Lib.hid hz1; have HZ2 := Lib.hid hz2
  clear hi0 hz0 hz1 hz2
  cases A with
  | none =>
    obtain ⟨rfl, rfl⟩ := hA rfl
    have hnil : ∀ W, (binOp .eql 22 (.slice none 0 0) (.slice none 0 0)).run Try.prog W = .ok (.bool true) W := fun W => Lib.run_eql_slice_nil W 22 3 none 0 0 0 0 Try.underlying22
    go_enter Try.func25, Try.ntmps25
    go_wp2_with fail
    go_ret
    exact ⟨none, 0, rfl, World.ownsRow_nil _ _ _ _, Below.refl _ _⟩
  | some ad =>
    clear hA
    have hnil : ∀ W, (binOp .eql 22 (.slice (some ad) l.length c) (.slice none 0 0)).run Try.prog W = .ok (.bool false) W := fun W => Lib.run_eql_slice_nil W 22 3 (some ad) l.length c 0 0 Try.underlying22
    have hnews := Lib.hid (h.news)
    go_enter Try.func25, Try.ntmps25
    go_wp2_with (at_builtin; refine wpList_append_own_at _ rfl (.tmp 5) (.tmp 6) _ rfl w.heap.size 3 i0 _ 1 8 Try.underlying22 HI.out HZ0.out HZ1.out HZ2.out rfl (by omega) (.slice (some ⟨w.heap.size, 0, none⟩) 0 0) 0 [] rfl (World.ownsRow_lit w #[] 0 (Nat.le_refl _) (by simp) rfl) ad l.length c (ics l) rfl (by simp) (hnews.out _) (ics_one l) (by unfold maxLen; omega) (by omega) (by simp) ?_; intro v' w1 hown1 hgrow _ hat)
    go_ret
    obtain ⟨A', c', rfl⟩ := own_slice hown1
    refine ⟨A', c', by rw [Nat.zero_add]; rfl, by simpa using hown1, ((Below.refl _ _).alloc (Nat.le_refl _) _).grown hgrow (by simp) (fun k hk => ?_)⟩
    simp [Value.ownBlock] at hk
    omega

/-- what is wrong, as a number in its own spelling -/
theorem rchk_cases (l : List Int) (num den : Int) : Hid (rchk l num den = rchk l num den) := rfl

set_option maxHeartbeats 400000 in
theorem ratio_any (A : Option Addr) (c : Nat) (l : List Int) (num den : Int) (w : World) (h : Lies w A (ics l)) (hn : l.length ≤ 9223372036854775807) (r : Int) (hr : Hid (rchk l num den = r)) :
    Calls Try.prog 24 #[.slice A l.length c, .int .i64 num, .int .i64 den] w fun e w' => e = .returned (.int .i64 r) ∧ w = w' := by
  by_cases h0 : vchk l = 0
  · have H0 := Lib.hid h0
    have hr' : Hid ((if 0 ≤ num ∧ num ≤ den ∧ 1 ≤ den ∧ den ≤ 1024 then 0 else 2) = r) := by
      have := hr.out; unfold rchk at this; rw [if_pos h0] at this; exact this
    clear h0
    by_cases h1 : num < 0
    · go_enter Try.func24, Try.ntmps24
      go_wp2_with (go_at_call 19; refine (values_any A c l _ h hn _ H0).mono ?_; rintro e w' ⟨rfl, rfl⟩)
      go_ret
      exact ⟨ret_int (by rw [← hr'.out, if_neg (by omega)]), rfl⟩
    by_cases h2 : den < num
    · go_enter Try.func24, Try.ntmps24
      go_wp2_with (go_at_call 19; refine (values_any A c l _ h hn _ H0).mono ?_; rintro e w' ⟨rfl, rfl⟩)
      go_ret
      exact ⟨ret_int (by rw [← hr'.out, if_neg (by omega)]), rfl⟩
    by_cases h3 : den < 1
    · go_enter Try.func24, Try.ntmps24
      go_wp2_with (go_at_call 19; refine (values_any A c l _ h hn _ H0).mono ?_; rintro e w' ⟨rfl, rfl⟩)
      go_ret
      exact ⟨ret_int (by rw [← hr'.out, if_neg (by omega)]), rfl⟩
    by_cases h4 : 1024 < den
    · go_enter Try.func24, Try.ntmps24
      go_wp2_with (go_at_call 19; refine (values_any A c l _ h hn _ H0).mono ?_; rintro e w' ⟨rfl, rfl⟩)
      go_ret
      exact ⟨ret_int (by rw [← hr'.out, if_neg (by omega)]), rfl⟩
    · go_enter Try.func24, Try.ntmps24
      go_wp2_with (go_at_call 19; refine (values_any A c l _ h hn _ H0).mono ?_; rintro e w' ⟨rfl, rfl⟩)
      go_ret
      exact ⟨ret_int (by rw [← hr'.out, if_pos (by omega)]), rfl⟩
  · have hr' : Hid (vchk l = r) := by
      have := hr.out; unfold rchk at this; rw [if_neg h0] at this; exact this
    have hne : (r != 0) = true := by
      have := hr'.out
      simp; rw [← this]; exact h0
    go_enter Try.func24, Try.ntmps24
    go_wp2_with (go_at_call 19; refine (values_any A c l _ h hn _ hr').mono ?_; rintro e w' ⟨rfl, rfl⟩)
    go_ret
    exact ⟨rfl, rfl⟩
end Go.Proofs.Ytnflpnbpigcfhaa
