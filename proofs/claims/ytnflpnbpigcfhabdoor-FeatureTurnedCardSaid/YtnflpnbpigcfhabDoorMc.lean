/- Mc: the texts PVec, Vec, Fit, Typ, Cmb, Mean, Nr, SmL, Cpd, Bins, PCen, PFall, OwnC, Imp, Dif, Dif2, Knw, Kn in one. -/
import Derived.Test.YtnflpnbpigcfhabDoorMb
import Derived.Test.YtnflpnbpigcfhabDoorMa
import Derived.OneCell
import Derived.WalkMore
/- Plain facts: vectors, distances, the nearest codeword, means, differences -/
namespace Ear

/-- a vector of n components -/
def okV (n : Nat) (x : List Int) : Bool := x.length == n && decide (1 ≤ x.length) && decide (x.length ≤ 64) && allR (-1048576) 1048576 x
/-- the components of the first -/
def len0 (vs : List (List Int)) : Nat := (vs.headD []).length
def vecOk (vs : List (List Int)) : Bool := vs.all (okV (len0 vs))
/-- the error of a list of vectors -/
def vecR (vs : List (List Int)) : Int := if 10000 < vs.length then 5 else if vecOk vs = true then 0 else 2
theorem okV_iff {n : Nat} {x : List Int} : okV n x = true ↔ x.length = n ∧ 1 ≤ x.length ∧ x.length ≤ 64 ∧ allR (-1048576) 1048576 x = true := by
  simp [okV, and_assoc]
/-- a codebook -/
def bookOk (vs : List (List Int)) : Bool := decide (1 ≤ vs.length) && decide (vs.length ≤ 256) && vecOk vs
/-- the error of vectors and a codebook -/
def fitR (vs bs : List (List Int)) : Int := if 10000 < vs.length ∨ 10000 < bs.length then 5 else if vecOk vs = true ∧ bookOk bs = true ∧ (vs = [] ∨ len0 vs = len0 bs) then 0 else 2

theorem sq_nn (x : Int) : 0 ≤ x * x := by
  rcases Int.le_total 0 x with h | h
  · exact Int.mul_nonneg h h
  · have := Int.mul_nonneg (show 0 ≤ -x by omega) (show 0 ≤ -x by omega)
    rwa [Int.neg_mul_neg] at this
theorem sqv_bd {x b : Int} (h : -b ≤ x) (h' : x ≤ b) : x * x ≤ b * b := by
  have := Int.mul_nonneg (show 0 ≤ b - x by omega) (show 0 ≤ b + x by omega)
  rw [Int.sub_mul, Int.mul_add, Int.mul_add, Int.mul_comm x b] at this
  omega
theorem getD_bd {lo hi : Int} {l : List Int} (h : allR lo hi l = true) (h0 : lo ≤ 0) (h1 : 0 ≤ hi) (k : Nat) : lo ≤ l[k]?.getD 0 ∧ l[k]?.getD 0 ≤ hi := by
  by_cases hk : k < l.length
  · rw [List.getElem?_eq_getElem hk]; exact allR_get h hk
  · rw [List.getElem?_eq_none (by omega)]; exact ⟨h0, h1⟩
/-- the distance, of the first k components -/
def dsK (v c : List Int) : Nat → Int
  | 0 => 0
  | k + 1 => dsK v c k + (v[k]?.getD 0 - c[k]?.getD 0) * (v[k]?.getD 0 - c[k]?.getD 0)
def dst (v c : List Int) : Int := dsK v c c.length
theorem dsK_mono (v c : List Int) {k m : Nat} (h : k ≤ m) : dsK v c k ≤ dsK v c m := by
  induction m with
  | zero => have : k = 0 := by omega
            subst this; exact Int.le_refl _
  | succ m ih =>
    by_cases hk : k = m + 1
    · subst hk; exact Int.le_refl _
    · have := ih (by omega)
      have h2 := sq_nn (v[m]?.getD 0 - c[m]?.getD 0)
      show _ ≤ dsK v c m + _
      omega
theorem dsK_nn (v c : List Int) (k : Nat) : 0 ≤ dsK v c k := dsK_mono v c (Nat.zero_le k)
theorem ds_term {v c : List Int} (hv : allR (-1048576) 1048576 v = true) (hc : allR (-1048576) 1048576 c = true) (k : Nat) :
    (v[k]?.getD 0 - c[k]?.getD 0) * (v[k]?.getD 0 - c[k]?.getD 0) ≤ 4398046511104 := by
  have h1 := getD_bd hv (by omega) (by omega) k
  have h2 := getD_bd hc (by omega) (by omega) k
  exact sqv_bd (b := 2097152) (by omega) (by omega)
theorem dsK_bd {v c : List Int} (hv : allR (-1048576) 1048576 v = true) (hc : allR (-1048576) 1048576 c = true) (k : Nat) : dsK v c k ≤ k * 4398046511104 := by
  induction k with
  | zero => simp [dsK]
  | succ k ih =>
    have := ds_term hv hc k
    show dsK v c k + _ ≤ _
    omega
/-- the nearest of the first i codewords: its place, and its distance -/
def nrK (v : List Int) (bs : List (List Int)) : Nat → Int × Int
  | 0 => (-1, 4611686018427387904)
  | i + 1 => if dst v (bs[i]?.getD []) < (nrK v bs i).2 then (i, dst v (bs[i]?.getD [])) else nrK v bs i
def nr (v : List Int) (bs : List (List Int)) : Int × Int := nrK v bs bs.length
theorem nrK_yes {v : List Int} {bs : List (List Int)} {i : Nat} (h : dst v (bs[i]?.getD []) < (nrK v bs i).2) : nrK v bs (i + 1) = ((i : Int), dst v (bs[i]?.getD [])) := if_pos h
theorem nrK_no {v : List Int} {bs : List (List Int)} {i : Nat} (h : ¬ dst v (bs[i]?.getD []) < (nrK v bs i).2) : nrK v bs (i + 1) = nrK v bs i := if_neg h
theorem nrK_bd (v : List Int) (bs : List (List Int)) (i : Nat) : -1 ≤ (nrK v bs i).1 ∧ (nrK v bs i).1 < i ∧ 0 ≤ (nrK v bs i).2 ∧ (nrK v bs i).2 ≤ 4611686018427387904 := by
  induction i with
  | zero => exact ⟨by simp [nrK], by simp [nrK], by simp [nrK], by simp [nrK]⟩
  | succ i ih =>
    by_cases h : dst v (bs[i]?.getD []) < (nrK v bs i).2
    · rw [nrK_yes h]
      have := dsK_nn v (bs[i]?.getD []) (bs[i]?.getD []).length
      unfold dst at h ⊢
      refine ⟨?_, ?_, this, ?_⟩ <;> simp only [] <;> omega
    · rw [nrK_no h]; omega
/-- from the first on there is a nearest one -/
theorem nrK_at {v : List Int} {bs : List (List Int)} (hb : ∀ x ∈ bs, dst v x < 4611686018427387904) {i : Nat} (h1 : 1 ≤ i) (h2 : i ≤ bs.length) :
    ∃ a : Nat, a < i ∧ (nrK v bs i).1 = a ∧ (nrK v bs i).2 = dst v (bs[a]?.getD []) := by
  induction i with
  | zero => omega
  | succ i ih =>
    by_cases h : dst v (bs[i]?.getD []) < (nrK v bs i).2
    · rw [nrK_yes h]; exact ⟨i, by omega, rfl, rfl⟩
    · rw [nrK_no h]
      by_cases hi : i = 0
      · subst hi
        exfalso
        apply h
        rw [List.getElem?_eq_getElem (by omega)]
        exact hb _ (List.getElem_mem _)
      · obtain ⟨a, h3, h4, h5⟩ := ih (by omega) (by omega)
        exact ⟨a, by omega, h4, h5⟩
theorem nr_at {v : List Int} {bs : List (List Int)} (hb : ∀ x ∈ bs, dst v x < 4611686018427387904) (h : 0 < bs.length) :
    ∃ a : Nat, a < bs.length ∧ (nr v bs).1 = a ∧ (nr v bs).2 = dst v (bs[a]?.getD []) := nrK_at hb h (Nat.le_refl _)
/-- the sum of a component, over the first t -/
def colS (vs : List (List Int)) (c : Nat) : Nat → Int
  | 0 => 0
  | t + 1 => colS vs c t + (vs[t]?.getD [])[c]?.getD 0
theorem colS_bd {vs : List (List Int)} (h : ∀ x ∈ vs, allR (-1048576) 1048576 x = true) (c t : Nat) : -(t * 1048576) ≤ colS vs c t ∧ colS vs c t ≤ t * 1048576 := by
  induction t with
  | zero => simp [colS]
  | succ t ih =>
    have h2 : -1048576 ≤ (vs[t]?.getD [])[c]?.getD 0 ∧ (vs[t]?.getD [])[c]?.getD 0 ≤ 1048576 := by
      by_cases ht : t < vs.length
      · rw [List.getElem?_eq_getElem ht]; exact getD_bd (h _ (List.getElem_mem ht)) (by omega) (by omega) c
      · rw [List.getElem?_eq_none (show vs.length ≤ t by omega)]; simp
    simp only [colS]
    generalize (vs[t]?.getD [])[c]?.getD 0 = x at *
    omega
/-- the sums of the first t -/
def sumV (vs : List (List Int)) (n t : Nat) : List Int := (List.range n).map fun c => colS vs c t
theorem sumV_length (vs : List (List Int)) (n t : Nat) : (sumV vs n t).length = n := by simp [sumV]
theorem sumV_zero (vs : List (List Int)) (n : Nat) : sumV vs n 0 = List.replicate n 0 := by
  apply List.ext_getElem (by simp [sumV])
  intro q h1 h2
  simp [sumV, colS]
/-- the mean -/
def meanL (vs : List (List Int)) : List Int := (sumV vs (len0 vs) vs.length).map (rnd · vs.length)
theorem meanL_length (vs : List (List Int)) : (meanL vs).length = len0 vs := by simp [meanL, sumV_length]
/-- what a function makes of two lists -/
def cmb (f : Int → Int → Int) (a b : List Int) : List Int := (List.range a.length).map fun q => f (a[q]?.getD 0) (b[q]?.getD 0)
theorem cmb_length (f : Int → Int → Int) (a b : List Int) : (cmb f a b).length = a.length := by simp [cmb]
theorem sumV_next (vs : List (List Int)) (n t : Nat) : cmb (· + ·) (sumV vs n t) (vs[t]?.getD []) = sumV vs n (t + 1) := by
  apply List.ext_getElem (by simp [sumV, cmb])
  intro q h1 h2
  have hq : q < n := by simpa [sumV] using h2
  simp only [cmb, sumV, List.getElem_map, List.getElem_range, List.getElem?_map, List.getElem?_range hq]
  rfl
/-- the vectors with differences -/
def difAt (vs : List (List Int)) (t : Nat) : List Int := vs[t]?.getD [] ++ cmb (· - ·) (vs[min (t + 1) (vs.length - 1)]?.getD []) (vs[t - 1]?.getD [])
def difL (vs : List (List Int)) : List (List Int) := (List.range vs.length).map (difAt vs)
theorem difL_length (vs : List (List Int)) : (difL vs).length = vs.length := by simp [difL]
/-- the centered vectors -/
def cenL (vs : List (List Int)) : List (List Int) := vs.map fun x => cmb (· - ·) x (meanL vs)
/-- the vectors that are nearest to a codeword -/
def ownL (vs bs : List (List Int)) (i : Nat) : List (List Int) := vs.filter fun x => (nr x bs).1 == (i : Int)
/-- the improved codebook -/
def impAt (vs bs : List (List Int)) (i : Nat) : List Int := if ownL vs bs i = [] then bs[i]?.getD [] else meanL (ownL vs bs i)
def impL (vs bs : List (List Int)) : List (List Int) := (List.range bs.length).map (impAt vs bs)
theorem impL_length (vs bs : List (List Int)) : (impL vs bs).length = bs.length := by simp [impL]

theorem vecR_ok {vs : List (List Int)} : vecR vs = 0 ↔ vs.length ≤ 10000 ∧ vecOk vs = true := by
  unfold vecR
  split
  · simp; omega
  · split <;> simp_all <;> omega
theorem vecOk_mem {vs : List (List Int)} (h : vecOk vs = true) {x : List Int} (hx : x ∈ vs) : x.length = len0 vs ∧ 1 ≤ x.length ∧ x.length ≤ 64 ∧ allR (-1048576) 1048576 x = true :=
  okV_iff.1 (List.all_eq_true.1 h x hx)
theorem bookOk_iff {vs : List (List Int)} : bookOk vs = true ↔ 1 ≤ vs.length ∧ vs.length ≤ 256 ∧ vecOk vs = true := by simp [bookOk, and_assoc]
theorem fitR_ok {vs bs : List (List Int)} : fitR vs bs = 0 ↔ vs.length ≤ 10000 ∧ vecOk vs = true ∧ bookOk bs = true ∧ (vs = [] ∨ len0 vs = len0 bs) := by
  unfold fitR
  split
  · rename_i h
    constructor
    · intro h0; cases h0
    · rintro ⟨h1, _, h3, _⟩; have := bookOk_iff.1 h3; omega
  · rename_i h
    split
    · rename_i h2; simp; exact ⟨by omega, h2⟩
    · rename_i h2
      constructor
      · intro h0; cases h0
      · rintro ⟨h1, h3⟩; exact absurd h3 h2
theorem vall_take_succ {p : List Int → Bool} {L : List (List Int)} {k : Nat} (hk : k < L.length) (h : (L.take k).all p = true) (hx : p L[k] = true) : (L.take (k + 1)).all p = true := by
  rw [List.take_succ_eq_append_getElem hk, List.all_append, h]; simp [hx]
theorem vall_false_at {p : List Int → Bool} {L : List (List Int)} {k : Nat} (hk : k < L.length) (hx : p L[k] = false) : L.all p = false := by
  rw [List.all_eq_false]
  exact ⟨L[k], List.getElem_mem hk, by simp [hx]⟩
end Ear
/- vectors, codebook, fits: what is a list of vectors -/
namespace Go.Proofs.YtnflpnbpigcfhabDoor
open Go.RowKit Ear

/-- the numbers of lists -/
abbrev vsOf (L : List Inn) : List (List Int) := L.map fun x => x.2.2
theorem len0_at {L : List Inn} (h : 0 < L.length) : len0 (vsOf L) = L[0].2.2.length := by
  cases L with
  | nil => simp at h
  | cons x L => rfl
set_option maxRecDepth 100000 in
set_option maxHeartbeats 1000000 in
theorem vectors_any (A : Option Addr) (c : Nat) (L : List Inn) (w : World) (h : Lies w A (lcs L)) (hi : ∀ x ∈ L, InOk w x) (hn : L.length ≤ 9223372036854775807) (r : Int) (hr : Hid (vecR (vsOf L) = r)) :
    Calls Tryd.prog 40 #[.slice A L.length c] w (RetIB r w) := by
  have hvl : (vsOf L).length = L.length := by simp
  have HI := Lib.hid hi
  clear hi
  by_cases h1 : 10000 < L.length
  · have hr' := hr.out
    unfold vecR at hr'
    rw [if_pos (by omega)] at hr'
    subst hr'
    clear hr
    go_enter Tryd.func40, Tryd.ntmps40
    go_wp2_with fail
    go_ret
    exact ⟨rfl, Below.refl _ _⟩
  · have hr' := hr.out
    unfold vecR at hr'
    rw [if_neg (by omega)] at hr'
    have HR := Lib.hid hr'
    have HVL := Lib.hid hvl
    clear hr hr' hvl
    go_enter Tryd.func40, Tryd.ntmps40
    go_wp2_with fail
    go_loopw [4, 10] (fun _ i wr => ∃ k : Nat, k ≤ L.length ∧ i = .int .i64 k ∧ Hid (((vsOf L).take k).all (okV (len0 (vsOf L))) = true) ∧ Below w.heap.size w wr) (fun _ i _ => L.length - (intOf i).toNat)
    case atStart => exact ⟨0, by omega, rfl, rfl, Below.refl _ _⟩
    case round =>
      obtain ⟨k, hk, rfl, hp, hb⟩ := hrel
      by_cases hlt : k < L.length
      · obtain ⟨bk, off, rfl, hbk, hc⟩ := (h.below hb).lat hlt
        obtain ⟨b0, o0, eA, hb0, hc0⟩ := (h.below hb).lat (k := 0) (by omega)
        cases eA
        rw [Nat.add_zero] at hc0
        have hx := (HI.out _ (List.getElem_mem hlt)).below hb
        have hL0 := len0_at (L := L) (by omega)
        have hget : (vsOf L)[k]'(by rw [HVL.out]; exact hlt) = L[k].2.2 := by simp
        have hno : okV L[0].2.2.length L[k].2.2 = false → r = 2 := fun hf => by
          rw [← HR.out]
          have : vecOk (vsOf L) = false := vall_false_at (L := vsOf L) (k := k) (by rw [HVL.out]; exact hlt) (by rw [hget, hL0]; exact hf)
          rw [this]; rfl
        have hyes : okV L[0].2.2.length L[k].2.2 = true → Hid (((vsOf L).take (k + 1)).all (okV (len0 (vsOf L))) = true) := fun ht =>
          Lib.hid <| vall_take_succ (L := vsOf L) (k := k) (by rw [HVL.out]; exact hlt) hp.out (by rw [hget, hL0]; exact ht)
        have HNO := Lib.hid hno
        have HYES := Lib.hid hyes
        have hl0 := (HI.out _ (List.getElem_mem (show 0 < L.length by omega))).2.2.1
        clear hno hyes hget hL0 hp
        obtain ⟨hxl, _, hxn, _, _⟩ := hx
        generalize hX0 : L[0] = X0 at *
        generalize hX : L[k] = X at *
        obtain ⟨XA, Xc, xl⟩ := X
        obtain ⟨YA, Yc, yl⟩ := X0
        clear hX hX0
        simp only at *
        by_cases c1 : xl.length = yl.length
        · by_cases c2 : 1 ≤ xl.length
          · by_cases c3 : xl.length ≤ 64
            · cases c4 : allR (-1048576) 1048576 xl with
              | true =>
                have H4 := Lib.hid c4
                have HY := HYES.out (okV_iff.2 ⟨c1, c2, c3, c4⟩)
                have q1 : ((xl.length : Int) != (yl.length : Int)) = false := by simp [c1]
                clear c4 HYES HNO c1
                go_wp2_with fail
                refine (within_any XA Xc xl 1048576 _ hxl (by omega) (by omega) (by omega) true H4).mono ?_
                rintro e w1 ⟨rfl, hb1⟩
                go_wp2_with fail
                exact ⟨⟨k + 1, by omega, by go_num, HY, hb.trans (hb1.mono hb.size)⟩, by simp [intOf]; omega⟩
              | false =>
                have H4 := Lib.hid c4
                have hz := HNO.out (by rw [Bool.eq_false_iff]; intro ht; have := (okV_iff.1 ht).2.2.2; rw [c4] at this; cases this)
                subst hz
                have q1 : ((xl.length : Int) != (yl.length : Int)) = false := by simp [c1]
                clear c4 HYES HNO c1 HR
                go_wp2_with fail
                refine (within_any XA Xc xl 1048576 _ hxl (by omega) (by omega) (by omega) false H4).mono ?_
                rintro e w1 ⟨rfl, hb1⟩
                go_wp2_with fail
                go_ret
                exact ⟨rfl, hb.trans (hb1.mono hb.size)⟩
            · have hz := HNO.out (by rw [Bool.eq_false_iff]; intro ht; exact c3 (okV_iff.1 ht).2.2.1)
              subst hz
              have q1 : ((xl.length : Int) != (yl.length : Int)) = false := by simp [c1]
              clear HYES HNO c1 HR
              go_wp2_with fail
              go_ret
              exact ⟨rfl, hb⟩
          · have hz := HNO.out (by rw [Bool.eq_false_iff]; intro ht; exact c2 (okV_iff.1 ht).2.1)
            subst hz
            have q1 : ((xl.length : Int) != (yl.length : Int)) = false := by simp [c1]
            clear HYES HNO c1 HR
            go_wp2_with fail
            go_ret
            exact ⟨rfl, hb⟩
        · have hz := HNO.out (by rw [Bool.eq_false_iff]; intro ht; exact c1 (okV_iff.1 ht).1)
          subst hz
          have q1 : ((xl.length : Int) != (yl.length : Int)) = true := by simp; omega
          clear HYES HNO c1 HR
          go_wp2_with fail
          go_ret
          exact ⟨rfl, hb⟩
      · have hz : r = 0 := by
          have := hp.out
          rw [List.take_of_length_le (by rw [HVL.out]; omega)] at this
          rw [← HR.out]
          have h2 : vecOk (vsOf L) = true := this
          rw [h2]; rfl
        subst hz
        clear HR
        go_wp2_with fail
        go_ret
        exact ⟨rfl, hb⟩
end Go.Proofs.YtnflpnbpigcfhabDoor
/- codebook, fits (written by mk_fit.py) -/
namespace Go.Proofs.YtnflpnbpigcfhabDoor
open Go.RowKit Ear

/-- what a list of lists is, as an argument -/
structure LL (w : World) (A : Option Addr) (L : List Inn) : Prop where
  lies : Lies w A (lcs L)
  inn : ∀ x ∈ L, InOk w x
theorem LL.below {w w' : World} {A : Option Addr} {L : List Inn} (h : LL w A L) (hb : Below w.heap.size w w') : LL w' A L := ⟨h.lies.below hb, fun x hx => (h.inn x hx).below hb⟩

set_option maxHeartbeats 400000 in
theorem codebook_any (A : Option Addr) (c : Nat) (L : List Inn) (w : World) (h : LL w A L) (hn : L.length ≤ 9223372036854775807) (r : Bool) (hr : Hid (bookOk (vsOf L) = r)) :
    Calls Tryd.prog 57 #[.slice A L.length c] w (RetB r w) := by
  have hvl : (vsOf L).length = L.length := by simp
  by_cases h1 : 1 ≤ L.length
  · by_cases h2 : L.length ≤ 256
    · have hr' := hr.out
      unfold bookOk at hr'
      rw [hvl] at hr'
      simp only [h1, h2, decide_true, Bool.true_and] at hr'
      have hv : vecR (vsOf L) = if vecOk (vsOf L) = true then 0 else 2 := by unfold vecR; rw [if_neg (by omega)]
      rw [hr'] at hv
      have HV := Lib.hid hv
      clear hr hr' hv hvl
      cases r
      all_goals
        go_enter Tryd.func57, Tryd.ntmps57
        go_wp2_with fail
        refine (vectors_any A c L _ h.lies h.inn hn _ HV).mono ?_
        rintro e w1 ⟨rfl, hb1⟩
        go_wp2_with fail
        go_ret
        exact ⟨rfl, hb1⟩
    · have hz : r = false := by rw [← hr.out]; unfold bookOk; rw [hvl]; simp [h2]
      subst hz
      clear hr hvl
      go_enter Tryd.func57, Tryd.ntmps57
      go_wp2_with fail
      go_ret
      exact ⟨rfl, Below.refl _ _⟩
  · have hz : r = false := by rw [← hr.out]; unfold bookOk; rw [hvl]; simp [h1]
    subst hz
    clear hr hvl
    go_enter Tryd.func57, Tryd.ntmps57
    go_wp2_with fail
    go_ret
    exact ⟨rfl, Below.refl _ _⟩

set_option maxHeartbeats 400000 in
theorem fits_long (A B : Option Addr) (c d : Nat) (L M : List Inn) (w : World) (hh : 10000 < L.length ∨ (L.length ≤ 10000 ∧ 10000 < M.length)) :
    Calls Tryd.prog 38 #[.slice A L.length c, .slice B M.length d] w (RetIB 5 w) := by
  rcases hh with h1 | ⟨h1, h2⟩
  all_goals
    go_enter Tryd.func38, Tryd.ntmps38
    go_wp2_with fail
    go_ret
    exact ⟨rfl, Below.refl _ _⟩

set_option maxRecDepth 100000 in
set_option maxHeartbeats 2000000 in
theorem fits_bad (A B : Option Addr) (c d : Nat) (L M : List Inn) (w : World) (hL : LL w A L) (_ : LL w B M) (h1 : L.length ≤ 10000) (h2 : M.length ≤ 10000) (HV : Hid (vecR (vsOf L) = 2)) :
    Calls Tryd.prog 38 #[.slice A L.length c, .slice B M.length d] w (RetIB 2 w) := by
  go_enter Tryd.func38, Tryd.ntmps38
  go_wp2_with fail
  refine wp_region_held0 (S := fun w' => True) 24 rfl (by kernel_rfl) trivial (fun hHeld => ?_)
  refine wpAnyH_takeD (i := 0) 13 (v := ?_) rfl rfl (by kernel_rfl) (by kernel_rfl) (by kernel_rfl) (fun _ _ _ h => h) ⟨by rfl, ?_⟩ hHeld ?_
  rotate_left
  · intro w' hSw; go_simp; try with_reducible rfl
  simp only [List.setIfInBounds_toArray, List.set_cons_zero, List.set_cons_succ]
  refine wpAnyH_oneD 1 rfl (by kernel_rfl) rfl (fun K hK => ?_)
  go_simp
  refine (vectors_any A c L _ (Lies.drew hL.lies) (fun x hx => ⟨Lies.drew (hL.inn x hx).1, (hL.inn x hx).2⟩) (by omega) 2 HV).mono ?_
  rintro e w1 ⟨rfl, hb1⟩
  have hb1' := below_undrew hb1
  go_simp
  refine hK _ _ trivial (fun hHeld => ?_)
  clear hK K
  refine wpAnyH_takeD (i := 2) 15 (v := ?_) rfl rfl (by kernel_rfl) (by kernel_rfl) (by kernel_rfl) (fun _ _ _ h => h) ⟨by rfl, ?_⟩ hHeld ?_
  rotate_left
  · intro w' hSw; go_simp; try with_reducible rfl
  simp only [List.setIfInBounds_toArray, List.set_cons_zero, List.set_cons_succ]
  refine wpAnyH_takeD (i := 3) 16 (v := ?_) rfl rfl (by kernel_rfl) (by kernel_rfl) (by kernel_rfl) (fun _ _ _ h => h) ⟨by rfl, ?_⟩ hHeld ?_
  rotate_left
  · intro w' hSw; go_simp; try with_reducible rfl
  simp only [List.setIfInBounds_toArray, List.set_cons_zero, List.set_cons_succ]
  refine wpAnyH_skipD (i := 4) 17 rfl rfl (by kernel_rfl) (by kernel_rfl) (by kernel_rfl) (fun _ _ _ h => h) (by rfl) hHeld ?_
  simp only [List.setIfInBounds_toArray, List.set_cons_zero, List.set_cons_succ]
  refine wpAnyH_skipD (i := 5) 18 rfl rfl (by kernel_rfl) (by kernel_rfl) (by kernel_rfl) (fun _ _ _ h => h) (by rfl) hHeld ?_
  simp only [List.setIfInBounds_toArray, List.set_cons_zero, List.set_cons_succ]
  refine wpAnyH_skipD (i := 6) 19 rfl rfl (by kernel_rfl) (by kernel_rfl) (by kernel_rfl) (fun _ _ _ h => h) (by rfl) hHeld ?_
  simp only [List.setIfInBounds_toArray, List.set_cons_zero, List.set_cons_succ]
  refine wpAnyH_takeD (i := 7) 20 (v := ?_) rfl rfl (by kernel_rfl) (by kernel_rfl) (by kernel_rfl) (fun _ _ _ h => h) ⟨by rfl, ?_⟩ hHeld ?_
  rotate_left
  · intro w' hSw; go_simp; try with_reducible rfl
  simp only [List.setIfInBounds_toArray, List.set_cons_zero, List.set_cons_succ]
  refine wpAnyH_takeD (i := 8) 21 (v := ?_) rfl rfl (by kernel_rfl) (by kernel_rfl) (by kernel_rfl) (fun _ _ _ h => h) ⟨by rfl, ?_⟩ hHeld ?_
  rotate_left
  · intro w' hSw; go_simp; try with_reducible rfl
  simp only [List.setIfInBounds_toArray, List.set_cons_zero, List.set_cons_succ]
  refine wpAnyH_skipD (i := 9) 22 rfl rfl (by kernel_rfl) (by kernel_rfl) (by kernel_rfl) (fun _ _ _ h => h) (by rfl) hHeld ?_
  simp only [List.setIfInBounds_toArray, List.set_cons_zero, List.set_cons_succ]
  refine wpAnyH_skipD (i := 10) 23 rfl rfl (by kernel_rfl) (by kernel_rfl) (by kernel_rfl) (fun _ _ _ h => h) (by rfl) hHeld ?_
  simp only [List.setIfInBounds_toArray, List.set_cons_zero, List.set_cons_succ]
  refine wpAnyH_skipD (i := 11) 24 rfl rfl (by kernel_rfl) (by kernel_rfl) (by kernel_rfl) (fun _ _ _ h => h) (by rfl) hHeld ?_
  simp only [List.setIfInBounds_toArray, List.set_cons_zero, List.set_cons_succ]
  refine wpAnyH_skipD (i := 12) 25 rfl rfl (by kernel_rfl) (by kernel_rfl) (by kernel_rfl) (fun _ _ _ h => h) (by rfl) hHeld ?_
  simp only [List.setIfInBounds_toArray, List.set_cons_zero, List.set_cons_succ]
  refine wpAnyH_skipD (i := 13) 26 rfl rfl (by kernel_rfl) (by kernel_rfl) (by kernel_rfl) (fun _ _ _ h => h) (by rfl) hHeld ?_
  simp only [List.setIfInBounds_toArray, List.set_cons_zero, List.set_cons_succ]
  refine wpAnyH_skipD (i := 14) 27 rfl rfl (by kernel_rfl) (by kernel_rfl) (by kernel_rfl) (fun _ _ _ h => h) (by rfl) hHeld ?_
  simp only [List.setIfInBounds_toArray, List.set_cons_zero, List.set_cons_succ]
  refine wpAnyH_skipD (i := 15) 28 rfl rfl (by kernel_rfl) (by kernel_rfl) (by kernel_rfl) (fun _ _ _ h => h) (by rfl) hHeld ?_
  simp only [List.setIfInBounds_toArray, List.set_cons_zero, List.set_cons_succ]
  refine wpAnyH_skipD (i := 16) 29 rfl rfl (by kernel_rfl) (by kernel_rfl) (by kernel_rfl) (fun _ _ _ h => h) (by rfl) hHeld ?_
  simp only [List.setIfInBounds_toArray, List.set_cons_zero, List.set_cons_succ]
  refine wpAnyH_skipD (i := 17) 30 rfl rfl (by kernel_rfl) (by kernel_rfl) (by kernel_rfl) (fun _ _ _ h => h) (by rfl) hHeld ?_
  simp only [List.setIfInBounds_toArray, List.set_cons_zero, List.set_cons_succ]
  refine wpAnyH_skipD (i := 18) 31 rfl rfl (by kernel_rfl) (by kernel_rfl) (by kernel_rfl) (fun _ _ _ h => h) (by rfl) hHeld ?_
  simp only [List.setIfInBounds_toArray, List.set_cons_zero, List.set_cons_succ]
  refine wpAnyH_skipD (i := 19) 32 rfl rfl (by kernel_rfl) (by kernel_rfl) (by kernel_rfl) (fun _ _ _ h => h) (by rfl) hHeld ?_
  simp only [List.setIfInBounds_toArray, List.set_cons_zero, List.set_cons_succ]
  refine wpAnyH_skipD (i := 20) 33 rfl rfl (by kernel_rfl) (by kernel_rfl) (by kernel_rfl) (fun _ _ _ h => h) (by rfl) hHeld ?_
  simp only [List.setIfInBounds_toArray, List.set_cons_zero, List.set_cons_succ]
  refine wpAnyH_skipD (i := 21) 34 rfl rfl (by kernel_rfl) (by kernel_rfl) (by kernel_rfl) (fun _ _ _ h => h) (by rfl) hHeld ?_
  simp only [List.setIfInBounds_toArray, List.set_cons_zero, List.set_cons_succ]
  refine wpAnyH_skipD (i := 22) 35 rfl rfl (by kernel_rfl) (by kernel_rfl) (by kernel_rfl) (fun _ _ _ h => h) (by rfl) hHeld ?_
  simp only [List.setIfInBounds_toArray, List.set_cons_zero, List.set_cons_succ]
  refine wpAnyH_takeD (i := 23) 36 (v := ?_) rfl rfl (by kernel_rfl) (by kernel_rfl) (by kernel_rfl) (fun _ _ _ h => h) ⟨by rfl, ?_⟩ hHeld ?_
  rotate_left
  · intro w' hSw; go_simp; try with_reducible rfl
  simp only [List.setIfInBounds_toArray, List.set_cons_zero, List.set_cons_succ]
  refine wpAnyH_done (by kernel_rfl) ?_ _
  go_wp2_with fail
  go_ret
  exact ⟨rfl, hb1'⟩

set_option maxRecDepth 100000 in
set_option maxHeartbeats 2000000 in
theorem fits_nobook (A B : Option Addr) (c d : Nat) (L M : List Inn) (w : World) (hL : LL w A L) (hM : LL w B M) (h1 : L.length ≤ 10000) (h2 : M.length ≤ 10000) (HV : Hid (vecR (vsOf L) = 0)) (HB : Hid (bookOk (vsOf M) = false)) :
    Calls Tryd.prog 38 #[.slice A L.length c, .slice B M.length d] w (RetIB 2 w) := by
  go_enter Tryd.func38, Tryd.ntmps38
  go_wp2_with fail
  refine wp_region_held0 (S := fun w' => True) 24 rfl (by kernel_rfl) trivial (fun hHeld => ?_)
  refine wpAnyH_takeD (i := 0) 13 (v := ?_) rfl rfl (by kernel_rfl) (by kernel_rfl) (by kernel_rfl) (fun _ _ _ h => h) ⟨by rfl, ?_⟩ hHeld ?_
  rotate_left
  · intro w' hSw; go_simp; try with_reducible rfl
  simp only [List.setIfInBounds_toArray, List.set_cons_zero, List.set_cons_succ]
  refine wpAnyH_oneD 1 rfl (by kernel_rfl) rfl (fun K hK => ?_)
  go_simp
  refine (vectors_any A c L _ (Lies.drew hL.lies) (fun x hx => ⟨Lies.drew (hL.inn x hx).1, (hL.inn x hx).2⟩) (by omega) 0 HV).mono ?_
  rintro e w1 ⟨rfl, hb1⟩
  have hb1' := below_undrew hb1
  go_simp
  refine hK _ _ trivial (fun hHeld => ?_)
  clear hK K
  refine wpAnyH_takeD (i := 2) 15 (v := ?_) rfl rfl (by kernel_rfl) (by kernel_rfl) (by kernel_rfl) (fun _ _ _ h => h) ⟨by rfl, ?_⟩ hHeld ?_
  rotate_left
  · intro w' hSw; go_simp; try with_reducible rfl
  simp only [List.setIfInBounds_toArray, List.set_cons_zero, List.set_cons_succ]
  refine wpAnyH_takeD (i := 3) 16 (v := ?_) rfl rfl (by kernel_rfl) (by kernel_rfl) (by kernel_rfl) (fun _ _ _ h => h) ⟨by rfl, ?_⟩ hHeld ?_
  rotate_left
  · intro w' hSw; go_simp; try with_reducible rfl
  simp only [List.setIfInBounds_toArray, List.set_cons_zero, List.set_cons_succ]
  refine wpAnyH_takeD (i := 4) 17 (v := ?_) rfl rfl (by kernel_rfl) (by kernel_rfl) (by kernel_rfl) (fun _ _ _ h => h) ⟨by rfl, ?_⟩ hHeld ?_
  rotate_left
  · intro w' hSw; go_simp; try with_reducible rfl
  simp only [List.setIfInBounds_toArray, List.set_cons_zero, List.set_cons_succ]
  refine wpAnyH_oneW 5 rfl (by kernel_rfl) (by rfl) (fun K hK => ?_)
  go_simp
  refine (codebook_any B d M _ (hM.below hb1') (by omega) false HB).mono ?_
  rintro e w2 ⟨rfl, hb2⟩
  go_simp
  refine hK _ _ trivial (fun hHeld => ?_)
  clear hK K
  refine wpAnyH_takeD (i := 6) 19 (v := ?_) rfl rfl (by kernel_rfl) (by kernel_rfl) (by kernel_rfl) (fun _ _ _ h => h) ⟨by rfl, ?_⟩ hHeld ?_
  rotate_left
  · intro w' hSw; go_simp; try with_reducible rfl
  simp only [List.setIfInBounds_toArray, List.set_cons_zero, List.set_cons_succ]
  refine wpAnyH_takeD (i := 7) 20 (v := ?_) rfl rfl (by kernel_rfl) (by kernel_rfl) (by kernel_rfl) (fun _ _ _ h => h) ⟨by rfl, ?_⟩ hHeld ?_
  rotate_left
  · intro w' hSw; go_simp; try with_reducible rfl
  simp only [List.setIfInBounds_toArray, List.set_cons_zero, List.set_cons_succ]
  refine wpAnyH_takeD (i := 8) 21 (v := ?_) rfl rfl (by kernel_rfl) (by kernel_rfl) (by kernel_rfl) (fun _ _ _ h => h) ⟨by rfl, ?_⟩ hHeld ?_
  rotate_left
  · intro w' hSw; go_simp; try with_reducible rfl
  simp only [List.setIfInBounds_toArray, List.set_cons_zero, List.set_cons_succ]
  refine wpAnyH_skipD (i := 9) 22 rfl rfl (by kernel_rfl) (by kernel_rfl) (by kernel_rfl) (fun _ _ _ h => h) (by rfl) hHeld ?_
  simp only [List.setIfInBounds_toArray, List.set_cons_zero, List.set_cons_succ]
  refine wpAnyH_skipD (i := 10) 23 rfl rfl (by kernel_rfl) (by kernel_rfl) (by kernel_rfl) (fun _ _ _ h => h) (by rfl) hHeld ?_
  simp only [List.setIfInBounds_toArray, List.set_cons_zero, List.set_cons_succ]
  refine wpAnyH_skipD (i := 11) 24 rfl rfl (by kernel_rfl) (by kernel_rfl) (by kernel_rfl) (fun _ _ _ h => h) (by rfl) hHeld ?_
  simp only [List.setIfInBounds_toArray, List.set_cons_zero, List.set_cons_succ]
  refine wpAnyH_skipD (i := 12) 25 rfl rfl (by kernel_rfl) (by kernel_rfl) (by kernel_rfl) (fun _ _ _ h => h) (by rfl) hHeld ?_
  simp only [List.setIfInBounds_toArray, List.set_cons_zero, List.set_cons_succ]
  refine wpAnyH_skipD (i := 13) 26 rfl rfl (by kernel_rfl) (by kernel_rfl) (by kernel_rfl) (fun _ _ _ h => h) (by rfl) hHeld ?_
  simp only [List.setIfInBounds_toArray, List.set_cons_zero, List.set_cons_succ]
  refine wpAnyH_skipD (i := 14) 27 rfl rfl (by kernel_rfl) (by kernel_rfl) (by kernel_rfl) (fun _ _ _ h => h) (by rfl) hHeld ?_
  simp only [List.setIfInBounds_toArray, List.set_cons_zero, List.set_cons_succ]
  refine wpAnyH_skipD (i := 15) 28 rfl rfl (by kernel_rfl) (by kernel_rfl) (by kernel_rfl) (fun _ _ _ h => h) (by rfl) hHeld ?_
  simp only [List.setIfInBounds_toArray, List.set_cons_zero, List.set_cons_succ]
  refine wpAnyH_skipD (i := 16) 29 rfl rfl (by kernel_rfl) (by kernel_rfl) (by kernel_rfl) (fun _ _ _ h => h) (by rfl) hHeld ?_
  simp only [List.setIfInBounds_toArray, List.set_cons_zero, List.set_cons_succ]
  refine wpAnyH_skipD (i := 17) 30 rfl rfl (by kernel_rfl) (by kernel_rfl) (by kernel_rfl) (fun _ _ _ h => h) (by rfl) hHeld ?_
  simp only [List.setIfInBounds_toArray, List.set_cons_zero, List.set_cons_succ]
  refine wpAnyH_skipD (i := 18) 31 rfl rfl (by kernel_rfl) (by kernel_rfl) (by kernel_rfl) (fun _ _ _ h => h) (by rfl) hHeld ?_
  simp only [List.setIfInBounds_toArray, List.set_cons_zero, List.set_cons_succ]
  refine wpAnyH_skipD (i := 19) 32 rfl rfl (by kernel_rfl) (by kernel_rfl) (by kernel_rfl) (fun _ _ _ h => h) (by rfl) hHeld ?_
  simp only [List.setIfInBounds_toArray, List.set_cons_zero, List.set_cons_succ]
  refine wpAnyH_skipD (i := 20) 33 rfl rfl (by kernel_rfl) (by kernel_rfl) (by kernel_rfl) (fun _ _ _ h => h) (by rfl) hHeld ?_
  simp only [List.setIfInBounds_toArray, List.set_cons_zero, List.set_cons_succ]
  refine wpAnyH_skipD (i := 21) 34 rfl rfl (by kernel_rfl) (by kernel_rfl) (by kernel_rfl) (fun _ _ _ h => h) (by rfl) hHeld ?_
  simp only [List.setIfInBounds_toArray, List.set_cons_zero, List.set_cons_succ]
  refine wpAnyH_skipD (i := 22) 35 rfl rfl (by kernel_rfl) (by kernel_rfl) (by kernel_rfl) (fun _ _ _ h => h) (by rfl) hHeld ?_
  simp only [List.setIfInBounds_toArray, List.set_cons_zero, List.set_cons_succ]
  refine wpAnyH_takeD (i := 23) 36 (v := ?_) rfl rfl (by kernel_rfl) (by kernel_rfl) (by kernel_rfl) (fun _ _ _ h => h) ⟨by rfl, ?_⟩ hHeld ?_
  rotate_left
  · intro w' hSw; go_simp; try with_reducible rfl
  simp only [List.setIfInBounds_toArray, List.set_cons_zero, List.set_cons_succ]
  refine wpAnyH_done (by kernel_rfl) ?_ _
  go_wp2_with fail
  go_ret
  exact ⟨rfl, hb1'.trans (hb2.mono hb1'.size)⟩

set_option maxRecDepth 100000 in
set_option maxHeartbeats 2000000 in
theorem fits_empty (A B : Option Addr) (c d : Nat) (M : List Inn) (w : World) (hM : LL w B M) (h2 : M.length ≤ 10000) (HB : Hid (bookOk (vsOf M) = true)) :
    Calls Tryd.prog 38 #[.slice A 0 c, .slice B M.length d] w (RetIB 0 w) := by
  have HV : Hid (vecR (vsOf []) = 0) := rfl
  go_enter Tryd.func38, Tryd.ntmps38
  go_wp2_with fail
  refine wp_region_held0 (S := fun w' => True) 24 rfl (by kernel_rfl) trivial (fun hHeld => ?_)
  refine wpAnyH_takeD (i := 0) 13 (v := ?_) rfl rfl (by kernel_rfl) (by kernel_rfl) (by kernel_rfl) (fun _ _ _ h => h) ⟨by rfl, ?_⟩ hHeld ?_
  rotate_left
  · intro w' hSw; go_simp; try with_reducible rfl
  simp only [List.setIfInBounds_toArray, List.set_cons_zero, List.set_cons_succ]
  refine wpAnyH_oneD 1 rfl (by kernel_rfl) rfl (fun K hK => ?_)
  go_simp
  refine (vectors_any A c [] _ (Lies.nil _ _) (fun x hx => by cases hx) (by simp) 0 HV).mono ?_
  rintro e w1 ⟨rfl, hb1⟩
  have hb1' := below_undrew hb1
  go_simp
  refine hK _ _ trivial (fun hHeld => ?_)
  clear hK K
  refine wpAnyH_takeD (i := 2) 15 (v := ?_) rfl rfl (by kernel_rfl) (by kernel_rfl) (by kernel_rfl) (fun _ _ _ h => h) ⟨by rfl, ?_⟩ hHeld ?_
  rotate_left
  · intro w' hSw; go_simp; try with_reducible rfl
  simp only [List.setIfInBounds_toArray, List.set_cons_zero, List.set_cons_succ]
  refine wpAnyH_takeD (i := 3) 16 (v := ?_) rfl rfl (by kernel_rfl) (by kernel_rfl) (by kernel_rfl) (fun _ _ _ h => h) ⟨by rfl, ?_⟩ hHeld ?_
  rotate_left
  · intro w' hSw; go_simp; try with_reducible rfl
  simp only [List.setIfInBounds_toArray, List.set_cons_zero, List.set_cons_succ]
  refine wpAnyH_takeD (i := 4) 17 (v := ?_) rfl rfl (by kernel_rfl) (by kernel_rfl) (by kernel_rfl) (fun _ _ _ h => h) ⟨by rfl, ?_⟩ hHeld ?_
  rotate_left
  · intro w' hSw; go_simp; try with_reducible rfl
  simp only [List.setIfInBounds_toArray, List.set_cons_zero, List.set_cons_succ]
  refine wpAnyH_oneW 5 rfl (by kernel_rfl) (by rfl) (fun K hK => ?_)
  go_simp
  refine (codebook_any B d M _ (hM.below hb1') (by omega) true HB).mono ?_
  rintro e w2 ⟨rfl, hb2⟩
  go_simp
  refine hK _ _ trivial (fun hHeld => ?_)
  clear hK K
  refine wpAnyH_takeD (i := 6) 19 (v := ?_) rfl rfl (by kernel_rfl) (by kernel_rfl) (by kernel_rfl) (fun _ _ _ h => h) ⟨by rfl, ?_⟩ hHeld ?_
  rotate_left
  · intro w' hSw; go_simp; try with_reducible rfl
  simp only [List.setIfInBounds_toArray, List.set_cons_zero, List.set_cons_succ]
  refine wpAnyH_takeD (i := 7) 20 (v := ?_) rfl rfl (by kernel_rfl) (by kernel_rfl) (by kernel_rfl) (fun _ _ _ h => h) ⟨by rfl, ?_⟩ hHeld ?_
  rotate_left
  · intro w' hSw; go_simp; try with_reducible rfl
  simp only [List.setIfInBounds_toArray, List.set_cons_zero, List.set_cons_succ]
  refine wpAnyH_takeD (i := 8) 21 (v := ?_) rfl rfl (by kernel_rfl) (by kernel_rfl) (by kernel_rfl) (fun _ _ _ h => h) ⟨by rfl, ?_⟩ hHeld ?_
  rotate_left
  · intro w' hSw; go_simp; try with_reducible rfl
  simp only [List.setIfInBounds_toArray, List.set_cons_zero, List.set_cons_succ]
  refine wpAnyH_takeD (i := 9) 22 (v := ?_) rfl rfl (by kernel_rfl) (by kernel_rfl) (by kernel_rfl) (fun _ _ _ h => h) ⟨by rfl, ?_⟩ hHeld ?_
  rotate_left
  · intro w' hSw; go_simp; try with_reducible rfl
  simp only [List.setIfInBounds_toArray, List.set_cons_zero, List.set_cons_succ]
  refine wpAnyH_takeD (i := 10) 23 (v := ?_) rfl rfl (by kernel_rfl) (by kernel_rfl) (by kernel_rfl) (fun _ _ _ h => h) ⟨by rfl, ?_⟩ hHeld ?_
  rotate_left
  · intro w' hSw; go_simp; try with_reducible rfl
  simp only [List.setIfInBounds_toArray, List.set_cons_zero, List.set_cons_succ]
  refine wpAnyH_takeD (i := 11) 24 (v := ?_) rfl rfl (by kernel_rfl) (by kernel_rfl) (by kernel_rfl) (fun _ _ _ h => h) ⟨by rfl, ?_⟩ hHeld ?_
  rotate_left
  · intro w' hSw; go_simp; try with_reducible rfl
  simp only [List.setIfInBounds_toArray, List.set_cons_zero, List.set_cons_succ]
  refine wpAnyH_takeD (i := 12) 25 (v := ?_) rfl rfl (by kernel_rfl) (by kernel_rfl) (by kernel_rfl) (fun _ _ _ h => h) ⟨by rfl, ?_⟩ hHeld ?_
  rotate_left
  · intro w' hSw; go_simp; try with_reducible rfl
  simp only [List.setIfInBounds_toArray, List.set_cons_zero, List.set_cons_succ]
  refine wpAnyH_skipD (i := 13) 26 rfl rfl (by kernel_rfl) (by kernel_rfl) (by kernel_rfl) (fun _ _ _ h => h) (by rfl) hHeld ?_
  simp only [List.setIfInBounds_toArray, List.set_cons_zero, List.set_cons_succ]
  refine wpAnyH_skipD (i := 14) 27 rfl rfl (by kernel_rfl) (by kernel_rfl) (by kernel_rfl) (fun _ _ _ h => h) (by rfl) hHeld ?_
  simp only [List.setIfInBounds_toArray, List.set_cons_zero, List.set_cons_succ]
  refine wpAnyH_skipD (i := 15) 28 rfl rfl (by kernel_rfl) (by kernel_rfl) (by kernel_rfl) (fun _ _ _ h => h) (by rfl) hHeld ?_
  simp only [List.setIfInBounds_toArray, List.set_cons_zero, List.set_cons_succ]
  refine wpAnyH_skipD (i := 16) 29 rfl rfl (by kernel_rfl) (by kernel_rfl) (by kernel_rfl) (fun _ _ _ h => h) (by rfl) hHeld ?_
  simp only [List.setIfInBounds_toArray, List.set_cons_zero, List.set_cons_succ]
  refine wpAnyH_skipD (i := 17) 30 rfl rfl (by kernel_rfl) (by kernel_rfl) (by kernel_rfl) (fun _ _ _ h => h) (by rfl) hHeld ?_
  simp only [List.setIfInBounds_toArray, List.set_cons_zero, List.set_cons_succ]
  refine wpAnyH_skipD (i := 18) 31 rfl rfl (by kernel_rfl) (by kernel_rfl) (by kernel_rfl) (fun _ _ _ h => h) (by rfl) hHeld ?_
  simp only [List.setIfInBounds_toArray, List.set_cons_zero, List.set_cons_succ]
  refine wpAnyH_skipD (i := 19) 32 rfl rfl (by kernel_rfl) (by kernel_rfl) (by kernel_rfl) (fun _ _ _ h => h) (by rfl) hHeld ?_
  simp only [List.setIfInBounds_toArray, List.set_cons_zero, List.set_cons_succ]
  refine wpAnyH_skipD (i := 20) 33 rfl rfl (by kernel_rfl) (by kernel_rfl) (by kernel_rfl) (fun _ _ _ h => h) (by rfl) hHeld ?_
  simp only [List.setIfInBounds_toArray, List.set_cons_zero, List.set_cons_succ]
  refine wpAnyH_skipD (i := 21) 34 rfl rfl (by kernel_rfl) (by kernel_rfl) (by kernel_rfl) (fun _ _ _ h => h) (by rfl) hHeld ?_
  simp only [List.setIfInBounds_toArray, List.set_cons_zero, List.set_cons_succ]
  refine wpAnyH_takeD (i := 22) 35 (v := ?_) rfl rfl (by kernel_rfl) (by kernel_rfl) (by kernel_rfl) (fun _ _ _ h => h) ⟨by rfl, ?_⟩ hHeld ?_
  rotate_left
  · intro w' hSw; go_simp; try with_reducible rfl
  simp only [List.setIfInBounds_toArray, List.set_cons_zero, List.set_cons_succ]
  refine wpAnyH_takeD (i := 23) 36 (v := ?_) rfl rfl (by kernel_rfl) (by kernel_rfl) (by kernel_rfl) (fun _ _ _ h => h) ⟨by rfl, ?_⟩ hHeld ?_
  rotate_left
  · intro w' hSw; go_simp; try with_reducible rfl
  simp only [List.setIfInBounds_toArray, List.set_cons_zero, List.set_cons_succ]
  refine wpAnyH_done (by kernel_rfl) ?_ _
  go_wp2_with fail
  go_ret
  exact ⟨rfl, hb1'.trans (hb2.mono hb1'.size)⟩

set_option maxRecDepth 100000 in
set_option maxHeartbeats 2000000 in
theorem fits_eq (A B : Option Addr) (c d : Nat) (L M : List Inn) (w : World) (hL : LL w A L) (hM : LL w B M) (h1 : L.length ≤ 10000) (h2 : M.length ≤ 10000) (HV : Hid (vecR (vsOf L) = 0)) (HB : Hid (bookOk (vsOf M) = true)) (h0 : 0 < L.length) (m0 : 0 < M.length) (he : L[0].2.2.length = M[0].2.2.length) :
    Calls Tryd.prog 38 #[.slice A L.length c, .slice B M.length d] w (RetIB 0 w) := by
  obtain ⟨bA, oA, rfl, hbA, hcA⟩ := hL.lies.lat h0
  obtain ⟨bB, oB, rfl, hbB, hcB⟩ := hM.lies.lat m0
  rw [Nat.add_zero] at hcA hcB
  have q1 : ((L[0].2.2.length : Int) != (M[0].2.2.length : Int)) = false := by simp; omega
  have hd : decide ((0 : Int) < (L.length : Int)) = true := by simp; omega
  clear he
  generalize L[0] = X at *
  generalize M[0] = Y at *
  obtain ⟨XA, Xc, xl⟩ := X
  obtain ⟨YA, Yc, yl⟩ := Y
  simp only at hcA hcB q1
  go_enter Tryd.func38, Tryd.ntmps38
  go_wp2_with fail
  refine wp_region_held0 (S := fun w' => w'.cell? ⟨bA, oA, none⟩ = some (.slice XA (xl : List Int).length Xc) ∧ w'.cell? ⟨bB, oB, none⟩ = some (.slice YA (yl : List Int).length Yc)) 24 rfl (by kernel_rfl) ⟨hcA, hcB⟩ (fun hHeld => ?_)
  refine wpAnyH_takeD (i := 0) 13 (v := ?_) rfl rfl (by kernel_rfl) (by kernel_rfl) (by kernel_rfl) (fun _ _ _ h => h) ⟨by rfl, ?_⟩ hHeld ?_
  rotate_left
  · intro w' hSw; obtain ⟨sA, sB⟩ := hSw; go_simp; try with_reducible rfl
  simp only [List.setIfInBounds_toArray, List.set_cons_zero, List.set_cons_succ]
  refine wpAnyH_oneD 1 rfl (by kernel_rfl) rfl (fun K hK => ?_)
  go_simp
  refine (vectors_any (some ⟨bA, oA, none⟩) c L _ (Lies.drew hL.lies) (fun x hx => ⟨Lies.drew (hL.inn x hx).1, (hL.inn x hx).2⟩) (by omega) 0 HV).mono ?_
  rintro e w1 ⟨rfl, hb1⟩
  have hb1' := below_undrew hb1
  go_simp
  refine hK _ _ ⟨(hb1'.cell (p := ⟨bA, oA, none⟩) hbA).trans hcA, (hb1'.cell (p := ⟨bB, oB, none⟩) hbB).trans hcB⟩ (fun hHeld => ?_)
  clear hK K
  refine wpAnyH_takeD (i := 2) 15 (v := ?_) rfl rfl (by kernel_rfl) (by kernel_rfl) (by kernel_rfl) (fun _ _ _ h => h) ⟨by rfl, ?_⟩ hHeld ?_
  rotate_left
  · intro w' hSw; obtain ⟨sA, sB⟩ := hSw; go_simp; try with_reducible rfl
  simp only [List.setIfInBounds_toArray, List.set_cons_zero, List.set_cons_succ]
  refine wpAnyH_takeD (i := 3) 16 (v := ?_) rfl rfl (by kernel_rfl) (by kernel_rfl) (by kernel_rfl) (fun _ _ _ h => h) ⟨by rfl, ?_⟩ hHeld ?_
  rotate_left
  · intro w' hSw; obtain ⟨sA, sB⟩ := hSw; go_simp; try with_reducible rfl
  simp only [List.setIfInBounds_toArray, List.set_cons_zero, List.set_cons_succ]
  refine wpAnyH_takeD (i := 4) 17 (v := ?_) rfl rfl (by kernel_rfl) (by kernel_rfl) (by kernel_rfl) (fun _ _ _ h => h) ⟨by rfl, ?_⟩ hHeld ?_
  rotate_left
  · intro w' hSw; obtain ⟨sA, sB⟩ := hSw; go_simp; try with_reducible rfl
  simp only [List.setIfInBounds_toArray, List.set_cons_zero, List.set_cons_succ]
  refine wpAnyH_oneW 5 rfl (by kernel_rfl) (by rfl) (fun K hK => ?_)
  go_simp
  refine (codebook_any (some ⟨bB, oB, none⟩) d M _ (hM.below hb1') (by omega) true HB).mono ?_
  rintro e w2 ⟨rfl, hb2⟩
  have hb3 : Below w.heap.size w w2 := hb1'.trans (hb2.mono hb1'.size)
  go_simp
  refine hK _ _ ⟨(hb3.cell (p := ⟨bA, oA, none⟩) hbA).trans hcA, (hb3.cell (p := ⟨bB, oB, none⟩) hbB).trans hcB⟩ (fun hHeld => ?_)
  clear hK K
  refine wpAnyH_takeD (i := 6) 19 (v := ?_) rfl rfl (by kernel_rfl) (by kernel_rfl) (by kernel_rfl) (fun _ _ _ h => h) ⟨by rfl, ?_⟩ hHeld ?_
  rotate_left
  · intro w' hSw; obtain ⟨sA, sB⟩ := hSw; go_simp; try with_reducible rfl
  simp only [List.setIfInBounds_toArray, List.set_cons_zero, List.set_cons_succ]
  refine wpAnyH_takeD (i := 7) 20 (v := ?_) rfl rfl (by kernel_rfl) (by kernel_rfl) (by kernel_rfl) (fun _ _ _ h => h) ⟨by rfl, ?_⟩ hHeld ?_
  rotate_left
  · intro w' hSw; obtain ⟨sA, sB⟩ := hSw; go_simp; try with_reducible rfl
  simp only [List.setIfInBounds_toArray, List.set_cons_zero, List.set_cons_succ]
  refine wpAnyH_takeD (i := 8) 21 (v := ?_) rfl rfl (by kernel_rfl) (by kernel_rfl) (by kernel_rfl) (fun _ _ _ h => h) ⟨by rfl, ?_⟩ hHeld ?_
  rotate_left
  · intro w' hSw; obtain ⟨sA, sB⟩ := hSw; go_simp; try with_reducible rfl
  simp only [List.setIfInBounds_toArray, List.set_cons_zero, List.set_cons_succ]
  refine wpAnyH_takeD (i := 9) 22 (v := ?_) rfl rfl (by kernel_rfl) (by kernel_rfl) (by kernel_rfl) (fun _ _ _ h => h) ⟨by rfl, ?_⟩ hHeld ?_
  rotate_left
  · intro w' hSw; obtain ⟨sA, sB⟩ := hSw; go_simp; try with_reducible rfl
  simp only [List.setIfInBounds_toArray, List.set_cons_zero, List.set_cons_succ]
  refine wpAnyH_takeD (i := 10) 23 (v := ?_) rfl rfl (by kernel_rfl) (by kernel_rfl) (by kernel_rfl) (fun _ _ _ h => h) ⟨by rfl, ?_⟩ hHeld ?_
  rotate_left
  · intro w' hSw; obtain ⟨sA, sB⟩ := hSw; go_simp; try with_reducible rfl
  simp only [List.setIfInBounds_toArray, List.set_cons_zero, List.set_cons_succ]
  refine wpAnyH_takeD (i := 11) 24 (v := ?_) rfl rfl (by kernel_rfl) (by kernel_rfl) (by kernel_rfl) (fun _ _ _ h => h) ⟨by rfl, ?_⟩ hHeld ?_
  rotate_left
  · intro w' hSw; obtain ⟨sA, sB⟩ := hSw; go_simp; try with_reducible rfl
  simp only [List.setIfInBounds_toArray, List.set_cons_zero, List.set_cons_succ]
  refine wpAnyH_takeD (i := 12) 25 (v := ?_) rfl rfl (by kernel_rfl) (by kernel_rfl) (by kernel_rfl) (fun _ _ _ h => h) ⟨by rfl, ?_⟩ hHeld ?_
  rotate_left
  · intro w' hSw; obtain ⟨sA, sB⟩ := hSw; go_simp; try with_reducible rfl
  simp only [List.setIfInBounds_toArray, List.set_cons_zero, List.set_cons_succ]
  refine wpAnyH_takeD (i := 13) 26 (v := ?_) rfl rfl (by kernel_rfl) (by kernel_rfl) (by kernel_rfl) (fun _ _ _ h => h) ⟨by rfl, ?_⟩ hHeld ?_
  rotate_left
  · intro w' hSw; obtain ⟨sA, sB⟩ := hSw; go_simp; try with_reducible rfl
  simp only [List.setIfInBounds_toArray, List.set_cons_zero, List.set_cons_succ]
  refine wpAnyH_takeD (i := 14) 27 (v := ?_) rfl rfl (by kernel_rfl) (by kernel_rfl) (by kernel_rfl) (fun _ _ _ h => h) ⟨by rfl, ?_⟩ hHeld ?_
  rotate_left
  · intro w' hSw; obtain ⟨sA, sB⟩ := hSw; go_simp; try with_reducible rfl
  simp only [List.setIfInBounds_toArray, List.set_cons_zero, List.set_cons_succ]
  refine wpAnyH_takeD (i := 15) 28 (v := ?_) rfl rfl (by kernel_rfl) (by kernel_rfl) (by kernel_rfl) (fun _ _ _ h => h) ⟨by rfl, ?_⟩ hHeld ?_
  rotate_left
  · intro w' hSw; obtain ⟨sA, sB⟩ := hSw; go_simp; try with_reducible rfl
  simp only [List.setIfInBounds_toArray, List.set_cons_zero, List.set_cons_succ]
  refine wpAnyH_takeD (i := 16) 29 (v := ?_) rfl rfl (by kernel_rfl) (by kernel_rfl) (by kernel_rfl) (fun _ _ _ h => h) ⟨by rfl, ?_⟩ hHeld ?_
  rotate_left
  · intro w' hSw; obtain ⟨sA, sB⟩ := hSw; go_simp; try with_reducible rfl
  simp only [List.setIfInBounds_toArray, List.set_cons_zero, List.set_cons_succ]
  refine wpAnyH_takeD (i := 17) 30 (v := ?_) rfl rfl (by kernel_rfl) (by kernel_rfl) (by kernel_rfl) (fun _ _ _ h => h) ⟨by rfl, ?_⟩ hHeld ?_
  rotate_left
  · intro w' hSw; obtain ⟨sA, sB⟩ := hSw; go_simp; try with_reducible rfl
  simp only [List.setIfInBounds_toArray, List.set_cons_zero, List.set_cons_succ]
  refine wpAnyH_takeD (i := 18) 31 (v := ?_) rfl rfl (by kernel_rfl) (by kernel_rfl) (by kernel_rfl) (fun _ _ _ h => h) ⟨by rfl, ?_⟩ hHeld ?_
  rotate_left
  · intro w' hSw; obtain ⟨sA, sB⟩ := hSw; go_simp; try with_reducible rfl
  simp only [List.setIfInBounds_toArray, List.set_cons_zero, List.set_cons_succ]
  refine wpAnyH_takeD (i := 19) 32 (v := ?_) rfl rfl (by kernel_rfl) (by kernel_rfl) (by kernel_rfl) (fun _ _ _ h => h) ⟨by rfl, ?_⟩ hHeld ?_
  rotate_left
  · intro w' hSw; obtain ⟨sA, sB⟩ := hSw; go_simp; try with_reducible rfl
  simp only [List.setIfInBounds_toArray, List.set_cons_zero, List.set_cons_succ]
  refine wpAnyH_takeD (i := 20) 33 (v := ?_) rfl rfl (by kernel_rfl) (by kernel_rfl) (by kernel_rfl) (fun _ _ _ h => h) ⟨by rfl, ?_⟩ hHeld ?_
  rotate_left
  · intro w' hSw; obtain ⟨sA, sB⟩ := hSw; go_simp; try with_reducible rfl
  simp only [List.setIfInBounds_toArray, List.set_cons_zero, List.set_cons_succ]
  refine wpAnyH_takeD (i := 21) 34 (v := ?_) rfl rfl (by kernel_rfl) (by kernel_rfl) (by kernel_rfl) (fun _ _ _ h => h) ⟨by rfl, ?_⟩ hHeld ?_
  rotate_left
  · intro w' hSw; obtain ⟨sA, sB⟩ := hSw; go_simp; try with_reducible rfl
  simp only [List.setIfInBounds_toArray, List.set_cons_zero, List.set_cons_succ]
  refine wpAnyH_takeD (i := 22) 35 (v := ?_) rfl rfl (by kernel_rfl) (by kernel_rfl) (by kernel_rfl) (fun _ _ _ h => h) ⟨by rfl, ?_⟩ hHeld ?_
  rotate_left
  · intro w' hSw; obtain ⟨sA, sB⟩ := hSw; go_simp; try with_reducible rfl
  simp only [List.setIfInBounds_toArray, List.set_cons_zero, List.set_cons_succ]
  refine wpAnyH_takeD (i := 23) 36 (v := ?_) rfl rfl (by kernel_rfl) (by kernel_rfl) (by kernel_rfl) (fun _ _ _ h => h) ⟨by rfl, ?_⟩ hHeld ?_
  rotate_left
  · intro w' hSw; obtain ⟨sA, sB⟩ := hSw; go_simp; try with_reducible rfl
  simp only [List.setIfInBounds_toArray, List.set_cons_zero, List.set_cons_succ]
  refine wpAnyH_done (by kernel_rfl) ?_ _
  go_wp2_with fail
  go_ret
  exact ⟨rfl, hb3⟩

set_option maxRecDepth 100000 in
set_option maxHeartbeats 2000000 in
theorem fits_ne (A B : Option Addr) (c d : Nat) (L M : List Inn) (w : World) (hL : LL w A L) (hM : LL w B M) (h1 : L.length ≤ 10000) (h2 : M.length ≤ 10000) (HV : Hid (vecR (vsOf L) = 0)) (HB : Hid (bookOk (vsOf M) = true)) (h0 : 0 < L.length) (m0 : 0 < M.length) (he : ¬ L[0].2.2.length = M[0].2.2.length) :
    Calls Tryd.prog 38 #[.slice A L.length c, .slice B M.length d] w (RetIB 2 w) := by
  obtain ⟨bA, oA, rfl, hbA, hcA⟩ := hL.lies.lat h0
  obtain ⟨bB, oB, rfl, hbB, hcB⟩ := hM.lies.lat m0
  rw [Nat.add_zero] at hcA hcB
  have q1 : ((L[0].2.2.length : Int) != (M[0].2.2.length : Int)) = true := by simp; omega
  have hd : decide ((0 : Int) < (L.length : Int)) = true := by simp; omega
  clear he
  generalize L[0] = X at *
  generalize M[0] = Y at *
  obtain ⟨XA, Xc, xl⟩ := X
  obtain ⟨YA, Yc, yl⟩ := Y
  simp only at hcA hcB q1
  go_enter Tryd.func38, Tryd.ntmps38
  go_wp2_with fail
  refine wp_region_held0 (S := fun w' => w'.cell? ⟨bA, oA, none⟩ = some (.slice XA (xl : List Int).length Xc) ∧ w'.cell? ⟨bB, oB, none⟩ = some (.slice YA (yl : List Int).length Yc)) 24 rfl (by kernel_rfl) ⟨hcA, hcB⟩ (fun hHeld => ?_)
  refine wpAnyH_takeD (i := 0) 13 (v := ?_) rfl rfl (by kernel_rfl) (by kernel_rfl) (by kernel_rfl) (fun _ _ _ h => h) ⟨by rfl, ?_⟩ hHeld ?_
  rotate_left
  · intro w' hSw; obtain ⟨sA, sB⟩ := hSw; go_simp; try with_reducible rfl
  simp only [List.setIfInBounds_toArray, List.set_cons_zero, List.set_cons_succ]
  refine wpAnyH_oneD 1 rfl (by kernel_rfl) rfl (fun K hK => ?_)
  go_simp
  refine (vectors_any (some ⟨bA, oA, none⟩) c L _ (Lies.drew hL.lies) (fun x hx => ⟨Lies.drew (hL.inn x hx).1, (hL.inn x hx).2⟩) (by omega) 0 HV).mono ?_
  rintro e w1 ⟨rfl, hb1⟩
  have hb1' := below_undrew hb1
  go_simp
  refine hK _ _ ⟨(hb1'.cell (p := ⟨bA, oA, none⟩) hbA).trans hcA, (hb1'.cell (p := ⟨bB, oB, none⟩) hbB).trans hcB⟩ (fun hHeld => ?_)
  clear hK K
  refine wpAnyH_takeD (i := 2) 15 (v := ?_) rfl rfl (by kernel_rfl) (by kernel_rfl) (by kernel_rfl) (fun _ _ _ h => h) ⟨by rfl, ?_⟩ hHeld ?_
  rotate_left
  · intro w' hSw; obtain ⟨sA, sB⟩ := hSw; go_simp; try with_reducible rfl
  simp only [List.setIfInBounds_toArray, List.set_cons_zero, List.set_cons_succ]
  refine wpAnyH_takeD (i := 3) 16 (v := ?_) rfl rfl (by kernel_rfl) (by kernel_rfl) (by kernel_rfl) (fun _ _ _ h => h) ⟨by rfl, ?_⟩ hHeld ?_
  rotate_left
  · intro w' hSw; obtain ⟨sA, sB⟩ := hSw; go_simp; try with_reducible rfl
  simp only [List.setIfInBounds_toArray, List.set_cons_zero, List.set_cons_succ]
  refine wpAnyH_takeD (i := 4) 17 (v := ?_) rfl rfl (by kernel_rfl) (by kernel_rfl) (by kernel_rfl) (fun _ _ _ h => h) ⟨by rfl, ?_⟩ hHeld ?_
  rotate_left
  · intro w' hSw; obtain ⟨sA, sB⟩ := hSw; go_simp; try with_reducible rfl
  simp only [List.setIfInBounds_toArray, List.set_cons_zero, List.set_cons_succ]
  refine wpAnyH_oneW 5 rfl (by kernel_rfl) (by rfl) (fun K hK => ?_)
  go_simp
  refine (codebook_any (some ⟨bB, oB, none⟩) d M _ (hM.below hb1') (by omega) true HB).mono ?_
  rintro e w2 ⟨rfl, hb2⟩
  have hb3 : Below w.heap.size w w2 := hb1'.trans (hb2.mono hb1'.size)
  go_simp
  refine hK _ _ ⟨(hb3.cell (p := ⟨bA, oA, none⟩) hbA).trans hcA, (hb3.cell (p := ⟨bB, oB, none⟩) hbB).trans hcB⟩ (fun hHeld => ?_)
  clear hK K
  refine wpAnyH_takeD (i := 6) 19 (v := ?_) rfl rfl (by kernel_rfl) (by kernel_rfl) (by kernel_rfl) (fun _ _ _ h => h) ⟨by rfl, ?_⟩ hHeld ?_
  rotate_left
  · intro w' hSw; obtain ⟨sA, sB⟩ := hSw; go_simp; try with_reducible rfl
  simp only [List.setIfInBounds_toArray, List.set_cons_zero, List.set_cons_succ]
  refine wpAnyH_takeD (i := 7) 20 (v := ?_) rfl rfl (by kernel_rfl) (by kernel_rfl) (by kernel_rfl) (fun _ _ _ h => h) ⟨by rfl, ?_⟩ hHeld ?_
  rotate_left
  · intro w' hSw; obtain ⟨sA, sB⟩ := hSw; go_simp; try with_reducible rfl
  simp only [List.setIfInBounds_toArray, List.set_cons_zero, List.set_cons_succ]
  refine wpAnyH_takeD (i := 8) 21 (v := ?_) rfl rfl (by kernel_rfl) (by kernel_rfl) (by kernel_rfl) (fun _ _ _ h => h) ⟨by rfl, ?_⟩ hHeld ?_
  rotate_left
  · intro w' hSw; obtain ⟨sA, sB⟩ := hSw; go_simp; try with_reducible rfl
  simp only [List.setIfInBounds_toArray, List.set_cons_zero, List.set_cons_succ]
  refine wpAnyH_takeD (i := 9) 22 (v := ?_) rfl rfl (by kernel_rfl) (by kernel_rfl) (by kernel_rfl) (fun _ _ _ h => h) ⟨by rfl, ?_⟩ hHeld ?_
  rotate_left
  · intro w' hSw; obtain ⟨sA, sB⟩ := hSw; go_simp; try with_reducible rfl
  simp only [List.setIfInBounds_toArray, List.set_cons_zero, List.set_cons_succ]
  refine wpAnyH_takeD (i := 10) 23 (v := ?_) rfl rfl (by kernel_rfl) (by kernel_rfl) (by kernel_rfl) (fun _ _ _ h => h) ⟨by rfl, ?_⟩ hHeld ?_
  rotate_left
  · intro w' hSw; obtain ⟨sA, sB⟩ := hSw; go_simp; try with_reducible rfl
  simp only [List.setIfInBounds_toArray, List.set_cons_zero, List.set_cons_succ]
  refine wpAnyH_takeD (i := 11) 24 (v := ?_) rfl rfl (by kernel_rfl) (by kernel_rfl) (by kernel_rfl) (fun _ _ _ h => h) ⟨by rfl, ?_⟩ hHeld ?_
  rotate_left
  · intro w' hSw; obtain ⟨sA, sB⟩ := hSw; go_simp; try with_reducible rfl
  simp only [List.setIfInBounds_toArray, List.set_cons_zero, List.set_cons_succ]
  refine wpAnyH_takeD (i := 12) 25 (v := ?_) rfl rfl (by kernel_rfl) (by kernel_rfl) (by kernel_rfl) (fun _ _ _ h => h) ⟨by rfl, ?_⟩ hHeld ?_
  rotate_left
  · intro w' hSw; obtain ⟨sA, sB⟩ := hSw; go_simp; try with_reducible rfl
  simp only [List.setIfInBounds_toArray, List.set_cons_zero, List.set_cons_succ]
  refine wpAnyH_takeD (i := 13) 26 (v := ?_) rfl rfl (by kernel_rfl) (by kernel_rfl) (by kernel_rfl) (fun _ _ _ h => h) ⟨by rfl, ?_⟩ hHeld ?_
  rotate_left
  · intro w' hSw; obtain ⟨sA, sB⟩ := hSw; go_simp; try with_reducible rfl
  simp only [List.setIfInBounds_toArray, List.set_cons_zero, List.set_cons_succ]
  refine wpAnyH_takeD (i := 14) 27 (v := ?_) rfl rfl (by kernel_rfl) (by kernel_rfl) (by kernel_rfl) (fun _ _ _ h => h) ⟨by rfl, ?_⟩ hHeld ?_
  rotate_left
  · intro w' hSw; obtain ⟨sA, sB⟩ := hSw; go_simp; try with_reducible rfl
  simp only [List.setIfInBounds_toArray, List.set_cons_zero, List.set_cons_succ]
  refine wpAnyH_takeD (i := 15) 28 (v := ?_) rfl rfl (by kernel_rfl) (by kernel_rfl) (by kernel_rfl) (fun _ _ _ h => h) ⟨by rfl, ?_⟩ hHeld ?_
  rotate_left
  · intro w' hSw; obtain ⟨sA, sB⟩ := hSw; go_simp; try with_reducible rfl
  simp only [List.setIfInBounds_toArray, List.set_cons_zero, List.set_cons_succ]
  refine wpAnyH_takeD (i := 16) 29 (v := ?_) rfl rfl (by kernel_rfl) (by kernel_rfl) (by kernel_rfl) (fun _ _ _ h => h) ⟨by rfl, ?_⟩ hHeld ?_
  rotate_left
  · intro w' hSw; obtain ⟨sA, sB⟩ := hSw; go_simp; try with_reducible rfl
  simp only [List.setIfInBounds_toArray, List.set_cons_zero, List.set_cons_succ]
  refine wpAnyH_takeD (i := 17) 30 (v := ?_) rfl rfl (by kernel_rfl) (by kernel_rfl) (by kernel_rfl) (fun _ _ _ h => h) ⟨by rfl, ?_⟩ hHeld ?_
  rotate_left
  · intro w' hSw; obtain ⟨sA, sB⟩ := hSw; go_simp; try with_reducible rfl
  simp only [List.setIfInBounds_toArray, List.set_cons_zero, List.set_cons_succ]
  refine wpAnyH_takeD (i := 18) 31 (v := ?_) rfl rfl (by kernel_rfl) (by kernel_rfl) (by kernel_rfl) (fun _ _ _ h => h) ⟨by rfl, ?_⟩ hHeld ?_
  rotate_left
  · intro w' hSw; obtain ⟨sA, sB⟩ := hSw; go_simp; try with_reducible rfl
  simp only [List.setIfInBounds_toArray, List.set_cons_zero, List.set_cons_succ]
  refine wpAnyH_takeD (i := 19) 32 (v := ?_) rfl rfl (by kernel_rfl) (by kernel_rfl) (by kernel_rfl) (fun _ _ _ h => h) ⟨by rfl, ?_⟩ hHeld ?_
  rotate_left
  · intro w' hSw; obtain ⟨sA, sB⟩ := hSw; go_simp; try with_reducible rfl
  simp only [List.setIfInBounds_toArray, List.set_cons_zero, List.set_cons_succ]
  refine wpAnyH_takeD (i := 20) 33 (v := ?_) rfl rfl (by kernel_rfl) (by kernel_rfl) (by kernel_rfl) (fun _ _ _ h => h) ⟨by rfl, ?_⟩ hHeld ?_
  rotate_left
  · intro w' hSw; obtain ⟨sA, sB⟩ := hSw; go_simp; try with_reducible rfl
  simp only [List.setIfInBounds_toArray, List.set_cons_zero, List.set_cons_succ]
  refine wpAnyH_takeD (i := 21) 34 (v := ?_) rfl rfl (by kernel_rfl) (by kernel_rfl) (by kernel_rfl) (fun _ _ _ h => h) ⟨by rfl, ?_⟩ hHeld ?_
  rotate_left
  · intro w' hSw; obtain ⟨sA, sB⟩ := hSw; go_simp; try with_reducible rfl
  simp only [List.setIfInBounds_toArray, List.set_cons_zero, List.set_cons_succ]
  refine wpAnyH_takeD (i := 22) 35 (v := ?_) rfl rfl (by kernel_rfl) (by kernel_rfl) (by kernel_rfl) (fun _ _ _ h => h) ⟨by rfl, ?_⟩ hHeld ?_
  rotate_left
  · intro w' hSw; obtain ⟨sA, sB⟩ := hSw; go_simp; try with_reducible rfl
  simp only [List.setIfInBounds_toArray, List.set_cons_zero, List.set_cons_succ]
  refine wpAnyH_takeD (i := 23) 36 (v := ?_) rfl rfl (by kernel_rfl) (by kernel_rfl) (by kernel_rfl) (fun _ _ _ h => h) ⟨by rfl, ?_⟩ hHeld ?_
  rotate_left
  · intro w' hSw; obtain ⟨sA, sB⟩ := hSw; go_simp; try with_reducible rfl
  simp only [List.setIfInBounds_toArray, List.set_cons_zero, List.set_cons_succ]
  refine wpAnyH_done (by kernel_rfl) ?_ _
  go_wp2_with fail
  go_ret
  exact ⟨rfl, hb3⟩

theorem fits_any (A B : Option Addr) (c d : Nat) (L M : List Inn) (w : World) (hL : LL w A L) (hM : LL w B M) (r : Int) (hr : Hid (fitR (vsOf L) (vsOf M) = r)) :
    Calls Tryd.prog 38 #[.slice A L.length c, .slice B M.length d] w (RetIB r w) := by
  have hr' := hr.out
  have e1 : (vsOf L).length = L.length := by simp
  have e2 : (vsOf M).length = M.length := by simp
  unfold fitR at hr'
  rw [e1, e2] at hr'
  by_cases h1 : 10000 < L.length ∨ 10000 < M.length
  · rw [if_pos h1] at hr'
    subst hr'
    exact fits_long A B c d L M w (by omega)
  · rw [if_neg h1] at hr'
    have hv : vecR (vsOf L) = if vecOk (vsOf L) = true then 0 else 2 := by unfold vecR; rw [e1, if_neg (by omega)]
    cases h2 : vecOk (vsOf L) with
    | false =>
      rw [h2, if_neg (by simp)] at hv
      rw [h2, if_neg (by simp)] at hr'
      subst hr'
      exact fits_bad A B c d L M w hL hM (by omega) (by omega) (Lib.hid hv)
    | true =>
      rw [h2, if_pos rfl] at hv
      cases h3 : bookOk (vsOf M) with
      | false =>
        rw [h3, if_neg (by simp)] at hr'
        subst hr'
        exact fits_nobook A B c d L M w hL hM (by omega) (by omega) (Lib.hid hv) (Lib.hid h3)
      | true =>
        by_cases h4 : L.length = 0
        · have : vsOf L = [] := List.length_eq_zero_iff.1 (by rw [e1]; exact h4)
          rw [if_pos ⟨h2, h3, .inl this⟩] at hr'
          subst hr'
          rw [h4]
          exact fits_empty A B c d M w hM (by omega) (Lib.hid h3)
        · have hm := (bookOk_iff.1 h3).1
          rw [e2] at hm
          have hne : vsOf L ≠ [] := fun e => by rw [e] at e1; simp at e1; omega
          by_cases h5 : len0 (vsOf L) = len0 (vsOf M)
          · rw [if_pos ⟨h2, h3, .inr h5⟩] at hr'
            subst hr'
            rw [len0_at (by omega), len0_at (by omega)] at h5
            exact fits_eq A B c d L M w hL hM (by omega) (by omega) (Lib.hid hv) (Lib.hid h3) (by omega) (by omega) h5
          · rw [if_neg (fun h => h.2.2.elim hne h5)] at hr'
            subst hr'
            rw [len0_at (by omega), len0_at (by omega)] at h5
            exact fits_ne A B c d L M w hL hM (by omega) (by omega) (Lib.hid hv) (Lib.hid h3) (by omega) (by omega) h5
end Go.Proofs.YtnflpnbpigcfhabDoor
/- blocks that bear their type: lists of lists that the call itself makes -/
namespace Go.Proofs.YtnflpnbpigcfhabDoor
open Go.RowKit Ear

/-- block b bears the type e -/
def BT (w : World) (b : Nat) (e : TypeId) : Prop := ∃ cur fr, w.heap[b]? = some (.cells cur e fr)
section
variable {w w' : World} {b b' : Nat} {e e' : TypeId}
theorem BT.lt (h : BT w b e) : b < w.heap.size := by obtain ⟨c, f, h⟩ := h; exact (Array.getElem?_eq_some_iff.1 h).1
theorem BT.ne (h : BT w b e) (h' : BT w b' e') (hne : e ≠ e') : b ≠ b' := by
  rintro rfl
  obtain ⟨c, f, h⟩ := h
  obtain ⟨c', f', h'⟩ := h'
  rw [h] at h'
  injection h' with h'
  injection h' with _ h2 _
  exact hne h2
theorem BT.block (h : BT w b e) (he : w'.heap[b]? = w.heap[b]?) : BT w' b e := by
  obtain ⟨c, f, h⟩ := h
  exact ⟨c, f, he.trans h⟩
theorem BT.set (h : BT w b e) (p : Addr) (u : Value) : BT (w.setCell p u) b e := by
  by_cases hp : p.block = b
  · obtain ⟨c, f, h⟩ := h
    have hlt := (Array.getElem?_eq_some_iff.1 h).1
    subst hp
    have h' : w.heap[p.block] = .cells c e f := by simpa [Array.getElem?_eq_getElem hlt] using h
    refine ⟨if p.spot.isSome then c else c.setIfInBounds p.off u, f, ?_⟩
    show (w.heap.modify p.block _)[p.block]? = _
    rw [Array.getElem?_eq_getElem (by simpa using hlt), Array.getElem_modify_self, h']
  · exact h.block (Below.heap_setCell w p u b (fun e => hp e.symm))
theorem BT.below (h : BT w b e) (hb : Below w.heap.size w w') : BT w' b e := h.block (hb.block b h.lt)
theorem BT.grown (h : BT w b e) {row : Option Nat} (hg : w.grownBy w' row) (hr : row ≠ some b) : BT w' b e := h.block (hg.block b h.lt (fun x => hr x.symm))
theorem BT.of_own {base size n : Nat} {v : Value} {xs : List Value} (h : w.ownsRow base e size v n xs) (hv : v.ownBlock = some b) : BT w b e := by
  rcases h.2 with ⟨rfl, _⟩ | ⟨g, cap, cur, rfl, _, hg, _⟩
  · simp [Value.ownBlock] at hv
  · simp [Value.ownBlock] at hv; subst hv; exact ⟨cur, _, hg⟩
end
/-- the slice's block bears the type -/
def Typed (w : World) (A : Option Addr) (e : TypeId) : Prop := ∀ b off, A = some ⟨b, off, none⟩ → BT w b e
/-- an inner list whose block bears its type -/
def InT (w : World) (x : Inn) : Prop := InOk w x ∧ Typed w x.1 3
theorem InT.below {w w' : World} {x : Inn} (h : InT w x) (hb : Below w.heap.size w w') : InT w' x := ⟨h.1.below hb, fun b off e => (h.2 b off e).below hb⟩
theorem InT.drew {w : World} {x : Inn} (h : InT w x) : InT w.drew x := h
theorem InT.drewN {w : World} {x : Inn} (h : InT w x) (n : Nat) : InT (w.drewN n) x := h
/-- an inner list stays if what turns is a row of another type -/
theorem InT.block {w w' : World} {x : Inn} (h : InT w x) (hs : w.heap.size ≤ w'.heap.size) (hk : ∀ b, BT w b 3 → w'.heap[b]? = w.heap[b]?) : InT w' x := by
  refine ⟨⟨fun h0 => ?_, h.1.2⟩, fun b off e => (h.2 b off e).block (hk b (h.2 b off e))⟩
  obtain ⟨b, off, e, hb, hc⟩ := h.1.1 h0
  exact ⟨b, off, e, Nat.lt_of_lt_of_le hb hs, fun k u hu => (World.cell?_of_block (a := ⟨b, off + k, none⟩) (hk b (h.2 b off e))).trans (hc k u hu)⟩
theorem InT.grown {w w' : World} {x : Inn} (h : InT w x) {row : Option Nat} (hg : w.grownBy w' row) {e : TypeId} (hr : ∀ k, row = some k → k < w.heap.size → BT w k e) (he : e ≠ 3) : InT w' x :=
  h.block hg.size fun b hb => hg.block b hb.lt fun e' => (hr b e'.symm hb.lt).ne hb he rfl
theorem InT.set {w : World} {x : Inn} (h : InT w x) {p : Addr} {e : TypeId} (hp : BT w p.block e) (he : e ≠ 3) (u : Value) : InT (w.setCell p u) x :=
  h.block (by simp [World.setCell]) fun b hb => Below.heap_setCell w p u b (fun e' => hp.ne hb he e'.symm)
theorem InT.of_own {w : World} {base n c : Nat} {A : Option Addr} {l : List Int} (h : w.ownsRow base 3 1 (.slice A n c) n (ics l)) (hn : n = l.length) (hl : n ≤ 9223372036854775807) (hB : ∀ y ∈ l, -9223372036854775808 ≤ y ∧ y ≤ 9223372036854775807) : InT w (A, c, l) := by
  subst hn
  refine ⟨⟨Lies.of_own h, fun e => ?_, hl, own_cap h, hB⟩, fun b off e => BT.of_own h (by simp only at e; subst e; rfl)⟩
  simp only at e
  subst e
  rcases h.2 with ⟨e1, e2⟩ | ⟨g, cap, cur, e1, _⟩
  · injection e1 with _ _ e3
    exact ⟨e3, List.length_eq_zero_iff.1 e2⟩
  · injection e1 with e3; cases e3
theorem InT.nil (w : World) : InT w (none, 0, []) := ⟨⟨Lies.nil _ _, fun _ => ⟨rfl, rfl⟩, by simp, by simp, by simp⟩, fun b off e => by cases e⟩
/-- a list of lists that the call has made -/
structure LLo (w : World) (base : Nat) (A : Option Addr) (c : Nat) (L : List Inn) : Prop where
  row : w.ownsRow base 22 1 (.slice A L.length c) L.length (lcs L)
  inn : ∀ x ∈ L, InT w x
theorem LLo.lies {w : World} {base c : Nat} {A : Option Addr} {L : List Inn} (h : LLo w base A c L) : Lies w A (lcs L) := Lies.of_own h.row
theorem LLo.nil (w : World) (base : Nat) : LLo w base none 0 [] := ⟨World.ownsRow_nil _ _ _ _, fun x h => by simp at h⟩
theorem LLo.below {w w' : World} {base c : Nat} {A : Option Addr} {L : List Inn} (h : LLo w base A c L) (hb : Below w.heap.size w w') : LLo w' base A c L := ⟨own_below h.row hb, fun x hx => (h.inn x hx).below hb⟩
theorem LLo.le {w : World} {base base' c : Nat} {A : Option Addr} {L : List Inn} (h : LLo w base A c L) (hb : base' ≤ base) : LLo w base' A c L := ⟨ownsRow_le h.row hb, h.inn⟩
theorem LLo.drew {w : World} {base c : Nat} {A : Option Addr} {L : List Inn} (h : LLo w base A c L) : LLo w.drew base A c L := ⟨h.row, h.inn⟩
theorem LLo.drewN {w : World} {base c : Nat} {A : Option Addr} {L : List Inn} (h : LLo w base A c L) (n : Nat) : LLo (w.drewN n) base A c L := ⟨h.row, h.inn⟩
/-- behind an append of one list -/
theorem LLo.snoc {w w' : World} {base base' c c' n : Nat} {A A' : Option Addr} {L : List Inn} {x : Inn} (h : LLo w base A c L) (hx : InT w x) (hg : w.grownBy w' (Value.slice A n c).ownBlock)
    (hr : w'.ownsRow base' 22 1 (.slice A' (L.length + 1) c') (L.length + 1) (lcs L ++ [Value.slice x.1 x.2.2.length x.2.1])) : LLo w' base' A' c' (L ++ [x]) := by
  have key : ∀ y, InT w y → InT w' y := fun y hy => hy.grown hg (e := 22) (fun k e _ => BT.of_own (v := .slice A L.length c) h.row (by rw [← e]; cases A <;> rfl)) (by decide)
  refine ⟨by simpa using hr, fun y hy => ?_⟩
  rcases List.mem_append.1 hy with hy | hy
  · exact key y (h.inn y hy)
  · simp at hy; subst hy; exact key y hx
/-- behind a store of a list into a place of the row -/
theorem LLo.put {w w' : World} {base n c g k : Nat} {L : List Inn} {x : Inn} (h : LLo w base (some ⟨g, 0, none⟩) c L) (hn : n = L.length) (hs : w.heap.size ≤ w'.heap.size)
    (hk : ∀ b, b < w.heap.size → b ≠ g → w'.heap[b]? = w.heap[b]?) (hg : w'.heap[g]? = (w.setCell ⟨g, k, none⟩ (.slice x.1 x.2.2.length x.2.1)).heap[g]?) (hx : InT w' x) (hkn : k < n) :
    LLo w' base (some ⟨g, 0, none⟩) c (L.set k x) := by
  subst hn
  have hbt : BT w g 22 := BT.of_own h.row rfl
  refine ⟨?_, fun y hy => ?_⟩
  · have h1 := (h.row.stored k (.slice x.1 x.2.2.length x.2.1)).1
    rw [List.length_set]
    have e : (lcs L).set k (.slice x.1 x.2.2.length x.2.1) = lcs (L.set k x) := by simp [lcs, List.map_set]
    rw [e] at h1
    obtain ⟨q1, q2⟩ := h1
    refine ⟨q1, ?_⟩
    rcases q2 with ⟨e1, _⟩ | ⟨g', cap, cur, e1, hb, hgg, rest⟩
    · cases e1
    · injection e1 with e2 _ e3
      injection e2 with e2
      injection e2 with e2 _ _
      subst e2 e3
      exact .inr ⟨g, c, cur, rfl, hb, hg.trans hgg, rest⟩
  · rcases List.mem_or_eq_of_mem_set hy with hy | rfl
    · exact (h.inn y hy).block hs fun b hb => hk b hb.lt (hb.ne hbt (by decide))
    · exact hx
/-- the post of a function that makes a list of lists -/
def RetLL (out : List (List Int)) (w : World) (e : Ending) (w' : World) : Prop :=
  ∃ A c L, e = .returned (.slice A (L : List Inn).length c) ∧ Hid (vsOf L = out) ∧ LLo w' w.heap.size A c L ∧ Below w.heap.size w w'
/-- the same, with an error -/
def LLErr (err : Int) (out : List (List Int)) (w : World) (e : Ending) (w' : World) : Prop :=
  ∃ A c L, e = .returned (.tuple #[.slice A (L : List Inn).length c, .int .i64 err]) ∧ Hid (vsOf L = out) ∧ LLo w' w.heap.size A c L ∧ Below w.heap.size w w'
theorem vsOf_get {L : List Inn} {k : Nat} (hk : k < L.length) : (vsOf L)[k]?.getD [] = L[k].2.2 := by
  rw [List.getElem?_map, List.getElem?_eq_getElem hk]; rfl

theorem info_ints : (Tryd.prog.info? 22).map (fun i => (i.zero, i.size, i.bytes)) = some (some (.slice none 0 0), 1, 24) := by kernel_rfl
theorem made_slices (n : Nat) : (madeCells (Value.slice none 0 0).cells (n * 1)).toList = lcs (List.replicate n (none, 0, [])) := by
  apply List.ext_getElem (by simp [madeCells])
  intro k h1 h2
  simp [madeCells, Value.cells, Nat.mod_one]
/-- make([][]int, n) -/
theorem make_intss (w : World) (n : Nat) (hn : n ≤ 1000000000) (base : Nat) (hb : base ≤ w.heap.size) :
    ∃ w', (Instr.makeSlice 32 (.int .i64 (n : Int)) (.int .i64 (n : Int))).run Tryd.prog w = .ok (.slice (some ⟨w.heap.size, 0, none⟩) n n) w' ∧
      LLo w' base (some ⟨w.heap.size, 0, none⟩) n (List.replicate n (none, 0, [])) ∧ Below w.heap.size w w' := by
  obtain ⟨i0, hi0, hz0, hz1, hz2⟩ := info_parts info_ints
  obtain ⟨w', h1, h2, h3⟩ := run_make_full (P := Tryd.prog) w base 32 22 i0 _ 1 Tryd.underlying32 hi0 hz0 hz1 .i64 .i64 n (by rw [hz2]; omega) (by unfold maxLen; omega) hb
  rw [made_slices] at h2
  refine ⟨w', h1, ⟨by simpa using h2, fun x hx => ?_⟩, below_none h3⟩
  rw [List.eq_of_mem_replicate hx]
  exact InT.nil _
end Go.Proofs.YtnflpnbpigcfhabDoor
/- combined: what a function makes of the elements of two lists -/
namespace Go.Proofs.YtnflpnbpigcfhabDoor
open Go.RowKit Ear

/-- a function on two integers that only computes -/
structure Op2 (g : FuncId) (f : Int → Int → Int) : Prop where
  enter : ∀ (args : Array Value) (w : World), (callFunc g args).run Tryd.prog w = .ok (.enter g args) w
  gives : ∀ (x y : Int) (w : World), -1000000000000000 ≤ x → x ≤ 1000000000000000 → -1000000000000000 ≤ y → y ≤ 1000000000000000 → Calls Tryd.prog g #[.int .i64 x, .int .i64 y] w fun e w' => e = .returned (.int .i64 (f x y)) ∧ w = w'

set_option maxHeartbeats 400000 in
theorem differences1_op : Op2 62 (· - ·) := ⟨enters_of Tryd.func62 (by kernel_rfl) rfl, fun x y w h1 h2 h3 h4 => by
  go_enter Tryd.func62, Tryd.ntmps62
  go_wp2_with fail
  go_ret
  exact ⟨rfl, rfl⟩⟩
set_option maxHeartbeats 400000 in
theorem center1_op : Op2 68 (· - ·) := ⟨enters_of Tryd.func68 (by kernel_rfl) rfl, fun x y w h1 h2 h3 h4 => by
  go_enter Tryd.func68, Tryd.ntmps68
  go_wp2_with fail
  go_ret
  exact ⟨rfl, rfl⟩⟩
set_option maxHeartbeats 400000 in
theorem mean1_op : Op2 70 (· + ·) := ⟨enters_of Tryd.func70 (by kernel_rfl) rfl, fun x y w h1 h2 h3 h4 => by
  go_enter Tryd.func70, Tryd.ntmps70
  go_wp2_with fail
  go_ret
  exact ⟨rfl, rfl⟩⟩

/-- a list of which no number is great -/
abbrev mid (l : List Int) : Prop := allR (-1000000000000000) 1000000000000000 l = true
theorem mid_at {l : List Int} (h : mid l) (k : Nat) : -1000000000000000 ≤ l[k]?.getD 0 ∧ l[k]?.getD 0 ≤ 1000000000000000 := getD_bd h (by omega) (by omega) k

set_option maxRecDepth 100000 in
set_option maxHeartbeats 1000000 in
theorem combined_any (g0 : FuncId) (f : Int → Int → Int) (hf : Op2 g0 f) (A B : Option Addr) (c d : Nat) (a b : List Int) (w : World) (ha : Lies w A (ics a)) (hb : Lies w B (ics b)) (hl : a.length ≤ b.length) (hn : a.length ≤ 1000000) (hv : Hid (mid a)) (hu : Hid (mid b)) :
    Calls Tryd.prog 61 #[.slice A a.length c, .slice B b.length d, .func (.func g0) #[] #[]] w (RetInts (cmb f a b) w) := by
  have heg := hf.enter
  go_enter Tryd.func61, Tryd.ntmps61
  go_wp2_with fail
  obtain ⟨w1, hmk, ho1, hb1⟩ := make_ints w a.length (by omega) w.heap.size (Nat.le_refl _)
  rw [hmk]
  clear hmk
  obtain ⟨g, hg⟩ : ∃ g, g = w.heap.size := ⟨_, rfl⟩
  rw [← hg] at ho1 ⊢
  have hg0 : w.heap.size ≤ g := by omega
  clear hg
  go_wp2_with fail
  go_loopw [8, 14] (fun _ i wr => ∃ k : Nat, k ≤ a.length ∧ i = .int .i64 k ∧ wr.ownsRow g 3 1 (.slice (some ⟨g, 0, none⟩) a.length a.length) a.length (ics (fillTo (fun q => f (a[q]?.getD 0) (b[q]?.getD 0)) a.length k)) ∧ Below w.heap.size w wr) (fun _ i _ => a.length - (intOf i).toNat)
  case atStart => exact ⟨0, by omega, rfl, by rw [fillTo_zero]; exact ho1, hb1⟩
  case round =>
    obtain ⟨k, hk, rfl, r1, r2⟩ := hrel
    by_cases hlt : k < a.length
    · have hlt2 : k < b.length := by omega
      obtain ⟨b1, o1, rfl, hb1', hc1⟩ := (ha.below r2).at_ hlt
      obtain ⟨b2, o2, rfl, hb2', hc2⟩ := (hb.below r2).at_ hlt2
      have q2 : wr.frozen? ⟨g, k, none⟩ = false := r1.frozenAt k
      have q1 : wr.cell? ⟨g, k, none⟩ = some (.int .i64 0) := by
        rw [r1.cellAt k (by omega)]; simp only [List.getElem?_map, fillTo_get _ a.length k hlt]; rfl
      have m1 := mid_at hv.out k
      have m2 := mid_at hu.out k
      generalize hx1 : a[k]?.getD 0 = x1 at *
      generalize hx2 : b[k]?.getD 0 = x2 at *
      have H1 := Lib.hid hx1
      have H2 := Lib.hid hx2
      clear hx1 hx2
      go_wp2_with fail
      go_still_tail 13, (by kernel_rfl)
      still_call (still_of (hf.gives x1 x2 _ (by omega) (by omega) (by omega) (by omega)))
      repeat still_step
      refine wpStill_nil ?_
      go_wp2_with fail
      have hst := r1.stored k (.int .i64 (f x1 x2))
      have hset : (ics (fillTo (fun q => f (a[q]?.getD 0) (b[q]?.getD 0)) a.length k)).set k (.int .i64 (f x1 x2)) = ics (fillTo (fun q => f (a[q]?.getD 0) (b[q]?.getD 0)) a.length (k + 1)) := by
        rw [← List.map_set, fillTo_set _ _ _ _ (by rw [H1.out, H2.out])]
      rw [hset] at hst
      exact ⟨⟨k + 1, by omega, by go_num, hst.1.drew, (r2.setCell hg0 _).drew⟩, by simp [intOf]; omega⟩
    · obtain rfl : k = a.length := by omega
      rw [fillTo_all] at r1
      go_wp2_with fail
      go_ret
      exact ⟨_, _, by rw [cmb_length]; rfl, by rw [cmb_length]; exact ownsRow_le r1 hg0, r2⟩
end Go.Proofs.YtnflpnbpigcfhabDoor
/- mean: the mean of vectors -/
namespace Go.Proofs.YtnflpnbpigcfhabDoor
open Go.RowKit Ear

/-- vectors of n components: not too many -/
def Vcs (n : Nat) (vs : List (List Int)) : Prop := ∀ x ∈ vs, x.length = n ∧ allR (-1048576) 1048576 x = true
theorem Vcs.getD {n : Nat} {vs : List (List Int)} (h : Vcs n vs) {t : Nat} (ht : t < vs.length) : (vs[t]?.getD []).length = n ∧ allR (-1048576) 1048576 (vs[t]?.getD []) = true := by
  rw [List.getElem?_eq_getElem ht]; exact h _ (List.getElem_mem ht)
theorem Vcs.len0 {n : Nat} {vs : List (List Int)} (h : Vcs n vs) (h0 : 0 < vs.length) : len0 vs = n := by
  cases vs with
  | nil => simp at h0
  | cons x l => exact (h x (List.mem_cons_self ..)).1
theorem allR_wide {l : List Int} {a b a' b' : Int} (h : allR a b l = true) (h1 : a' ≤ a) (h2 : b ≤ b') : allR a' b' l = true :=
  allR_of fun x hx => by have := allR_mem h hx; omega
theorem sumV_mid {n : Nat} {vs : List (List Int)} (h : Vcs n vs) (t : Nat) (ht : t ≤ 1000000) : mid (sumV vs n t) := by
  apply allR_of
  intro x hx
  simp only [sumV, List.mem_map, List.mem_range] at hx
  obtain ⟨c, _, rfl⟩ := hx
  have := colS_bd (fun x hx => (h x hx).2) c t
  omega
set_option maxRecDepth 100000 in
set_option maxHeartbeats 1000000 in
theorem mean_any (A : Option Addr) (c n : Nat) (L : List Inn) (w : World) (hA : LL w A L) (hv : Hid (Vcs n (vsOf L))) (h0 : 0 < L.length) (hn : L.length ≤ 10000) (hn2 : n ≤ 1000) :
    Calls Tryd.prog 60 #[.slice A L.length c] w (RetInts (meanL (vsOf L)) w) := by
  have HVL : Hid ((vsOf L).length = L.length) := Lib.hid (by simp)
  have HN : Hid (len0 (vsOf L) = n) := Lib.hid (hv.out.len0 (by rw [HVL.out]; exact h0))
  have HL0 : Hid (L[0].2.2.length = n) := Lib.hid (by
    have := (hv.out.getD (t := 0) (by rw [HVL.out]; exact h0)).1
    rw [List.getElem?_map, List.getElem?_eq_getElem h0] at this
    exact this)
  obtain ⟨b0, o0, rfl, hb0, hc0⟩ := hA.lies.lat h0
  rw [HL0.out, Nat.add_zero] at hc0
  generalize L[0] = X0 at *
  go_enter Tryd.func60, Tryd.ntmps60
  go_wp2_with fail
  obtain ⟨w1, hmk, ho1, hb1⟩ := make_ints w n (by omega) w.heap.size (Nat.le_refl _)
  rw [hmk]
  clear hmk
  rw [← sumV_zero (vsOf L) n] at ho1
  generalize hz : (Value.slice (some ⟨w.heap.size, 0, none⟩) n n) = s0 at *
  obtain ⟨A0, c0, rfl⟩ := own_slice ho1
  clear hz
  go_wp2_with fail
  go_loopw [3, 5, 14] (fun t3 _ i wr => ∃ k : Nat, k ≤ L.length ∧ i = .int .i64 k ∧ ∃ A' c', t3 = .slice A' n c' ∧ wr.ownsRow w.heap.size 3 1 (.slice A' n c') n (ics (sumV (vsOf L) n k)) ∧ Below w.heap.size w wr) (fun _ _ i _ => L.length - (intOf i).toNat)
  case atStart => exact ⟨0, by omega, rfl, _, _, rfl, ho1, hb1⟩
  case round =>
    obtain ⟨k, hk, rfl, A', c', rfl, r1, r2⟩ := hrel
    by_cases hlt : k < L.length
    · obtain ⟨bk, off, eA, hbk, hc⟩ := (hA.below r2).lies.lat hlt
      cases eA
      have hx := (hA.below r2).inn _ (List.getElem_mem hlt)
      have hget := hv.out.getD (t := k) (by rw [HVL.out]; exact hlt)
      have hnx : Hid (cmb (· + ·) (sumV (vsOf L) n k) L[k].2.2 = sumV (vsOf L) n (k + 1)) := Lib.hid (by rw [← sumV_next, vsOf_get hlt])
      rw [vsOf_get hlt] at hget
      generalize L[k] = X at *
      obtain ⟨XA, Xc, xl⟩ := X
      simp only at *
      obtain ⟨hg1, hg2⟩ := hget
      have HG1 := Lib.hid hg1
      have HM := Lib.hid (allR_wide hg2 (a' := -1000000000000000) (b' := 1000000000000000) (by omega) (by omega))
      have HS := Lib.hid (sumV_mid hv.out k (by omega))
      have HE := Lib.hid (sumV_length (vsOf L) n k)
      clear hg1 hg2
      have hcall := combined_any _ _ mean1_op A' XA c' Xc (sumV (vsOf L) n k) xl wr (Lies.of_own r1) hx.1 (by rw [HE.out, HG1.out]; exact Nat.le_refl _) (by rw [HE.out]; omega) HS HM
      rw [HE.out] at hcall
      go_wp2_with fail
      refine hcall.mono ?_
      rintro e w2 ⟨A2, c2, rfl, ho2, hb2⟩
      rw [hnx.out, sumV_length] at ho2
      rw [hnx.out, sumV_length]
      go_wp2_with fail
      exact ⟨⟨k + 1, by omega, by go_num, _, _, rfl, ownsRow_le ho2 r2.size, r2.trans (hb2.mono r2.size)⟩, by simp [intOf]; omega⟩
    · obtain rfl : k = L.length := by omega
      have HE := Lib.hid (sumV_length (vsOf L) n L.length)
      have HB := Lib.hid (fun q : Nat => colS_bd (vs := vsOf L) (fun x hx => (hv.out x hx).2) q L.length)
      go_wp2_with fail
      go_loopw [6, 24] (fun _ i wr => ∃ q : Nat, q ≤ n ∧ i = .int .i64 q ∧ wr.ownsRow w.heap.size 3 1 (.slice A' n c') n (ics (mapTo (rnd · L.length) (sumV (vsOf L) n L.length) q)) ∧ Below w.heap.size w wr) (fun _ i _ => n - (intOf i).toNat)
      case atStart => exact ⟨0, by omega, rfl, by rw [mapTo_zero]; exact r1, r2⟩
      case round =>
        obtain ⟨q, hq, rfl, s1, s2⟩ := hrel
        by_cases hlq : q < n
        · obtain ⟨g, cap, hform, hg1, hg2⟩ := s1.form (by omega)
          obtain ⟨rfl, rfl⟩ : A' = some ⟨g, 0, none⟩ ∧ c' = cap := by injection hform with e1 _ e3; exact ⟨e1, e3⟩
          have hgq : (sumV (vsOf L) n L.length)[q]?.getD 0 = colS (vsOf L) q L.length := by
            rw [List.getElem?_eq_getElem (by rw [HE.out]; exact hlq)]; simp [sumV]
          have q1 : wr.cell? ⟨g, q, none⟩ = some (.int .i64 ((sumV (vsOf L) n L.length)[q]?.getD 0)) := by
            rw [s1.cellAt q (by omega)]; simp only [List.getElem?_map, mapTo_get _ (sumV (vsOf L) n L.length) q (by rw [HE.out]; exact hlq)]; rfl
          have q2 : wr.frozen? ⟨g, q, none⟩ = false := s1.frozenAt q
          have b1 := HB.out q
          rw [← hgq] at b1
          clear hgq
          generalize hx1 : (sumV (vsOf L) n L.length)[q]?.getD 0 = x1 at *
          have H1 := Lib.hid hx1
          clear hx1 hform
          go_wp2_with (go_at_call 67; refine (frounded_any _ _ _ (by omega) (by omega) (by omega) (by omega)).mono ?_; rintro e w' ⟨rfl, rfl⟩)
          have hst := s1.stored q (.int .i64 (rnd x1 L.length))
          have hset : (ics (mapTo (rnd · L.length) (sumV (vsOf L) n L.length) q)).set q (.int .i64 (rnd x1 L.length)) = ics (mapTo (rnd · L.length) (sumV (vsOf L) n L.length) (q + 1)) := by
            rw [← List.map_set, mapTo_set _ _ _ _ (by rw [H1.out])]
          rw [hset] at hst
          exact ⟨⟨q + 1, by omega, by go_num, hst.1, s2.setCell (by exact hg1) _⟩, by simp [intOf]; omega⟩
        · obtain rfl : q = n := by omega
          have HX : Hid (mapTo (rnd · L.length) (sumV (vsOf L) q L.length) q = meanL (vsOf L)) := Lib.hid (by
            have := mapTo_all (rnd · L.length) (sumV (vsOf L) q L.length)
            rw [HE.out] at this
            unfold meanL
            rw [this, HN.out, HVL.out])
          rw [HX.out] at s1
          have HM : Hid ((meanL (vsOf L)).length = q) := Lib.hid (by rw [meanL_length, HN.out])
          go_wp2_with fail
          go_ret
          exact ⟨_, _, by rw [HM.out]; rfl, by rw [HM.out]; exact s1, s2⟩
end Go.Proofs.YtnflpnbpigcfhabDoor
/- nearest: the nearest codeword -/
namespace Go.Proofs.YtnflpnbpigcfhabDoor
open Go.RowKit Ear

/-- the post of nearest -/
def RetNr (p : Int × Int) (w : World) (e : Ending) (w' : World) : Prop := e = .returned (.tuple #[.int .i64 p.1, .int .i64 p.2]) ∧ ∃ n, w' = w.drewN n
/-- codewords of a vector -/
def Wds (v : List Int) (L : List Inn) : Prop := ∀ x ∈ L, x.2.2.length = v.length ∧ 1 ≤ x.2.2.length ∧ allR (-1048576) 1048576 x.2.2 = true

set_option maxRecDepth 100000 in
set_option maxHeartbeats 1000000 in
theorem nearest_any (A B : Option Addr) (c d : Nat) (v : List Int) (L : List Inn) (w : World) (hA : Lies w A (ics v)) (hB : LL w B L) (hv : Hid (allR (-1048576) 1048576 v = true)) (hL : Hid (Wds v L)) (h64 : v.length ≤ 64) (hn : L.length ≤ 1000000) :
    Calls Tryd.prog 58 #[.slice A v.length c, .slice B L.length d] w (RetNr (nr v (vsOf L)) w) := by
  have HVL : Hid ((vsOf L).length = L.length) := Lib.hid (by simp)
  go_enter Tryd.func58, Tryd.ntmps58
  go_wp2_with fail
  go_step3
  go_wp2_with fail
  go_step3
  go_wp2_with fail
  go_loopw [6, 7, 8, 9, 10, 11, 14] (fun t6 t7 _ _ _ _ i wr => ∃ k : Nat, k ≤ L.length ∧ i = .int .i64 k ∧ t6 = .int .i64 (nrK v (vsOf L) k).1 ∧ t7 = .int .i64 (nrK v (vsOf L) k).2 ∧ ∃ n, wr = w.drewN n) (fun _ _ _ _ _ _ i _ => L.length - (intOf i).toNat)
  case atStart => exact ⟨0, by omega, rfl, rfl, rfl, 0, rfl⟩
  case round =>
    obtain ⟨k, hk, rfl, rfl, rfl, n, rfl⟩ := hrel
    have hnb := nrK_bd v (vsOf L) k
    by_cases hlt : k < L.length
    · obtain ⟨bk, off, rfl, hbk, hc⟩ := hB.lies.lat hlt
      have hx := hB.inn _ (List.getElem_mem hlt)
      have hw := hL.out _ (List.getElem_mem hlt)
      have hget : Hid ((vsOf L)[k]?.getD [] = L[k].2.2) := Lib.hid (by rw [List.getElem?_map, List.getElem?_eq_getElem hlt]; rfl)
      have hyes : Hid (dst v L[k].2.2 < (nrK v (vsOf L) k).2 → nrK v (vsOf L) (k + 1) = ((k : Int), dst v L[k].2.2)) := Lib.hid fun h => by
        have := nrK_yes (v := v) (bs := vsOf L) (i := k) (by rw [hget.out]; exact h)
        rw [hget.out] at this; exact this
      have hno : Hid (¬ dst v L[k].2.2 < (nrK v (vsOf L) k).2 → nrK v (vsOf L) (k + 1) = nrK v (vsOf L) k) := Lib.hid fun h => nrK_no (by rw [hget.out]; exact h)
      clear hget
      generalize hX : L[k] = X at *
      clear hX
      obtain ⟨XA, Xc, xl⟩ := X
      simp only at *
      generalize hP : nrK v (vsOf L) k = P at *
      have HP := Lib.hid hP
      clear hP
      obtain ⟨at0, least⟩ := P
      simp only at *
      obtain ⟨hw1, hw2, hw3⟩ := hw
      have HW3 := Lib.hid hw3
      have HW1 := Lib.hid hw1
      clear hw3 hw1
      have hxl : xl.length ≤ 64 := by rw [HW1.out]; exact h64
      go_wp2_with fail
      go_loopw [10, 11, 21] (fun t10 _ i wr => ∃ q : Nat, q ≤ xl.length ∧ i = .int .i64 q ∧ t10 = .int .i64 (dsK v xl q) ∧ Hid (q = 0 ∨ dsK v xl q < least) ∧ ∃ m, wr = w.drewN m) (fun _ _ i _ => xl.length - (intOf i).toNat)
      case atStart => exact ⟨0, by omega, rfl, rfl, Lib.hid (Or.inl rfl), n, rfl⟩
      case round =>
        obtain ⟨q, hq, rfl, rfl, hpart, m, rfl⟩ := hrel
        by_cases hlq : q < xl.length
        · have hlv : q < v.length := by rw [← HW1.out]; exact hlq
          obtain ⟨b1, o1, rfl, hb1, hc1⟩ := hA.at_ hlv
          obtain ⟨b2, o2, rfl, hb2, hc2⟩ := hx.1.at_ hlq
          have a1 := getD_bd hv.out (by omega) (by omega) q
          have a2 := getD_bd HW3.out (by omega) (by omega) q
          have a3 := dsK_bd hv.out HW3.out q
          have a4 := dsK_nn v xl q
          have a5 := ds_term hv.out HW3.out q
          have a6 := sq_nn (v[q]?.getD 0 - xl[q]?.getD 0)
          have e7 : Hid (dsK v xl (q + 1) = dsK v xl q + (v[q]?.getD 0 - xl[q]?.getD 0) * (v[q]?.getD 0 - xl[q]?.getD 0)) := rfl
          generalize hx1 : v[q]?.getD 0 = x1 at *
          generalize hx2 : xl[q]?.getD 0 = x2 at *
          generalize hx3 : dsK v xl q = x3 at *
          clear hx1 hx2 hx3
          have p1 : IntKind.i64.wrap (x1 - x2) = x1 - x2 := IntWalk.i64_in _ (by omega)
          generalize hx4 : (x1 - x2) * (x1 - x2) = x4 at *
          have p2 : IntKind.i64.wrap x4 = x4 := IntWalk.i64_in _ (by omega)
          have p3 : IntKind.i64.wrap (x3 + x4) = x3 + x4 := IntWalk.i64_in _ (by omega)
          go_wp2_with fail
          go_quiet (fail)
          clear p1 p2 p3 hx4
          by_cases hge : least ≤ x3 + x4
          · have HN := Lib.hid (hno.out (by
              have := dsK_mono v xl (k := q + 1) (m := xl.length) (by omega)
              rw [e7.out] at this
              unfold dst
              omega))
            have hge' : x3 + x4 ≥ least := hge
            go_wp2_with fail
            exact ⟨⟨k + 1, by omega, by go_num, by rw [HN.out], by rw [HN.out], _, rfl⟩, by simp [intOf]; omega⟩
          · have hge' : ¬ (x3 + x4 ≥ least) := hge
            go_wp2_with fail
            exact ⟨⟨q + 1, by omega, by go_num, by rw [e7.out], Lib.hid (Or.inr (by rw [e7.out]; omega)), _, rfl⟩, by simp [intOf]; omega⟩
        · obtain rfl : q = xl.length := by omega
          have hd : dst v xl < least := by
            rcases hpart.out with h | h
            · omega
            · exact h
          have HY := Lib.hid (hyes.out hd)
          have HD : Hid (dsK v xl xl.length = dst v xl) := rfl
          clear hd
          go_wp2_with fail
          exact ⟨⟨k + 1, by omega, by go_num, by rw [HY.out], by rw [HY.out, HD.out], _, rfl⟩, by simp [intOf]; omega⟩
    · obtain rfl : k = L.length := by omega
      have HN : Hid (nrK v (vsOf L) L.length = nr v (vsOf L)) := Lib.hid (by unfold nr; rw [HVL.out])
      rw [HN.out]
      go_wp2_with fail
      try rw [Exit.noGoto_ret]
      go_ret2
      exact ⟨rfl, _, rfl⟩
end Go.Proofs.YtnflpnbpigcfhabDoor
/- SameLists: equality of two lists of lists -/
namespace Go.Proofs.YtnflpnbpigcfhabDoor
open Go.RowKit Ear

theorem vs_take_succ {a b : List (List Int)} {k : Nat} (hk : k < a.length) (hk' : k < b.length) (h : a.take k = b.take k) (hx : a[k] = b[k]) : a.take (k + 1) = b.take (k + 1) := by
  rw [List.take_succ_eq_append_getElem hk, List.take_succ_eq_append_getElem hk', h, hx]

set_option maxRecDepth 100000 in
set_option maxHeartbeats 1000000 in
theorem SameLists_any (A B : Option Addr) (c d : Nat) (L M : List Inn) (w : World) (hA : LL w A L) (hB : LL w B M) (hna : L.length ≤ 9223372036854775807) (r : Bool) (hr : Hid (decide (vsOf L = vsOf M) = r)) :
    Calls Tryd.prog 9 #[.slice A L.length c, .slice B M.length d] w (RetBool r w) := by
  have HVL : Hid ((vsOf L).length = L.length) := Lib.hid (by simp)
  have HVM : Hid ((vsOf M).length = M.length) := Lib.hid (by simp)
  by_cases hl : L.length = M.length
  · have H1 : ((L.length : Int) != (M.length : Int)) = false := by simp [hl]
    have HL := Lib.hid hl
    clear hl
    go_enter Tryd.func9, Tryd.ntmps9
    go_wp2
    go_loopw [5] (fun i wr => ∃ k : Nat, k ≤ L.length ∧ i = .int .i64 k ∧ Hid ((vsOf L).take k = (vsOf M).take k) ∧ ∃ n, wr = w.drewN n) (fun i _ => L.length - (intOf i).toNat)
    case atStart => exact ⟨0, Nat.zero_le _, rfl, rfl, 0, rfl⟩
    case round =>
      obtain ⟨k, hk, rfl, hp, n, rfl⟩ := hrel
      by_cases hlt : k < L.length
      · have hlt' : k < M.length := by have := HL.out; omega
        have q1 : k < (vsOf L).length := by rw [HVL.out]; exact hlt
        have q2 : k < (vsOf M).length := by rw [HVM.out]; exact hlt'
        obtain ⟨b1, o1, rfl, hb1, hc1⟩ := (show Lies (w.drewN n) A (lcs L) from hA.lies).lat hlt
        obtain ⟨b2, o2, rfl, hb2, hc2⟩ := (show Lies (w.drewN n) B (lcs M) from hB.lies).lat hlt'
        have hx1 : InOk (w.drewN n) L[k] := hA.inn _ (List.getElem_mem hlt)
        have hx2 : InOk (w.drewN n) M[k] := hB.inn _ (List.getElem_mem hlt')
        have hyes : Hid (L[k].2.2 = M[k].2.2 → (vsOf L).take (k + 1) = (vsOf M).take (k + 1)) := Lib.hid fun e => vs_take_succ q1 q2 hp.out (by simpa using e)
        have hno : Hid (¬ L[k].2.2 = M[k].2.2 → r = false) := Lib.hid fun e => by
          rw [← hr.out, decide_eq_false_iff_not]
          intro h
          apply e
          have h3 : (vsOf L)[k]? = (vsOf M)[k]? := by rw [h]
          rw [List.getElem?_eq_getElem q1, List.getElem?_eq_getElem q2] at h3
          injection h3 with h3
          simpa using h3
        clear q1 q2
        generalize L[k] = X at *
        generalize M[k] = Y at *
        obtain ⟨XA, Xc, xl⟩ := X
        obtain ⟨YA, Yc, yl⟩ := Y
        simp only at *
        generalize hwd : w.drewN n = wd at *
        have WD := Lib.hid hwd
        clear hwd
        have hxl := hx1.2.2.1
        have hyl := hx2.2.2.1
        simp only at hxl hyl
        cases hb : decide (xl = yl) with
        | true =>
          have HB := Lib.hid hb
          have HY := hyes.out (of_decide_eq_true hb)
          have HY' := Lib.hid HY
          clear hb HY
          have HQ := Lib.hid (fun m : Nat => Same_any XA YA Xc Yc xl yl (wd.drewN m) (hx1.1.drewN m) (hx2.1.drewN m) (by omega) (by omega) true HB)
          go_wp2_with fail
          go_quiet ((go_at_call 21; exact Calls.quiet_of (HQ.out _)))
          go_wp2_with fail
          exact ⟨⟨k + 1, by omega, by go_num, HY', by rw [← WD.out]; exact drewN_ex _ _ _⟩, by simp [intOf]; omega⟩
        | false =>
          have HB := Lib.hid hb
          have HY := hno.out (of_decide_eq_false hb)
          subst HY
          clear hb hr
          have HQ := Lib.hid (fun m : Nat => Same_any XA YA Xc Yc xl yl (wd.drewN m) (hx1.1.drewN m) (hx2.1.drewN m) (by omega) (by omega) false HB)
          go_wp2_with fail
          go_quiet ((go_at_call 21; exact Calls.quiet_of (HQ.out _)))
          go_wp2_with fail
          go_ret
          exact ⟨rfl, by rw [← WD.out]; exact drewN_ex _ _ _⟩
      · have HR : r = true := by
          have := hp.out
          rw [List.take_of_length_le (by rw [HVL.out]; omega), List.take_of_length_le (by rw [HVM.out]; have := HL.out; omega)] at this
          rw [← hr.out]; simp [this]
        subst HR
        clear hr
        go_wp2_with fail
        go_ret
        exact ⟨rfl, _, rfl⟩
  · have H1 : ((L.length : Int) != (M.length : Int)) = true := by simp; omega
    have HR : r = false := by
      rw [← hr.out]
      have : ¬ vsOf L = vsOf M := fun h => hl (by have := congrArg List.length h; simpa using this)
      simp [this]
    subst HR
    clear hr hl
    go_enter Tryd.func9, Tryd.ntmps9
    go_wp2
    go_ret
    exact ⟨rfl, 0, rfl⟩
end Go.Proofs.YtnflpnbpigcfhabDoor
/- copied: a codebook in new memory -/
namespace Go.Proofs.YtnflpnbpigcfhabDoor
open Go.RowKit Ear

/-- n lists, of which the first k are as f says -/
def fillV (f z : Nat → List Int) (n k : Nat) : List (List Int) := (List.range n).map fun q => if q < k then f q else z q
theorem fillV_zero (f z : Nat → List Int) (n : Nat) : fillV f z n 0 = (List.range n).map z := by simp [fillV]
theorem fillV_all (f z : Nat → List Int) (n : Nat) : fillV f z n n = (List.range n).map f := by
  apply List.ext_getElem (by simp [fillV])
  intro q h1 h2
  simp only [fillV, List.length_map, List.length_range] at h1
  simp only [fillV, List.getElem_map, List.getElem_range]
  rw [if_pos h1]
theorem fillV_set (f z : Nat → List Int) (n k : Nat) (v : List Int) (h : v = f k) : (fillV f z n k).set k v = fillV f z n (k + 1) := by
  subst h
  apply List.ext_getElem (by simp [fillV])
  intro q h1 h2
  rw [List.getElem_set]
  simp only [fillV, List.getElem_map, List.getElem_range]
  by_cases h : k = q
  · subst h; simp
  · rw [if_neg h]
    by_cases h' : q < k
    · rw [if_pos h', if_pos (by omega)]
    · rw [if_neg h', if_neg (by omega)]
theorem fillV_skip (f z : Nat → List Int) (n k : Nat) (h : z k = f k) : fillV f z n k = fillV f z n (k + 1) := by
  apply List.ext_getElem (by simp [fillV])
  intro q h1 h2
  simp only [fillV, List.getElem_map, List.getElem_range]
  by_cases h' : q < k
  · rw [if_pos h', if_pos (by omega)]
  · rw [if_neg h']
    by_cases e : q = k
    · subst e; rw [if_pos (by omega), h]
    · rw [if_neg (by omega)]
theorem vs_range (L : List (List Int)) : (List.range L.length).map (fun q => L[q]?.getD []) = L := by
  apply List.ext_getElem (by simp)
  intro q h1 h2
  simp [List.getElem?_eq_getElem h2]
theorem setCell_alike {w w' : World} {p : Addr} (h : w'.heap[p.block]? = w.heap[p.block]?) (u : Value) : (w'.setCell p u).heap[p.block]? = (w.setCell p u).heap[p.block]? := by
  show (w'.heap.modify p.block _)[p.block]? = (w.heap.modify p.block _)[p.block]?
  rw [Array.getElem?_modify, Array.getElem?_modify, h]
theorem own_len {w : World} {base : Nat} {e : TypeId} {n c : Nat} {A : Option Addr} {xs : List Value} (h : w.ownsRow base e 1 (.slice A n c) n xs) : xs.length = n := by have := h.1; omega

set_option maxRecDepth 100000 in
set_option maxHeartbeats 1000000 in
theorem copied_any (A : Option Addr) (c : Nat) (L : List Inn) (w : World) (hA : LL w A L) (hn : L.length ≤ 1000000) (hl : Hid (∀ x ∈ L, x.2.2.length ≤ 1000000)) :
    Calls Tryd.prog 59 #[.slice A L.length c] w (RetLL (vsOf L) w) := by
  have HVL : Hid ((vsOf L).length = L.length) := Lib.hid (by simp)
  go_enter Tryd.func59, Tryd.ntmps59
  go_wp2_with fail
  obtain ⟨w1, hmk, ho1, hb1⟩ := make_intss w L.length (by omega) w.heap.size (Nat.le_refl _)
  rw [hmk]
  clear hmk
  obtain ⟨g, hg⟩ : ∃ g, g = w.heap.size := ⟨_, rfl⟩
  rw [← hg] at ho1 ⊢
  have hg0 : w.heap.size ≤ g := by omega
  clear hg
  have HF0 : Hid (vsOf (List.replicate L.length ((none, 0, []) : Inn)) = fillV (fun q => (vsOf L)[q]?.getD []) (fun _ => []) L.length 0) := Lib.hid (by
    rw [fillV_zero]
    apply List.ext_getElem (by simp)
    intro q h1 h2
    simp)
  go_wp2_with fail
  go_loopw [4, 5, 11] (fun _ _ i wr => ∃ k : Nat, k ≤ L.length ∧ i = .int .i64 k ∧ ∃ M : List Inn, LLo wr g (some ⟨g, 0, none⟩) L.length M ∧ Hid (M.length = L.length) ∧ Hid (vsOf M = fillV (fun q => (vsOf L)[q]?.getD []) (fun _ => []) L.length k) ∧ Below w.heap.size w wr) (fun _ _ i _ => L.length - (intOf i).toNat)
  case atStart => exact ⟨0, by omega, rfl, _, ho1, Lib.hid (by simp), HF0, hb1⟩
  case round =>
    clear ho1
    obtain ⟨k, hk, rfl, M, r1, r2, r3, r4⟩ := hrel
    by_cases hlt : k < L.length
    · obtain ⟨bk, off, eA, hbk, hc⟩ := (hA.below r4).lies.lat hlt
      cases eA
      have hx := hA.inn _ (List.getElem_mem hlt)
      have hxl := hl.out _ (List.getElem_mem hlt)
      have hget : Hid ((vsOf L)[k]?.getD [] = L[k].2.2) := Lib.hid (vsOf_get hlt)
      generalize L[k] = X at *
      obtain ⟨XA, Xc, xl⟩ := X
      simp only at *
      have q0 := r1.row
      rw [r2.out] at q0
      have q1 : ∃ u, wr.cell? ⟨g, k, none⟩ = some u := ⟨_, (q0.cellAt k (by omega)).trans (List.getElem?_eq_getElem (by rw [own_len q0]; exact hlt))⟩
      have q2 : wr.frozen? ⟨g, k, none⟩ = false := q0.frozenAt k
      have gb := (q0.lt g rfl).2
      obtain ⟨u, q1⟩ := q1
      obtain ⟨w1', hmk, ho1, hb1'⟩ := make_ints wr xl.length (by omega) wr.heap.size (Nat.le_refl _)
      have q1' : w1'.cell? ⟨g, k, none⟩ = some u := (hb1'.cell (p := ⟨g, k, none⟩) gb).trans q1
      have q2' : w1'.frozen? ⟨g, k, none⟩ = false := (hb1'.frozen (p := ⟨g, k, none⟩) gb).trans q2
      obtain ⟨g', hg'⟩ : ∃ g', g' = wr.heap.size := ⟨_, rfl⟩
      rw [← hg'] at ho1 hmk hb1' gb
      have HG' := Lib.hid hg'
      have hgw : w.heap.size ≤ g' := by rw [hg']; exact r4.size
      clear hg' q1 q2
      have HX := Lib.hid hx
      have hbV : Below w.heap.size w (w1'.setCell ⟨g, k, none⟩ (.slice (some ⟨g', 0, none⟩) xl.length xl.length)) := (r4.trans (hb1'.mono hgw)).setCell hg0 _
      have hoV : (w1'.setCell ⟨g, k, none⟩ (.slice (some ⟨g', 0, none⟩) xl.length xl.length)).ownsRow g' 3 1 (.slice (some ⟨g', 0, none⟩) xl.length xl.length) xl.length (ics (List.replicate xl.length 0)) := ownsRow_setCell_other ho1 (by simp [Value.ownBlock]; omega) _
      have hlx : Lies (w1'.setCell ⟨g, k, none⟩ (.slice (some ⟨g', 0, none⟩) xl.length xl.length)) XA (ics xl) := hx.1.below hbV
      have HLX := Lib.hid hlx
      have HBV := Lib.hid hbV
      have HOV := Lib.hid hoV
      have hml : xl.length ≤ maxLen := by unfold maxLen; omega
      clear hbV hoV hx ho1 q0 hlx
      go_wp2_with (with_reducible refine wpList_copy_ints rfl _ _ rfl g' xl.length Xc XA xl (List.replicate xl.length 0) rfl rfl (Nat.le_refl _) g' HOV.out hml HLX.out g' _ (Below.refl _ _) (Nat.le_refl _) ?_; intro w2 ho2 hb2)
      have e : xl ++ (List.replicate xl.length 0).drop xl.length = xl := by simp
      rw [e] at ho2
      have hit : InT w2 (some ⟨g', 0, none⟩, xl.length, xl) := InT.of_own ho2 rfl (by omega) HX.out.2.2.2.2
      have hs2 : w1'.heap.size ≤ w2.heap.size := by have := hb2.size; simpa [World.setCell] using this
      have hput := r1.put (w' := w2) (k := k) (x := (some ⟨g', 0, none⟩, xl.length, xl)) r2.out.symm (Nat.le_trans hb1'.size hs2)
        (fun b hb hne => by
          rw [← HG'.out] at hb
          rw [hb2.block b hb, Below.heap_setCell _ _ _ _ hne, hb1'.block b hb])
        (by rw [hb2.block g gb]; exact setCell_alike (p := ⟨g, k, none⟩) (hb1'.block g gb) _) hit (by omega)
      refine ⟨⟨k + 1, by omega, by go_num, _, hput, Lib.hid (by rw [List.length_set, r2.out]), Lib.hid ?_, HBV.out.trans (hb2.mono hgw)⟩, by simp [intOf]; omega⟩
      rw [vsOf, List.map_set]
      have := r3.out
      rw [vsOf] at this
      rw [this, fillV_set _ _ _ _ _ (by rw [hget.out])]
    · obtain rfl : k = L.length := by omega
      have e : fillV (fun q => (vsOf L)[q]?.getD []) (fun _ => []) L.length L.length = vsOf L := by
        rw [fillV_all, ← HVL.out, vs_range]
      have E := Lib.hid (r3.out.trans e)
      clear e
      go_wp2_with fail
      go_ret
      exact ⟨_, _, M, by rw [r2.out]; rfl, E, r1.le hg0, r4⟩
end Go.Proofs.YtnflpnbpigcfhabDoor
/- lists of lists that grow side by side: a row of rows that the call owns -/
namespace Go.Proofs.YtnflpnbpigcfhabDoor
open Go.RowKit Ear

/-- a list of lists: its address, capacity and elements -/
abbrev Bin := Option Addr × Nat × List Inn
abbrev bns (F : List Bin) : List Value := F.map fun x => Value.slice x.1 x.2.2.length x.2.1
abbrev binV (x : Bin) : Value := .slice x.1 x.2.2.length x.2.1
structure Bins (w : World) (base g : Nat) (F : List Bin) : Prop where
  row : w.ownsRow base 32 1 (.slice (some ⟨g, 0, none⟩) F.length F.length) F.length (bns F)
  own : ∀ (j : Nat) (x : Bin), F[j]? = some x → w.ownsRow base 22 1 (binV x) x.2.2.length (lcs x.2.2)
  apart : ∀ (i j : Nat) (x y : Bin) (b : Nat), i ≠ j → F[i]? = some x → F[j]? = some y → (binV x).ownBlock = some b → (binV y).ownBlock ≠ some b
theorem Bins.below {w w' : World} {base g : Nat} {F : List Bin} (h : Bins w base g F) (hb : Below w.heap.size w w') : Bins w' base g F :=
  ⟨own_below h.row hb, fun j x e => own_below (h.own j x e) hb, h.apart⟩
theorem Bins.drewN {w : World} {base g : Nat} {F : List Bin} (h : Bins w base g F) (n : Nat) : Bins (w.drewN n) base g F := ⟨h.row, h.own, h.apart⟩
theorem Bins.tag {w : World} {base g : Nat} {F : List Bin} (h : Bins w base g F) : BT w g 32 := BT.of_own h.row rfl
theorem tag_ne : (22 : TypeId) ≠ 32 := by decide
/-- one more list at a place -/
theorem Bins.push {w w1 w2 : World} {base g k c' : Nat} {A' : Option Addr} {F : List Bin} {x : Bin} {v : Inn} (h : Bins w base g F) (hk : F[k]? = some x) (hb : Below w.heap.size w w1)
    (hg : w1.grownBy w2 (binV x).ownBlock) (hr : w2.ownsRow base 22 1 (.slice A' (x.2.2.length + 1) c') (x.2.2.length + 1) (lcs x.2.2 ++ [Value.slice v.1 v.2.2.length v.2.1]))
    (hat : (Value.slice A' (x.2.2.length + 1) c').ownBlock = (binV x).ownBlock ∨ (Value.slice A' (x.2.2.length + 1) c').ownBlock = some w1.heap.size) :
    Bins (w2.setCell ⟨g, k, none⟩ (.slice A' (x.2.2.length + 1) c')) base g (F.set k (A', c', x.2.2 ++ [v])) := by
  have h1 := h.below hb
  have hrow : w2.ownsRow base 32 1 (.slice (some ⟨g, 0, none⟩) F.length F.length) F.length (bns F) := h1.row.kept hg (.inr (fun e => by
    have hbt := BT.of_own (h1.own k x hk) (b := g) (by rw [← e]; rfl)
    exact hbt.ne h1.tag tag_ne rfl))
  have hbtg : BT w2 g 32 := BT.of_own hrow rfl
  have hlt : ∀ (j : Nat) (y : Bin) (b : Nat), F[j]? = some y → (binV y).ownBlock = some b → b < w1.heap.size := fun j y b e e2 => ((h1.own j y e).lt b e2).2
  have hoth : ∀ (j : Nat) (y : Bin), j ≠ k → F[j]? = some y → w2.ownsRow base 22 1 (binV y) y.2.2.length (lcs y.2.2) := fun j y hj e => by
    refine (h1.own j y e).kept hg ?_
    cases hy : (binV y).ownBlock with
    | none => exact .inl rfl
    | some b => exact .inr (fun e2 => h.apart k j x y b (Ne.symm hj) hk e e2.symm hy)
  have hnewv : binV (A', c', x.2.2 ++ [v]) = .slice A' (x.2.2.length + 1) c' := by simp [binV]
  refine ⟨?_, fun j y e => ?_, fun i j y z b hij e1 e2 e3 e4 => ?_⟩
  · have h2 := (hrow.stored k (.slice A' (x.2.2.length + 1) c')).1
    have e : (bns F).set k (.slice A' (x.2.2.length + 1) c') = bns (F.set k (A', c', x.2.2 ++ [v])) := by simp [bns, List.map_set]
    rw [e] at h2
    simpa using h2
  · rw [List.getElem?_set] at e
    split at e
    · rename_i hkj
      subst hkj
      split at e
      · injection e with e
        subst e
        rw [hnewv]
        have e5 : lcs (x.2.2 ++ [v]) = lcs x.2.2 ++ [Value.slice v.1 v.2.2.length v.2.1] := by simp
        have e6 : (x.2.2 ++ [v]).length = x.2.2.length + 1 := by simp
        show World.ownsRow _ _ _ _ _ (x.2.2 ++ [v]).length (lcs (x.2.2 ++ [v]))
        rw [e5, e6]
        exact ownsRow_setCell_other hr (fun e7 => (BT.of_own hr e7).ne hbtg tag_ne rfl) _
      · cases e
    · rename_i hkj
      have h3 := hoth j y (fun h => hkj h.symm) e
      exact ownsRow_setCell_other h3 (fun e7 => (BT.of_own h3 e7).ne hbtg tag_ne rfl) _
  · rw [List.getElem?_set] at e1 e2
    split at e1
    · rename_i hki
      subst hki
      rw [if_neg hij] at e2
      split at e1
      · injection e1 with e1
        subst e1
        rw [hnewv] at e3
        rcases hat with hat | hat
        · rw [hat] at e3
          exact h.apart k j x z b hij hk e2 e3 e4
        · rw [hat] at e3
          injection e3 with e3
          have := hlt j z b e2 e4
          omega
      · cases e1
    · split at e2
      · rename_i hki hkj
        subst hkj
        split at e2
        · injection e2 with e2
          subst e2
          rw [hnewv] at e4
          rcases hat with hat | hat
          · rw [hat] at e4
            exact h.apart i k y x b hij e1 hk e3 e4
          · rw [hat] at e4
            injection e4 with e4
            have := hlt i y b e1 e3
            omega
        · cases e2
      · exact h.apart i j y z b hij e1 e2 e3 e4
theorem info_intss : (Tryd.prog.info? 32).map (fun i => (i.zero, i.size, i.bytes)) = some (some (.slice none 0 0), 1, 24) := by kernel_rfl
theorem made_bins (n : Nat) : (madeCells (Value.slice none 0 0).cells (n * 1)).toList = bns (List.replicate n (none, 0, [])) := by
  apply List.ext_getElem (by simp [madeCells])
  intro k h1 h2
  simp [madeCells, Value.cells, Nat.mod_one]
/-- make([][][]int, n) -/
theorem make_bins (w : World) (n : Nat) (hn : n ≤ 1000000000) (base : Nat) (hb : base ≤ w.heap.size) :
    ∃ w', (Instr.makeSlice 81 (.int .i64 (n : Int)) (.int .i64 (n : Int))).run Tryd.prog w = .ok (.slice (some ⟨w.heap.size, 0, none⟩) n n) w' ∧
      Bins w' base w.heap.size (List.replicate n (none, 0, [])) ∧ Below w.heap.size w w' := by
  obtain ⟨i0, hi0, hz0, hz1, hz2⟩ := info_parts info_intss
  obtain ⟨w', h1, h2, h3⟩ := run_make_full (P := Tryd.prog) w base 81 32 i0 _ 1 Tryd.underlying81 hi0 hz0 hz1 .i64 .i64 n (by rw [hz2]; omega) (by unfold maxLen; omega) hb
  rw [made_bins] at h2
  have hrep : ∀ (j : Nat) (x : Bin), (List.replicate n ((none, 0, []) : Bin))[j]? = some x → x = (none, 0, []) := fun j x e => List.eq_of_mem_replicate (List.mem_of_getElem? e)
  refine ⟨w', h1, ⟨by simpa using h2, fun j x e => ?_, fun i j x y b _ e _ e2 _ => ?_⟩, below_none h3⟩
  · rw [hrep j x e]; exact World.ownsRow_nil _ _ _ _
  · rw [hrep i x e] at e2; simp [Value.ownBlock] at e2
end Go.Proofs.YtnflpnbpigcfhabDoor
/- Plain law: centered vectors, differences -/
namespace Ear

theorem rnd_err (S n : Int) (hn : 1 ≤ n) : -n ≤ 2 * (S - n * rnd S n) ∧ 2 * (S - n * rnd S n) ≤ n := by
  have pos : ∀ S : Int, 0 ≤ S → -n ≤ 2 * (S - n * rnd S n) ∧ 2 * (S - n * rnd S n) ≤ n := fun S h => by
    rw [rnd_pos h]
    have h1 := Int.mul_ediv_add_emod (2 * S + n) (2 * n)
    have h2 := Int.emod_nonneg (2 * S + n) (show 2 * n ≠ 0 by omega)
    have h3 := Int.emod_lt_of_pos (2 * S + n) (show 0 < 2 * n by omega)
    generalize (2 * S + n) / (2 * n) = q at *
    have e : 2 * n * q = 2 * (n * q) := Int.mul_assoc ..
    rw [e] at h1
    generalize n * q = z at *
    omega
  by_cases h : S < 0
  · have := pos (-S) (by omega)
    rw [rnd_of_neg h, Int.mul_neg]
    omega
  · exact pos S (by omega)
theorem rnd_small {S n : Int} (h1 : -n < 2 * S) (h2 : 2 * S < n) : rnd S n = 0 := by
  by_cases h : S < 0
  · rw [rnd_neg h, Int.ediv_eq_zero_of_lt (by omega) (by omega)]; rfl
  · rw [rnd_pos (by omega), Int.ediv_eq_zero_of_lt (by omega) (by omega)]
theorem cenL_length (vs : List (List Int)) : (cenL vs).length = vs.length := by simp [cenL]
theorem cenL_get {vs : List (List Int)} {t : Nat} (ht : t < vs.length) : (cenL vs)[t]?.getD [] = cmb (· - ·) (vs[t]?.getD []) (meanL vs) := by
  simp [cenL, List.getElem?_eq_getElem ht]
theorem cmb_get {f : Int → Int → Int} {a b : List Int} {q : Nat} (hq : q < a.length) : (cmb f a b)[q]?.getD 0 = f (a[q]?.getD 0) (b[q]?.getD 0) := by
  rw [List.getElem?_eq_getElem (by rw [cmb_length]; exact hq)]
  simp [cmb]
theorem meanL_get {vs : List (List Int)} {c : Nat} (hc : c < len0 vs) : (meanL vs)[c]?.getD 0 = rnd (colS vs c vs.length) vs.length := by
  rw [List.getElem?_eq_getElem (by rw [meanL_length]; exact hc)]
  simp [meanL, sumV]
/-- the sum of a component of the centered vectors -/
theorem colS_cen {vs : List (List Int)} (h : ∀ x ∈ vs, x.length = len0 vs) {c : Nat} (hc : c < len0 vs) : ∀ t, t ≤ vs.length → colS (cenL vs) c t = colS vs c t - t * rnd (colS vs c vs.length) vs.length := by
  intro t
  induction t with
  | zero => intro _; simp [colS]
  | succ t ih =>
    intro ht
    have hx := h vs[t] (List.getElem_mem (by omega))
    have hl : (vs[t]?.getD []).length = len0 vs := by rw [List.getElem?_eq_getElem (by omega)]; exact hx
    simp only [colS]
    rw [ih (by omega), cenL_get (by omega), cmb_get (by rw [hl]; exact hc), meanL_get hc]
    generalize rnd (colS vs c vs.length) vs.length = m
    rw [Int.natCast_add, Int.add_mul]
    omega
theorem cen_sum {vs : List (List Int)} (h : ∀ x ∈ vs, x.length = len0 vs) (h0 : 0 < vs.length) {c : Nat} (hc : c < len0 vs) : -(vs.length : Int) ≤ 2 * colS (cenL vs) c vs.length ∧ 2 * colS (cenL vs) c vs.length ≤ vs.length := by
  rw [colS_cen h hc _ (Nat.le_refl _)]
  exact rnd_err _ _ (by omega)
theorem len0_cen {vs : List (List Int)} (h0 : 0 < vs.length) : len0 (cenL vs) = len0 vs := by
  cases vs with
  | nil => simp at h0
  | cons x l => simp [len0, cenL, cmb_length]
/-- centered once more, nothing turns -/
theorem cen_again {vs : List (List Int)} (h : ∀ x ∈ vs, x.length = len0 vs) (h0 : 0 < vs.length) (hs : ∀ c, c < len0 vs → -(vs.length : Int) < 2 * colS (cenL vs) c vs.length ∧ 2 * colS (cenL vs) c vs.length < vs.length) : cenL (cenL vs) = cenL vs := by
  have hm : ∀ c, c < len0 vs → (meanL (cenL vs))[c]?.getD 0 = 0 := fun c hc => by
    rw [meanL_get (by rw [len0_cen h0]; exact hc), cenL_length]
    exact rnd_small (hs c hc).1 (hs c hc).2
  apply List.ext_getElem (by simp [cenL])
  intro t h1 h2
  have ht : t < vs.length := by rw [cenL_length] at h2; exact h2
  have hx := h vs[t] (List.getElem_mem ht)
  simp only [cenL, List.getElem_map]
  apply List.ext_getElem (by simp [cmb_length])
  intro q h3 h4
  have hq : q < len0 vs := by rw [cmb_length, hx] at h4; exact h4
  have e := hm q hq
  have e1 : ∀ (x : List Int), (cmb (· - ·) x (meanL (cenL vs)))[q]?.getD 0 = if q < x.length then x[q]?.getD 0 - (meanL (cenL vs))[q]?.getD 0 else 0 := fun x => by
    by_cases hx : q < x.length
    · rw [cmb_get hx, if_pos hx]
    · rw [if_neg hx, List.getElem?_eq_none (by rw [cmb_length]; omega)]; rfl
  have e2 := e1 (cmb (· - ·) vs[t] (meanL vs))
  rw [e, Int.sub_zero, if_pos h4, List.getElem?_eq_getElem h4, List.getElem?_eq_getElem (by simpa [cenL] using h3)] at e2
  simpa [cenL] using e2
theorem difL_get {vs : List (List Int)} {t : Nat} (ht : t < vs.length) : (difL vs)[t]?.getD [] = difAt vs t := by
  rw [List.getElem?_eq_getElem (by rw [difL_length]; exact ht)]
  simp [difL]
/-- a component of a vector, 0 past the end -/
abbrev cAt (vs : List (List Int)) (t c : Nat) : Int := (vs[t]?.getD [])[c]?.getD 0
theorem difAt_length {vs : List (List Int)} (h : ∀ x ∈ vs, x.length = len0 vs) {t : Nat} (ht : t < vs.length) : (difAt vs t).length = 2 * len0 vs := by
  have hx : ∀ t, t < vs.length → (vs[t]?.getD []).length = len0 vs := fun t ht => by rw [List.getElem?_eq_getElem ht]; exact h _ (List.getElem_mem ht)
  rw [difAt, List.length_append, cmb_length, hx t ht, hx _ (by omega)]
  omega
theorem difAt_get {vs : List (List Int)} (h : ∀ x ∈ vs, x.length = len0 vs) {t c : Nat} (ht : t < vs.length) (hc : c < len0 vs) : (difAt vs t)[len0 vs + c]?.getD 0 = cAt vs (min (t + 1) (vs.length - 1)) c - cAt vs (t - 1) c := by
  have hx : ∀ t, t < vs.length → (vs[t]?.getD []).length = len0 vs := fun t ht => by rw [List.getElem?_eq_getElem ht]; exact h _ (List.getElem_mem ht)
  rw [difAt, List.getElem?_append_right (by rw [hx t ht]; omega), hx t ht, Nat.add_sub_cancel_left, cmb_get (by rw [hx _ (by omega)]; exact hc)]
/-- the sum of the differences of a component, over the first t -/
theorem dif_part {vs : List (List Int)} (h : ∀ x ∈ vs, x.length = len0 vs) {c : Nat} (hc : c < len0 vs) : ∀ t, 1 ≤ t → t < vs.length → colS (difL vs) (len0 vs + c) t = cAt vs t c + cAt vs (t - 1) c - cAt vs 0 c - cAt vs 0 c := by
  intro t
  induction t with
  | zero => intro h1; omega
  | succ t ih =>
    intro _ h2
    simp only [colS]
    rw [difL_get (by omega), difAt_get h (by omega) hc, Nat.min_eq_left (by omega)]
    by_cases h1 : t = 0
    · subst h1; simp only [colS, Nat.zero_add, Nat.sub_self, Nat.zero_sub]; omega
    · rw [ih (by omega) (by omega), Nat.add_sub_cancel]
      omega
theorem dif_sum {vs : List (List Int)} (h : ∀ x ∈ vs, x.length = len0 vs) {c : Nat} (hc : c < len0 vs) (hn : 1 < vs.length) : colS (difL vs) (len0 vs + c) vs.length = cAt vs (vs.length - 1) c + cAt vs (vs.length - 1) c - cAt vs 0 c - cAt vs 0 c := by
  obtain ⟨m, hm⟩ : ∃ m, vs.length = m + 1 := ⟨vs.length - 1, by omega⟩
  rw [hm]
  simp only [colS]
  rw [dif_part h hc m (by omega) (by omega), difL_get (by omega), difAt_get h (by omega) hc, hm, Nat.add_sub_cancel, Nat.min_eq_right (by omega)]
  omega
end Ear
/- Plain law: improving a codebook does not raise the cost; training -/
namespace Ear

/-- a sum over a list -/
def lsum {α : Type} (f : α → Int) : List α → Int
  | [] => 0
  | x :: l => f x + lsum f l
section
variable {α : Type}
theorem lsum_append (f : α → Int) (a b : List α) : lsum f (a ++ b) = lsum f a + lsum f b := by
  induction a with
  | nil => simp [lsum]
  | cons x l ih => simp only [List.cons_append, lsum, ih]; omega
theorem lsum_add (f g : α → Int) (l : List α) : lsum (fun x => f x + g x) l = lsum f l + lsum g l := by
  induction l with
  | nil => rfl
  | cons x l ih => simp only [lsum, ih]; omega
theorem lsum_le {f g : α → Int} {l : List α} (h : ∀ x ∈ l, f x ≤ g x) : lsum f l ≤ lsum g l := by
  induction l with
  | nil => exact Int.le_refl _
  | cons x l ih =>
    have h1 := h x (List.mem_cons_self ..)
    have h2 := ih fun y hy => h y (List.mem_cons_of_mem _ hy)
    simp only [lsum]; omega
theorem lsum_congr {f g : α → Int} {l : List α} (h : ∀ x ∈ l, f x = g x) : lsum f l = lsum g l := by
  induction l with
  | nil => rfl
  | cons x l ih => simp only [lsum, h x (List.mem_cons_self ..), ih fun y hy => h y (List.mem_cons_of_mem _ hy)]
theorem lsum_sq (y : α → Int) (c : Int) (l : List α) : lsum (fun x => (y x - c) * (y x - c)) l = lsum (fun x => y x * y x) l - 2 * (c * lsum y l) + l.length * (c * c) := by
  induction l with
  | nil => simp [lsum]
  | cons x l ih =>
    simp only [lsum]
    rw [ih]
    simp only [List.length_cons, Int.natCast_add, Int.add_mul, Int.sub_mul, Int.mul_sub, Int.mul_add, Int.mul_comm (y x) c]
    omega
end
theorem sumN_add (f g : Nat → Int) (n : Nat) : sumN (fun i => f i + g i) n = sumN f n + sumN g n := by
  induction n with
  | zero => rfl
  | succ n ih => simp only [sumN, ih]; omega
theorem sumN_zero {f : Nat → Int} {n : Nat} (h : ∀ i, i < n → f i = 0) : sumN f n = 0 := by
  induction n with
  | zero => rfl
  | succ n ih => simp only [sumN, ih (fun i hi => h i (by omega)), h n (by omega)]; rfl
theorem sumN_le {f g : Nat → Int} {n : Nat} (h : ∀ i, i < n → f i ≤ g i) : sumN f n ≤ sumN g n := by
  induction n with
  | zero => exact Int.le_refl _
  | succ n ih =>
    have h1 := ih fun i hi => h i (by omega)
    have h2 := h n (by omega)
    simp only [sumN]; omega
theorem sumN_one (h : Nat → Int) {a m : Nat} (ha : a < m) : sumN (fun i => if (a : Int) == (i : Int) then h i else 0) m = h a := by
  induction m with
  | zero => omega
  | succ m ih =>
    simp only [sumN]
    by_cases e : a = m
    · subst e
      rw [sumN_zero (fun i hi => by rw [if_neg]; simp; omega)]
      simp
    · rw [ih (by omega), if_neg (by simp; omega)]; omega
/-- a sum by classes -/
theorem lsum_group {α : Type} (p : α → Int) (g : α → Nat → Int) (m : Nat) (l : List α) (h : ∀ x ∈ l, ∃ a : Nat, a < m ∧ p x = a) :
    lsum (fun x => g x (p x).toNat) l = sumN (fun i => lsum (fun x => g x i) (l.filter fun x => p x == (i : Int))) m := by
  induction l with
  | nil => simp only [List.filter_nil, lsum]; exact (sumN_zero fun _ _ => rfl).symm
  | cons x l ih =>
    obtain ⟨a, ha, hp⟩ := h x (List.mem_cons_self ..)
    have e : ∀ i : Nat, i < m → lsum (fun x => g x i) ((x :: l).filter fun x => p x == (i : Int)) = (if (a : Int) == (i : Int) then g x i else 0) + lsum (fun x => g x i) (l.filter fun x => p x == (i : Int)) := fun i _ => by
      rw [List.filter_cons, hp]
      split <;> simp [lsum]
    rw [sumN_congr e, sumN_add, sumN_one (fun i => g x i) ha, ← ih fun y hy => h y (List.mem_cons_of_mem _ hy)]
    simp only [lsum, hp, Int.toNat_natCast]
theorem colS_lsum (vs : List (List Int)) (c : Nat) : ∀ t, t ≤ vs.length → colS vs c t = lsum (fun x => x[c]?.getD 0) (vs.take t) := by
  intro t
  induction t with
  | zero => intro _; rfl
  | succ t ih =>
    intro ht
    rw [List.take_succ_eq_append_getElem (by omega), lsum_append, ← ih (by omega)]
    simp only [colS, lsum, List.getElem?_eq_getElem (show t < vs.length by omega), Option.getD_some]
    omega
/-- the mean is the best place -/
theorem best_place (S n c r : Int) (h1 : -n ≤ 2 * (S - n * r)) (h2 : 2 * (S - n * r) ≤ n) : n * (r * r) - 2 * (r * S) ≤ n * (c * c) - 2 * (c * S) := by
  have key : 0 ≤ (c - r) * (n * (c + r) - 2 * S) := by
    by_cases h : r < c
    · refine Int.mul_nonneg (by omega) ?_
      have hn : 0 ≤ n := by omega
      have := Int.mul_le_mul_of_nonneg_left (show r + r + 1 ≤ c + r by omega) hn
      simp only [Int.mul_add, Int.mul_one] at *
      omega
    · by_cases h' : c = r
      · subst h'; simp
      · have hn : 0 ≤ n := by omega
        have := Int.mul_le_mul_of_nonneg_left (show c + r ≤ r + r - 1 by omega) hn
        simp only [Int.mul_add, Int.mul_sub, Int.mul_one] at this h1 h2
        have h3 : n * (c + r) - 2 * S ≤ 0 := by rw [Int.mul_add]; omega
        have h4 := Int.mul_nonneg (show 0 ≤ r - c by omega) (show 0 ≤ -(n * (c + r) - 2 * S) by omega)
        rw [Int.mul_neg, ← Int.neg_mul] at h4
        rwa [show -(r - c) = c - r by omega] at h4
  have e : (c - r) * (n * (c + r) - 2 * S) = n * (c * c) - 2 * (c * S) - (n * (r * r) - 2 * (r * S)) := by
    have a1 : c * (n * (c + r)) = n * (c * c) + n * (c * r) := by rw [← Int.mul_assoc, Int.mul_comm c n, Int.mul_assoc, Int.mul_add, Int.mul_add]
    have a2 : r * (n * (c + r)) = n * (c * r) + n * (r * r) := by rw [← Int.mul_assoc, Int.mul_comm r n, Int.mul_assoc, Int.mul_add, Int.mul_add, Int.mul_comm r c]
    have a3 : c * (2 * S) = 2 * (c * S) := by rw [← Int.mul_assoc, Int.mul_comm c 2, Int.mul_assoc]
    have a4 : r * (2 * S) = 2 * (r * S) := by rw [← Int.mul_assoc, Int.mul_comm r 2, Int.mul_assoc]
    rw [Int.sub_mul, Int.mul_sub, Int.mul_sub, a1, a2, a3, a4]
    omega
  omega
/-- the distances to the mean, one component after the other -/
theorem mean_best {own : List (List Int)} (h0 : own ≠ []) (c : List Int) : ∀ k, k ≤ len0 own → lsum (fun x => dsK x (meanL own) k) own ≤ lsum (fun x => dsK x c k) own := by
  have hn : 0 < own.length := List.length_pos_iff.2 h0
  intro k
  induction k with
  | zero => intro _; exact Int.le_refl _
  | succ k ih =>
    intro hk
    have h1 := ih (by omega)
    simp only [dsK]
    rw [lsum_add, lsum_add, lsum_sq (fun x => x[k]?.getD 0), lsum_sq (fun x => x[k]?.getD 0)]
    have hc := colS_lsum own k own.length (Nat.le_refl _)
    rw [List.take_length] at hc
    rw [meanL_get (by omega), hc]
    generalize lsum (fun x : List Int => x[k]?.getD 0) own = S at *
    have hr := rnd_err S own.length (by omega)
    have := best_place S own.length (c[k]?.getD 0) (rnd S own.length) hr.1 hr.2
    omega
theorem nrK_le (v : List Int) (bs : List (List Int)) {i : Nat} : ∀ k, i < k → (nrK v bs k).2 ≤ dst v (bs[i]?.getD []) := by
  intro k
  induction k with
  | zero => intro h; omega
  | succ k ih =>
    intro h
    by_cases hd : dst v (bs[k]?.getD []) < (nrK v bs k).2
    · rw [nrK_yes hd]
      by_cases e : i = k
      · subst e; exact Int.le_refl _
      · have := ih (by omega); simp only []; omega
    · rw [nrK_no hd]
      by_cases e : i = k
      · subst e; omega
      · exact ih (by omega)
/-- the cost, of the first t -/
def costK (vs bs : List (List Int)) : Nat → Int
  | 0 => 0
  | t + 1 => costK vs bs t + (nr (vs[t]?.getD []) bs).2
def costL (vs bs : List (List Int)) : Int := costK vs bs vs.length
theorem costK_lsum (vs bs : List (List Int)) : ∀ t, t ≤ vs.length → costK vs bs t = lsum (fun x => (nr x bs).2) (vs.take t) := by
  intro t
  induction t with
  | zero => intro _; rfl
  | succ t ih =>
    intro ht
    rw [List.take_succ_eq_append_getElem (by omega), lsum_append, ← ih (by omega)]
    simp only [costK, lsum, List.getElem?_eq_getElem (show t < vs.length by omega), Option.getD_some]
    omega
theorem costL_lsum (vs bs : List (List Int)) : costL vs bs = lsum (fun x => (nr x bs).2) vs := by
  have := costK_lsum vs bs vs.length (Nat.le_refl _)
  rwa [List.take_length] at this
/-- what fits -/
structure Fit (vs bs : List (List Int)) : Prop where
  v : vecOk vs = true
  b : bookOk bs = true
  e : vs = [] ∨ len0 vs = len0 bs
theorem fit_of {vs bs : List (List Int)} (h : fitR vs bs = 0) : Fit vs bs := by
  obtain ⟨_, h2, h3, h4⟩ := fitR_ok.1 h
  exact ⟨h2, h3, h4⟩
theorem dst_bd {v c : List Int} (hv : allR (-1048576) 1048576 v = true) (hc : allR (-1048576) 1048576 c = true) (hl : c.length ≤ 64) : dst v c ≤ 281474976710656 := by
  have := dsK_bd hv hc c.length
  unfold dst
  omega
theorem Fit.near {vs bs : List (List Int)} (h : Fit vs bs) {x : List Int} (hx : x ∈ vs) : ∃ a : Nat, a < bs.length ∧ (nr x bs).1 = a ∧ (nr x bs).2 = dst x (bs[a]?.getD []) := by
  have hb := bookOk_iff.1 h.b
  refine nr_at (fun c hc => ?_) (by omega)
  have h1 := vecOk_mem hb.2.2 hc
  have h2 := vecOk_mem h.v hx
  have := dst_bd h2.2.2.2 h1.2.2.2 h1.2.2.1
  omega
theorem ownL_mem {vs bs : List (List Int)} {i : Nat} {x : List Int} (h : x ∈ ownL vs bs i) : x ∈ vs := (List.mem_filter.1 h).1
theorem mem_len0 {vs : List (List Int)} (h : vs ≠ []) : ∃ x ∈ vs, len0 vs = x.length := by
  cases vs with
  | nil => exact absurd rfl h
  | cons x l => exact ⟨x, List.mem_cons_self .., rfl⟩
theorem Fit.own_len {vs bs : List (List Int)} (h : Fit vs bs) {i : Nat} (h0 : ownL vs bs i ≠ []) : len0 (ownL vs bs i) = len0 bs := by
  obtain ⟨x, hx, e⟩ := mem_len0 h0
  have hx' := ownL_mem hx
  rw [e, (vecOk_mem h.v hx').1]
  rcases h.e with h1 | h1
  · subst h1; cases hx'
  · exact h1
theorem rnd_in {S n b : Int} (hn : 1 ≤ n) (_ : 0 ≤ b) (h1 : -(n * b) ≤ S) (h2 : S ≤ n * b) : -b ≤ rnd S n ∧ rnd S n ≤ b := by
  have he := rnd_err S n hn
  generalize rnd S n = r at *
  constructor
  · apply Decidable.byContradiction
    intro h
    have := Int.mul_le_mul_of_nonneg_left (show r ≤ -b - 1 by omega) (show 0 ≤ n by omega)
    simp only [Int.mul_sub, Int.mul_neg, Int.mul_one] at *
    omega
  · apply Decidable.byContradiction
    intro h
    have := Int.mul_le_mul_of_nonneg_left (show b + 1 ≤ r by omega) (show 0 ≤ n by omega)
    simp only [Int.mul_add, Int.mul_sub, Int.mul_one] at *
    omega
theorem meanL_ok {vs : List (List Int)} (h0 : vs ≠ []) (h : ∀ x ∈ vs, allR (-1048576) 1048576 x = true) : allR (-1048576) 1048576 (meanL vs) = true := by
  have hn : 0 < vs.length := List.length_pos_iff.2 h0
  apply allR_of
  intro y hy
  simp only [meanL, sumV, List.map_map, List.mem_map, List.mem_range] at hy
  obtain ⟨c, _, rfl⟩ := hy
  simp only [Function.comp_apply]
  have hb := colS_bd h c vs.length
  exact rnd_in (by omega) (by omega) (by omega) (by omega)
theorem impL_get {vs bs : List (List Int)} {i : Nat} (hi : i < bs.length) : (impL vs bs)[i]?.getD [] = impAt vs bs i := by
  rw [List.getElem?_eq_getElem (by rw [impL_length]; exact hi)]
  simp [impL]
theorem Fit.at_ok {vs bs : List (List Int)} (h : Fit vs bs) {i : Nat} (hi : i < bs.length) : okV (len0 bs) (impAt vs bs i) = true := by
  have hb := bookOk_iff.1 h.b
  unfold impAt
  split
  · rw [List.getElem?_eq_getElem hi]
    exact List.all_eq_true.1 hb.2.2 _ (List.getElem_mem hi)
  · rename_i h0
    have hm := List.all_eq_true.1 hb.2.2 _ (List.getElem_mem hi)
    have hk := okV_iff.1 hm
    rw [okV_iff, meanL_length, h.own_len h0]
    exact ⟨rfl, by omega, by omega, meanL_ok h0 fun x hx => (vecOk_mem h.v (ownL_mem hx)).2.2.2⟩
theorem Fit.len0_imp {vs bs : List (List Int)} (h : Fit vs bs) : len0 (impL vs bs) = len0 bs := by
  have hb := bookOk_iff.1 h.b
  have h1 := okV_iff.1 (h.at_ok (i := 0) (by omega))
  have h2 : (impL vs bs).headD [] = impAt vs bs 0 := by
    rw [List.headD_eq_head?_getD, List.head?_eq_getElem?, impL_get (by omega)]
  unfold len0 at *
  rw [h2]; exact h1.1
theorem Fit.improve {vs bs : List (List Int)} (h : Fit vs bs) : Fit vs (impL vs bs) := by
  have hb := bookOk_iff.1 h.b
  refine ⟨h.v, bookOk_iff.2 ⟨by rw [impL_length]; omega, by rw [impL_length]; omega, ?_⟩, ?_⟩
  · apply List.all_eq_true.2
    intro x hx
    rw [h.len0_imp]
    simp only [impL, List.mem_map, List.mem_range] at hx
    obtain ⟨i, hi, rfl⟩ := hx
    exact h.at_ok hi
  · rw [h.len0_imp]; exact h.e
/-- improving does not raise the cost -/
theorem Fit.falls {vs bs : List (List Int)} (h : Fit vs bs) : costL vs (impL vs bs) ≤ costL vs bs := by
  have hb := bookOk_iff.1 h.b
  rw [costL_lsum, costL_lsum]
  have h1 : lsum (fun x => (nr x (impL vs bs)).2) vs ≤ lsum (fun x => dst x (impAt vs bs (nr x bs).1.toNat)) vs := lsum_le fun x hx => by
    obtain ⟨a, ha, e1, _⟩ := h.near hx
    rw [e1, Int.toNat_natCast, ← impL_get ha]
    exact nrK_le _ _ _ (by rw [impL_length]; exact ha)
  have h2 : lsum (fun x => (nr x bs).2) vs = lsum (fun x => dst x (bs[(nr x bs).1.toNat]?.getD [])) vs := lsum_congr fun x hx => by
    obtain ⟨a, ha, e1, e2⟩ := h.near hx
    rw [e2, e1, Int.toNat_natCast]
  have hcls : ∀ x ∈ vs, ∃ a : Nat, a < bs.length ∧ (nr x bs).1 = a := fun x hx => by
    obtain ⟨a, ha, e1, _⟩ := h.near hx
    exact ⟨a, ha, e1⟩
  rw [h2]
  refine Int.le_trans h1 ?_
  rw [lsum_group (fun x => (nr x bs).1) (fun x i => dst x (impAt vs bs i)) bs.length vs hcls, lsum_group (fun x => (nr x bs).1) (fun x i => dst x (bs[i]?.getD [])) bs.length vs hcls]
  apply sumN_le
  intro i hi
  show lsum (fun x => dst x (impAt vs bs i)) (ownL vs bs i) ≤ lsum (fun x => dst x (bs[i]?.getD [])) (ownL vs bs i)
  by_cases h0 : ownL vs bs i = []
  · rw [h0]; exact Int.le_refl _
  · have hm := okV_iff.1 (List.all_eq_true.1 hb.2.2 _ (List.getElem_mem hi))
    have e1 : impAt vs bs i = meanL (ownL vs bs i) := if_neg h0
    have e2 : (bs[i]?.getD []).length = len0 bs := by rw [List.getElem?_eq_getElem hi]; exact hm.1
    unfold dst
    rw [e1, e2, meanL_length, h.own_len h0]
    exact mean_best h0 _ _ (by rw [h.own_len h0]; exact Nat.le_refl _)
/-- training: the codebook, and after how many rounds -/
def trn (vs : List (List Int)) : Nat → List (List Int) → List (List Int) × Nat
  | 0, b => (b, 0)
  | r + 1, b => if impL vs b = b then (b, 0) else ((trn vs r (impL vs b)).1, (trn vs r (impL vs b)).2 + 1)
theorem trn_fix {vs b : List (List Int)} (h : impL vs b = b) (r : Nat) : trn vs r b = (b, 0) := by
  cases r with
  | zero => rfl
  | succ r => exact if_pos h
theorem trn_go {vs b : List (List Int)} (h : ¬ impL vs b = b) (r : Nat) : trn vs (r + 1) b = ((trn vs r (impL vs b)).1, (trn vs r (impL vs b)).2 + 1) := if_neg h
theorem trn_le (vs : List (List Int)) : ∀ r b, (trn vs r b).2 ≤ r := by
  intro r
  induction r with
  | zero => intro b; exact Nat.le_refl _
  | succ r ih =>
    intro b
    by_cases h : impL vs b = b
    · rw [trn_fix h]; simp
    · rw [trn_go h]; have := ih (impL vs b); simp only []; omega
theorem trn_fit {vs : List (List Int)} : ∀ r b, Fit vs b → Fit vs (trn vs r b).1 := by
  intro r
  induction r with
  | zero => intro b h; exact h
  | succ r ih =>
    intro b h
    by_cases h' : impL vs b = b
    · rw [trn_fix h']; exact h
    · rw [trn_go h']; exact ih _ h.improve
theorem trn_cost {vs : List (List Int)} : ∀ r b, Fit vs b → costL vs (trn vs r b).1 ≤ costL vs b := by
  intro r
  induction r with
  | zero => intro b _; exact Int.le_refl _
  | succ r ih =>
    intro b h
    by_cases h' : impL vs b = b
    · rw [trn_fix h']; exact Int.le_refl _
    · rw [trn_go h']; exact Int.le_trans (ih _ h.improve) h.falls
theorem trn_more {vs : List (List Int)} : ∀ r b, Fit vs b → costL vs (trn vs (r + 1) b).1 ≤ costL vs (trn vs r b).1 ∧ (trn vs r b).2 ≤ (trn vs (r + 1) b).2 := by
  intro r
  induction r with
  | zero => intro b h; exact ⟨trn_cost 1 b h, Nat.zero_le _⟩
  | succ r ih =>
    intro b h
    by_cases h' : impL vs b = b
    · rw [trn_fix h', trn_fix h']; exact ⟨Int.le_refl _, Nat.le_refl _⟩
    · rw [trn_go h', trn_go h']
      have := ih _ h.improve
      exact ⟨this.1, by simp only []; omega⟩
theorem trn_first {vs : List (List Int)} {r : Nat} (hr : 0 < r) {b : List (List Int)} (h : Fit vs b) : costL vs (trn vs r b).1 ≤ costL vs (impL vs b) := by
  obtain ⟨r, rfl⟩ : ∃ q, r = q + 1 := ⟨r - 1, by omega⟩
  by_cases h' : impL vs b = b
  · rw [trn_fix h', h']; exact Int.le_refl _
  · rw [trn_go h']; exact trn_cost r _ h.improve
theorem trn_done {vs : List (List Int)} : ∀ r b, (trn vs r b).2 < r → impL vs (trn vs r b).1 = (trn vs r b).1 ∧ trn vs (r + 1) b = trn vs r b := by
  intro r
  induction r with
  | zero => intro b h; omega
  | succ r ih =>
    intro b h
    by_cases h' : impL vs b = b
    · rw [trn_fix h', trn_fix h']; exact ⟨h', rfl⟩
    · rw [trn_go h' r] at h ⊢
      have := ih (impL vs b) (by simp only [] at h; omega)
      refine ⟨this.1, ?_⟩
      rw [trn_go h', this.2]
end Ear
/- small facts on rows that the call owns -/
namespace Go.Proofs.YtnflpnbpigcfhabDoor
open Go.RowKit Ear

theorem lies_new (w : World) (u : Value) (t : TypeId) : Lies (w.alloc (.cells #[u] t)) (some ⟨w.heap.size, 0, none⟩) [u] := fun _ =>
  ⟨w.heap.size, 0, rfl, by simp, fun k v hv => by rw [Nat.zero_add, cell_of_row _ _ k _ _ _ (heap_alloc_new w _)]; simpa using hv⟩
theorem lcs_one (L : List Inn) : ∀ u ∈ lcs L, u.oneCell' = true := by
  intro u hu
  obtain ⟨x, _, rfl⟩ := List.mem_map.1 hu
  rfl
/-- a row of integers: its k-th cell, ready for a store -/
theorem own_cell {w : World} {base g n c k : Nat} {f : Nat → Int} (ho : w.ownsRow base 3 1 (.slice (some ⟨g, 0, none⟩) n c) n (ics (fillTo f n k))) (hk : k < n) : w.cell? ⟨g, k, none⟩ = some (.int .i64 0) ∧ w.frozen? ⟨g, k, none⟩ = false :=
  ⟨by rw [ho.cellAt k (by omega)]; simp only [List.getElem?_map, fillTo_get _ n k hk]; rfl, ho.frozenAt k⟩
theorem own_put {w : World} {base g n c k : Nat} {f : Nat → Int} (ho : w.ownsRow base 3 1 (.slice (some ⟨g, 0, none⟩) n c) n (ics (fillTo f n k))) : (w.setCell ⟨g, k, none⟩ (.int .i64 (f k))).ownsRow base 3 1 (.slice (some ⟨g, 0, none⟩) n c) n (ics (fillTo f n (k + 1))) := by
  have h := (ho.stored k (.int .i64 (f k))).1
  rw [← List.map_set, fillTo_set f n k (f k) rfl] at h
  exact h
theorem LLo.ll {w : World} {base c : Nat} {A : Option Addr} {L : List Inn} (h : LLo w base A c L) : LL w A L := ⟨h.lies, fun x hx => (h.inn x hx).1⟩
end Go.Proofs.YtnflpnbpigcfhabDoor
/- improved, Improve -/
namespace Go.Proofs.YtnflpnbpigcfhabDoor
open Go.RowKit Ear

/-- the lists of the first t that are nearest to a codeword -/
def ownI (L : List Inn) (bs : List (List Int)) (t j : Nat) : List Inn := (L.take t).filter fun x => (nr x.2.2 bs).1 == (j : Int)
theorem ownI_hit {L : List Inn} {bs : List (List Int)} {t a : Nat} (ht : t < L.length) (h : (nr L[t].2.2 bs).1 = (a : Int)) : ownI L bs (t + 1) a = ownI L bs t a ++ [L[t]] := by
  unfold ownI
  rw [List.take_succ_eq_append_getElem ht, List.filter_append]
  simp [h]
theorem ownI_miss {L : List Inn} {bs : List (List Int)} {t j : Nat} (ht : t < L.length) (h : (nr L[t].2.2 bs).1 ≠ (j : Int)) : ownI L bs (t + 1) j = ownI L bs t j := by
  unfold ownI
  rw [List.take_succ_eq_append_getElem ht, List.filter_append]
  simp [h]
theorem ownI_len (L : List Inn) (bs : List (List Int)) (t j : Nat) : (ownI L bs t j).length ≤ t := by
  unfold ownI
  exact Nat.le_trans (List.length_filter_le _ _) (List.length_take_le _ _)
theorem ownI_mem {L : List Inn} {bs : List (List Int)} {t j : Nat} {x : Inn} (h : x ∈ ownI L bs t j) : x ∈ L := List.mem_of_mem_take (List.mem_filter.1 h).1
theorem ownI_all (L : List Inn) (bs : List (List Int)) (j : Nat) : vsOf (ownI L bs L.length j) = ownL (vsOf L) bs j := by
  unfold ownI ownL
  rw [List.take_length, List.filter_map]
  rfl
theorem bin_len {F : List Bin} {n : Nat} {f : Nat → List Inn} (h : F.map (fun x => x.2.2) = (List.range n).map f) : F.length = n := by
  have := congrArg List.length h
  simpa using this
theorem bin_at {F : List Bin} {n : Nat} {f : Nat → List Inn} (h : F.map (fun x => x.2.2) = (List.range n).map f) {j : Nat} (hj : j < n) : ∃ x, F[j]? = some x ∧ x.2.2 = f j := by
  have hl := bin_len h
  refine ⟨F[j]'(by omega), List.getElem?_eq_getElem _, ?_⟩
  have h1 : (F.map (fun x => x.2.2))[j]? = ((List.range n).map f)[j]? := by rw [h]
  rw [List.getElem?_eq_getElem (by simp; omega), List.getElem?_eq_getElem (by simp; omega)] at h1
  simpa using h1
theorem bin_step {F : List Bin} {L : List Inn} {bs : List (List Int)} {n t a c' : Nat} {A' : Option Addr} (h : F.map (fun x => x.2.2) = (List.range n).map (ownI L bs t)) (ht : t < L.length) (hn : (nr L[t].2.2 bs).1 = (a : Int)) :
    (F.set a (A', c', ownI L bs t a ++ [L[t]])).map (fun x => x.2.2) = (List.range n).map (ownI L bs (t + 1)) := by
  rw [List.map_set, h]
  apply List.ext_getElem (by simp)
  intro q h1 h2
  rw [List.getElem_set]
  simp only [List.getElem_map, List.getElem_range]
  by_cases e : a = q
  · subst e
    rw [if_pos rfl, ownI_hit ht hn]
  · rw [if_neg e, ownI_miss ht (by rw [hn]; omega)]
theorem Bins.slot {w : World} {base g k : Nat} {F : List Bin} {x : Bin} (h : Bins w base g F) (hk : F[k]? = some x) : w.cell? ⟨g, k, none⟩ = some (binV x) ∧ w.frozen? ⟨g, k, none⟩ = false ∧ base ≤ g ∧ g < w.heap.size := by
  have hlt := (List.getElem?_eq_some_iff.1 hk).1
  refine ⟨?_, h.row.frozenAt k, h.row.lt g rfl⟩
  rw [h.row.cellAt k (by omega), List.getElem?_map, hk]; rfl
theorem Bins.slot_grown {w w1 w2 : World} {base g k : Nat} {F : List Bin} {x : Bin} (h : Bins w base g F) (hk : F[k]? = some x) (hb : Below w.heap.size w w1) (hg : w1.grownBy w2 (binV x).ownBlock) :
    w2.cell? ⟨g, k, none⟩ = some (binV x) ∧ w2.frozen? ⟨g, k, none⟩ = false := by
  have h1 := h.below hb
  have hs := h1.slot hk
  have e : w2.heap[g]? = w1.heap[g]? := hg.block g hs.2.2.2 (fun e => by
    have hbt := BT.of_own (h1.own k x hk) (b := g) (by rw [← e])
    exact hbt.ne h1.tag tag_ne rfl)
  exact ⟨(World.cell?_of_block (a := ⟨g, k, none⟩) e).trans hs.1, (World.frozen?_of_block (a := ⟨g, k, none⟩) e).trans hs.2.1⟩
theorem fit_words {vs : List (List Int)} {M : List Inn} (h : Fit vs (vsOf M)) {x : List Int} (hx : x ∈ vs) : Wds x M := fun y hy => by
  have h1 := vecOk_mem (bookOk_iff.1 h.b).2.2 (List.mem_map_of_mem (f := fun x : Inn => x.2.2) hy)
  have h2 := vecOk_mem h.v hx
  refine ⟨?_, h1.2.1, h1.2.2.2⟩
  rcases h.e with e | e
  · subst e; cases hx
  · rw [h1.1, h2.1, e]

set_option maxRecDepth 100000 in
set_option maxHeartbeats 2000000 in
theorem improved_any (A B : Option Addr) (c d : Nat) (L M : List Inn) (w : World) (hA : LL w A L) (hB : LL w B M) (hf : Hid (Fit (vsOf L) (vsOf M))) (hn : L.length ≤ 10000) :
    Calls Tryd.prog 39 #[.slice A L.length c, .slice B M.length d] w (RetLL (impL (vsOf L) (vsOf M)) w) := by
  obtain ⟨i0, hi0, hz0, hz1, hz2⟩ := info_parts info_ints
  have TI := Lib.hid hi0; have TZ0 := Lib.hid hz0; have TZ1 := Lib.hid hz1; have TZ2 := Lib.hid hz2
  clear hi0 hz0 hz1 hz2
  have HVL : Hid ((vsOf L).length = L.length) := Lib.hid (by simp)
  have HVM : Hid ((vsOf M).length = M.length) := Lib.hid (by simp)
  have hbk := (bookOk_iff.1 hf.out.b).2.1
  have hbk0 := (bookOk_iff.1 hf.out.b).1
  rw [HVM.out] at hbk hbk0
  go_enter Tryd.func39, Tryd.ntmps39
  go_wp2_with fail
  obtain ⟨w1, hmk, ho1, hb1⟩ := make_bins w M.length (by omega) w.heap.size (Nat.le_refl _)
  rw [hmk]
  clear hmk
  obtain ⟨g, hg⟩ : ∃ g, g = w.heap.size := ⟨_, rfl⟩
  rw [← hg] at ho1 ⊢
  have hg0 : w.heap.size ≤ g := by omega
  have HF0 : Hid ((List.replicate M.length ((none, 0, []) : Bin)).map (fun x => x.2.2) = (List.range M.length).map (ownI L (vsOf M) 0)) := Lib.hid (by
    apply List.ext_getElem (by simp)
    intro q h1 h2
    simp [ownI])
  clear hg
  go_wp2_with fail
  go_loopw [7, 8, 9, 18] (fun _ _ _ i wr => ∃ t : Nat, t ≤ L.length ∧ i = .int .i64 t ∧ ∃ F : List Bin, Bins wr g g F ∧ Hid (F.map (fun x => x.2.2) = (List.range M.length).map (ownI L (vsOf M) t)) ∧ Below w.heap.size w wr) (fun _ _ _ i _ => L.length - (intOf i).toNat)
  case atStart => exact ⟨0, by omega, rfl, _, ho1, HF0, hb1⟩
  case round =>
    clear ho1 hb1
    obtain ⟨t, ht, rfl, F, r1, r2, r3⟩ := hrel
    by_cases hlt : t < L.length
    · obtain ⟨bk, off, eA, hbkk, hc⟩ := (hA.below r3).lies.lat hlt
      cases eA
      have hx := (hA.below r3).inn _ (List.getElem_mem hlt)
      have hxm : L[t].2.2 ∈ vsOf L := List.mem_map_of_mem (f := fun x : Inn => x.2.2) (List.getElem_mem hlt)
      have hwd := Lib.hid (fit_words hf.out hxm)
      have hxo := vecOk_mem hf.out.v hxm
      obtain ⟨a, ha, hna, -⟩ := hf.out.near hxm
      rw [HVM.out] at ha
      have hstep := Lib.hid (fun (A' : Option Addr) (c' : Nat) => bin_step (A' := A') (c' := c') r2.out hlt hna)
      have HL : Hid (∀ u, u = Value.slice L[t].1 L[t].2.2.length L[t].2.1 → u = Value.slice L[t].1 L[t].2.2.length L[t].2.1) := Lib.hid (fun u h => h)
      generalize hX : L[t] = X at *
      have HX0 := Lib.hid hX
      clear hX HL
      obtain ⟨XA, Xc, xl⟩ := X
      simp only at hx hxo hna hc hwd hstep
      obtain ⟨-, -, hx3, hx4⟩ := hxo
      have HX4 := Lib.hid hx4
      clear hx4 hxm
      obtain ⟨x, hFa, hxo2⟩ := bin_at r2.out ha
      have hol := ownI_len L (vsOf M) t a
      rw [← hxo2] at hol hstep
      have HO := Lib.hid hxo2
      clear hxo2
      obtain ⟨xA, xc, xs⟩ := x
      simp only at hol hstep
      have HNA := Lib.hid hna
      have HFA := Lib.hid hFa
      clear hna hFa
      go_wp2_with fail
      refine (nearest_any XA B Xc d xl M wr hx.1 (hB.below r3) HX4 hwd hx3 (by omega)).mono ?_
      rintro e w' ⟨rfl, n, rfl⟩
      rw [HNA.out]
      have hnb := nrK_bd xl (vsOf M) (vsOf M).length
      generalize hq : (nr xl (vsOf M)).2 = least at *
      have b1 := Lib.hid (r1.drewN n)
      have b2 : Hid (Below w.heap.size w (wr.drewN n)) := Lib.hid ⟨r3.os, r3.tape, r3.output, r3.size, r3.block⟩
      generalize wr.drewN n = wd at *
      clear r1 r3 hq hnb hx hwd hc hbkk
      have hsl := b1.out.slot HFA.out
      obtain ⟨q1, q2, q3, q4⟩ := hsl
      have own1 := Lib.hid (b1.out.own a _ HFA.out)
      simp only [binV] at q1
      go_wp2_with (at_builtin; refine wpList_append_srcG _ rfl (.tmp 33) (.tmp 35) _ rfl g 22 i0 _ 1 24 Tryd.underlying32 TI.out TZ0.out TZ1.out TZ2.out rfl (by omega) (.slice xA xs.length xc) xs.length (lcs xs) rfl (own1.out.alloc _) (some ⟨wd.heap.size, 0, none⟩) 1 1 [Value.slice XA xl.length Xc] rfl (fun e => by cases e) (lies_new _ _ _) (by simp) (by simp [Value.oneCell']) (by unfold maxLen; omega) (by omega) (by simp; omega) (xs.length + 1) rfl ?_; intro A' c' w2 hown2 hg2 hat2; obtain ⟨s1, s2⟩ := b1.out.slot_grown HFA.out ((Below.refl _ _).alloc (Nat.le_refl _) _) hg2)
      have hpush := b1.out.push (v := (XA, Xc, xl)) HFA.out ((Below.refl _ _).alloc (Nat.le_refl _) _) hg2 hown2 hat2
      have hbel : Below w.heap.size w w2 := (b2.out.alloc (by have := b2.out.size; omega) _).grown hg2 (by have := b2.out.size; simp; omega) (fun k hk => Nat.le_trans hg0 (own1.out.lt k hk).1)
      have hst2 := hstep.out A' c'
      exact ⟨⟨t + 1, by omega, by go_num, _, hpush, Lib.hid hst2, hbel.setCell hg0 _⟩, by simp [intOf]; omega⟩
    · obtain rfl : t = L.length := by omega
      obtain ⟨W0, rfl⟩ : ∃ x, x = wr := ⟨_, rfl⟩
      have hlM : Hid (∀ x ∈ M, x.2.2.length ≤ 1000000) := Lib.hid fun x hx => by
        have := (vecOk_mem (bookOk_iff.1 hf.out.b).2.2 (List.mem_map_of_mem (f := fun x : Inn => x.2.2) hx)).2.2.1
        omega
      have HFL : Hid (F.length = M.length) := Lib.hid (bin_len r2.out)
      go_wp2_with fail
      refine (copied_any B d M W0 (hB.below r3) (by omega) hlM).mono ?_
      rintro e V ⟨A2, c2, O0, rfl, hv0, ho0, hb0⟩
      have HOL : Hid (O0.length = M.length) := Lib.hid (by
        have := congrArg List.length hv0.out
        simpa using this)
      rw [HOL.out]
      have hrow0 := ho0.row
      rw [HOL.out] at hrow0
      obtain ⟨go, cap, hform, hgo1, hgo2⟩ := hrow0.form (by omega)
      obtain ⟨rfl, rfl⟩ : A2 = some ⟨go, 0, none⟩ ∧ c2 = cap := by injection hform with e1 _ e3; exact ⟨e1, e3⟩
      clear hform hrow0
      have HV0 : Hid (vsOf O0 = fillV (impAt (vsOf L) (vsOf M)) (fun q => (vsOf M)[q]?.getD []) M.length 0) := Lib.hid (by
        rw [fillV_zero, hv0.out, ← HVM.out, vs_range])
      clear hlM
      go_wp2_with fail
      go_loopw [11, 12, 43] (fun _ _ i wr => ∃ k : Nat, k ≤ M.length ∧ i = .int .i64 k ∧ ∃ O : List Inn, LLo wr W0.heap.size (some ⟨go, 0, none⟩) c2 O ∧ Hid (O.length = M.length) ∧ Hid (vsOf O = fillV (impAt (vsOf L) (vsOf M)) (fun q => (vsOf M)[q]?.getD []) M.length k) ∧ Below W0.heap.size W0 wr) (fun _ _ i _ => M.length - (intOf i).toNat)
      case atStart => exact ⟨0, by omega, rfl, _, ho0, HOL, HV0, hb0⟩
      case round =>
        clear ho0 hb0 hv0 HOL HV0
        obtain ⟨k, hk, rfl, O, s1, s2, s3, s4⟩ := hrel
        by_cases hlk : k < M.length
        · obtain ⟨x, hFk, hxo⟩ := bin_at r2.out hlk
          have hbn := r1.below s4
          obtain ⟨q1, q2, q3, q4⟩ := hbn.slot hFk
          have hown := hbn.own k x hFk
          have hlx : ∀ y ∈ x.2.2, y ∈ L := fun y hy => by rw [hxo] at hy; exact ownI_mem hy
          have hvx : vsOf x.2.2 = ownL (vsOf L) (vsOf M) k := by rw [hxo, ownI_all]
          have hol : x.2.2.length ≤ L.length := by rw [hxo]; exact ownI_len _ _ _ _
          have hbw : Below w.heap.size w wr := r3.trans (s4.mono r3.size)
          have s0 := s1.row
          rw [s2.out] at s0
          have gc : ∃ u, wr.cell? ⟨go, k, none⟩ = some u := ⟨_, (s0.cellAt k (by omega)).trans (List.getElem?_eq_getElem (by rw [own_len s0]; exact hlk))⟩
          obtain ⟨u, gc⟩ := gc
          have gf : wr.frozen? ⟨go, k, none⟩ = false := s0.frozenAt k
          have gl := (s0.lt go rfl).2
          have HX := Lib.hid hlx
          have HVX := Lib.hid hvx
          clear hxo hFk hlx hvx s0 hbn
          obtain ⟨xA, xc, xs⟩ := x
          simp only [binV] at q1
          by_cases hz : xs.length = 0
          · have hnil : xs = [] := List.length_eq_zero_iff.1 hz
            have hsk : Hid (fillV (impAt (vsOf L) (vsOf M)) (fun q => (vsOf M)[q]?.getD []) M.length k = fillV (impAt (vsOf L) (vsOf M)) (fun q => (vsOf M)[q]?.getD []) M.length (k + 1)) := Lib.hid (fillV_skip _ _ _ _ (by
              have e1 : ownL (vsOf L) (vsOf M) k = [] := by
                have := HVX.out
                simp only [hnil] at this
                exact this.symm
              rw [impAt, if_pos e1]))
            subst hnil
            clear hz
            go_wp2_with fail
            exact ⟨⟨k + 1, by omega, by go_num, O, s1, s2, Lib.hid (s3.out.trans hsk.out), s4⟩, by simp [intOf]; omega⟩
          · have hpos : 0 < xs.length := by omega
            have hne : Hid (impAt (vsOf L) (vsOf M) k = meanL (vsOf xs)) := Lib.hid (by
              have e1 : vsOf xs = ownL (vsOf L) (vsOf M) k := HVX.out
              have e2 : ownL (vsOf L) (vsOf M) k ≠ [] := fun e => by
                rw [e] at e1
                have := congrArg List.length e1
                simp at this
                rw [this] at hpos; simp at hpos
              rw [impAt, if_neg e2, e1])
            have hvc : Hid (Vcs (len0 (vsOf L)) (vsOf xs)) := Lib.hid fun y hy => by
              obtain ⟨z, hz1, rfl⟩ := List.mem_map.1 hy
              have := vecOk_mem hf.out.v (List.mem_map_of_mem (f := fun x : Inn => x.2.2) (HX.out z hz1))
              exact ⟨this.1, this.2.2.2⟩
            have hl0 : len0 (vsOf L) ≤ 64 := by
              have hL0 : 0 < L.length := by simp only at hol; omega
              have := vecOk_mem hf.out.v (List.mem_map_of_mem (f := fun x : Inn => x.2.2) (List.getElem_mem hL0))
              omega
            have hll : LL wr xA xs := ⟨Lies.of_own hown, fun y hy => (hA.inn y (HX.out y hy)).below hbw⟩
            have HLL := Lib.hid hll
            have HN := Lib.hid hl0
            simp only at hol
            clear hz hll hl0 hown
            go_wp2_with fail
            refine (mean_any xA xc (len0 (vsOf L)) xs wr HLL.out hvc hpos (by omega) (by have := HN.out; omega)).mono ?_
            rintro e w3 ⟨A3, c3, rfl, ho3, hb3⟩
            have hlm : (meanL (vsOf xs)).length ≤ 64 := by
              rw [meanL_length, hvc.out.len0 (by simpa using hpos)]; exact HN.out
            have hmb : ∀ y ∈ meanL (vsOf xs), -9223372036854775808 ≤ y ∧ y ≤ 9223372036854775807 := fun y hy => by
              have := allR_mem (meanL_ok (vs := vsOf xs) (fun e => by have := congrArg List.length e; simp at this; rw [this] at hpos; simp at hpos) (fun z hz => (hvc.out z hz).2)) hy
              omega
            rw [← hne.out] at ho3 hlm hmb
            rw [← hne.out]
            generalize hy : impAt (vsOf L) (vsOf M) k = y at *
            have HY := Lib.hid hy
            have gc3 : w3.cell? ⟨go, k, none⟩ = some u := (hb3.cell (p := ⟨go, k, none⟩) gl).trans gc
            have gf3 : w3.frozen? ⟨go, k, none⟩ = false := (hb3.frozen (p := ⟨go, k, none⟩) gl).trans gf
            clear hy
            go_wp2_with fail
            have hit : InT (w3.setCell ⟨go, k, none⟩ (.slice A3 y.length c3)) (A3, c3, y) := InT.of_own (n := y.length) (base := wr.heap.size) (ownsRow_setCell_other ho3 (fun e => by
              have := (ho3.lt go e).1
              omega) _) rfl (by omega) hmb
            have hput := s1.put (w' := w3.setCell ⟨go, k, none⟩ (.slice A3 y.length c3)) (k := k) (x := (A3, c3, y)) s2.out.symm (by simpa [World.setCell] using hb3.size)
              (fun b hb hne => by rw [Below.heap_setCell _ _ _ _ hne, hb3.block b hb]) (setCell_alike (p := ⟨go, k, none⟩) (hb3.block go gl) _) hit (by omega)
            refine ⟨⟨k + 1, by omega, by go_num, _, hput, Lib.hid (by rw [List.length_set, s2.out]), Lib.hid ?_, (s4.trans (hb3.mono s4.size)).setCell hgo1 _⟩, by simp [intOf]; omega⟩
            have h5 := s3.out
            rw [vsOf] at h5
            rw [vsOf, List.map_set, h5, fillV_set _ _ _ _ _ HY.out.symm]
        · obtain rfl : k = M.length := by omega
          have E : Hid (vsOf O = impL (vsOf L) (vsOf M)) := Lib.hid (by rw [s3.out, fillV_all, impL, HVM.out])
          go_wp2_with fail
          go_ret
          exact ⟨_, _, O, by rw [s2.out]; rfl, E, s1.le r3.size, r3.trans (s4.mono r3.size)⟩

/-- the error of vectors and a codebook, or the list of lists -/
def impR (vs bs : List (List Int)) : Int × List (List Int) := if fitR vs bs = 0 then (0, impL vs bs) else (fitR vs bs, [])
set_option maxHeartbeats 400000 in
theorem Improve_any (A B : Option Addr) (c d : Nat) (L M : List Inn) (w : World) (hA : LL w A L) (hB : LL w B M) (err : Int) (out : List (List Int)) (ho : Hid (impR (vsOf L) (vsOf M) = (err, out))) :
    Calls Tryd.prog 19 #[.slice A L.length c, .slice B M.length d] w (LLErr err out w) := by
  have ho' := ho.out
  unfold impR at ho'
  clear ho
  by_cases h0 : fitR (vsOf L) (vsOf M) = 0
  · rw [if_pos h0] at ho'
    injection ho' with e1 e2
    subst e1
    have E2 := Lib.hid e2
    have hn : L.length ≤ 10000 := by have := (fitR_ok.1 h0).1; simpa using this
    have hf := Lib.hid (fit_of h0)
    have H0 := Lib.hid h0
    clear h0 e2
    go_enter Tryd.func19, Tryd.ntmps19
    go_wp2_with fail
    refine (fits_any A B c d L M w hA hB 0 H0).mono ?_
    rintro e w1 ⟨rfl, hb1⟩
    have LA := Lib.hid (hA.below hb1)
    have LB := Lib.hid (hB.below hb1)
    go_wp2_with fail
    refine (improved_any A B c d L M w1 LA.out LB.out hf hn).mono ?_
    rintro e w2 ⟨A2, c2, O, rfl, hv, hl, hb2⟩
    rw [E2.out] at hv
    go_wp2_with fail
    go_ret2
    exact ⟨A2, c2, O, rfl, hv, hl.le hb1.size, hb1.trans (hb2.mono hb1.size)⟩
  · rw [if_neg h0] at ho'
    injection ho' with e1 e2
    subst e2
    have hne : (err != 0) = true := by rw [← e1]; simpa using h0
    have H0 := Lib.hid e1
    clear h0 e1
    go_enter Tryd.func19, Tryd.ntmps19
    go_wp2_with fail
    refine (fits_any A B c d L M w hA hB err H0).mono ?_
    rintro e w1 ⟨rfl, hb1⟩
    go_wp2_with fail
    go_ret2
    exact ⟨none, 0, [], rfl, Lib.hid rfl, LLo.nil _ _, hb1⟩
end Go.Proofs.YtnflpnbpigcfhabDoor
/- differences, Differences -/
namespace Go.Proofs.YtnflpnbpigcfhabDoor
open Go.RowKit Ear

theorem own_nil {w : World} {base : Nat} {e : TypeId} {size n c : Nat} {A : Option Addr} {xs : List Value} (h : w.ownsRow base e size (.slice A n c) n xs) : A = none → c = 0 := by
  rintro rfl
  rcases h.2 with ⟨e1, _⟩ | ⟨g, cap, cur, e1, _⟩
  · injection e1
  · injection e1 with e1; cases e1
theorem cmb_big {a b : List Int} (ha : allR (-1048576) 1048576 a = true) (hb : allR (-1048576) 1048576 b = true) : allR (-2097152) 2097152 (cmb (· - ·) a b) = true := by
  apply allR_of
  intro x hx
  simp only [cmb, List.mem_map, List.mem_range] at hx
  obtain ⟨q, _, rfl⟩ := hx
  have h1 := getD_bd ha (by omega) (by omega) q
  have h2 := getD_bd hb (by omega) (by omega) q
  omega
theorem allR_append {lo hi : Int} {a b : List Int} (ha : allR lo hi a = true) (hb : allR lo hi b = true) : allR lo hi (a ++ b) = true := by
  simp only [allR, List.all_append, Bool.and_eq_true] at *
  exact ⟨ha, hb⟩
theorem vs_get {L : List Inn} {k : Nat} (hk : k < L.length) : L[k].2.2 ∈ vsOf L := List.mem_map_of_mem (f := fun x : Inn => x.2.2) (List.getElem_mem hk)

set_option maxRecDepth 100000 in
set_option maxHeartbeats 2000000 in
theorem differences_any (A : Option Addr) (c : Nat) (L : List Inn) (w : World) (hA : LL w A L) (hv : Hid (vecR (vsOf L) = 0)) :
    Calls Tryd.prog 41 #[.slice A L.length c] w (RetLL (difL (vsOf L)) w) := by
  obtain ⟨i0, hi0, hz0, hz1, hz2⟩ := info_parts info_ints
  have TI := Lib.hid hi0; have TZ0 := Lib.hid hz0; have TZ1 := Lib.hid hz1; have TZ2 := Lib.hid hz2
  clear hi0 hz0 hz1 hz2
  obtain ⟨j0, hj0, ky0, ky1, ky2⟩ := info_parts int_info
  have KI := Lib.hid hj0; have KZ0 := Lib.hid ky0; have KZ1 := Lib.hid ky1; have KZ2 := Lib.hid ky2
  clear hj0 ky0 ky1 ky2
  have HVL : Hid ((vsOf L).length = L.length) := Lib.hid (by simp)
  have hok := (vecR_ok.1 hv.out).1
  have HV := Lib.hid (vecR_ok.1 hv.out).2
  rw [HVL.out] at hok
  go_enter Tryd.func41, Tryd.ntmps41
  go_wp2_with fail
  go_loopw [3, 4, 5, 6, 9] (fun t3 _ _ _ i wr => ∃ t : Nat, t ≤ L.length ∧ i = .int .i64 t ∧ ∃ A' c' O, t3 = .slice A' t c' ∧ LLo wr w.heap.size A' c' O ∧ Hid (O.length = t) ∧ Hid (vsOf O = (List.range t).map (difAt (vsOf L))) ∧ Below w.heap.size w wr) (fun _ _ _ _ i _ => L.length - (intOf i).toNat)
  case atStart => exact ⟨0, by omega, rfl, none, 0, [], rfl, LLo.nil _ _, Lib.hid rfl, Lib.hid rfl, Below.refl _ _⟩
  case round =>
    obtain ⟨t, ht, rfl, A', c', O, rfl, r1, r2, r3, r4⟩ := hrel
    by_cases hlt : t < L.length
    · obtain ⟨m1, hm1⟩ : ∃ m1 : Nat, m1 = min (t + 1) (L.length - 1) := ⟨_, rfl⟩
      obtain ⟨m0, hm0⟩ : ∃ m0 : Nat, m0 = t - 1 := ⟨_, rfl⟩
      have l1 : m1 < L.length := by omega
      have l0 : m0 < L.length := by omega
      have e1 : min ((t : Int) + 1) ((L.length : Int) - 1) = (m1 : Int) := by omega
      have e0 : max ((t : Int) - 1) 0 = (m0 : Int) := by omega
      have hD : Hid (difAt (vsOf L) t = L[t].2.2 ++ cmb (· - ·) L[m1].2.2 L[m0].2.2) := Lib.hid (by
        unfold difAt
        rw [HVL.out, ← hm1, ← hm0, vsOf_get hlt, vsOf_get l1, vsOf_get l0])
      have g0 := vecOk_mem HV.out (vs_get l0)
      have g1 := vecOk_mem HV.out (vs_get l1)
      have g2 := vecOk_mem HV.out (vs_get hlt)
      clear hm1 hm0
      obtain ⟨bk, off, rfl, hbk, hc⟩ := (hA.below r4).lies.lat hlt
      obtain ⟨b1, o1, eA, hb1, hc1⟩ := (hA.below r4).lies.lat l1
      cases eA
      obtain ⟨b2, o2, eA, hb2, hc2⟩ := (hA.below r4).lies.lat l0
      cases eA
      have hx := (hA.below r4).inn _ (List.getElem_mem hlt)
      have hx1 := (hA.below r4).inn _ (List.getElem_mem l1)
      have hx0 := (hA.below r4).inn _ (List.getElem_mem l0)
      generalize L[t] = X at *
      generalize L[m1] = X1 at *
      generalize L[m0] = X0 at *
      obtain ⟨XA, Xc, xl⟩ := X
      obtain ⟨YA, Yc, yl⟩ := X1
      obtain ⟨ZA, Zc, zl⟩ := X0
      simp only at *
      have p1 : IntKind.i64.wrap ((t : Int) + 1) = (t : Int) + 1 := IntWalk.i64_in _ (by omega)
      have p2 : IntKind.i64.wrap ((L.length : Int) - 1) = (L.length : Int) - 1 := IntWalk.i64_in _ (by omega)
      have p3 : IntKind.i64.wrap ((t : Int) - 1) = (t : Int) - 1 := IntWalk.i64_in _ (by omega)
      have EL1 : Hid (yl.length = xl.length) := Lib.hid (by rw [g1.1, g2.1])
      have EL0 : Hid (yl.length ≤ zl.length) := Lib.hid (by rw [g1.1, g0.1]; exact Nat.le_refl _)
      have hx64 := g2.2.2.1
      have G0 := Lib.hid g0.2.2.2
      have G1 := Lib.hid g1.2.2.2
      have G2 := Lib.hid g2.2.2.2
      have HX := Lib.hid hx
      have HX1 := Lib.hid hx1
      have HX0 := Lib.hid hx0
      clear g0 g1 g2 hx hx1 hx0
      go_wp2_with fail
      go_still_tail 15, (by kernel_rfl)
      repeat still_step
      clear e1 e0 p1 p2 p3
      go_wp2_with fail
      have b0 : Below w.heap.size w wr.drew := ⟨r4.os, r4.tape, r4.output, r4.size, r4.block⟩
      have o0 := r1.drew
      have hx1 : InOk wr.drew (YA, Yc, yl) := HX1.out
      have hx0 : InOk wr.drew (ZA, Zc, zl) := HX0.out
      have hx : InOk wr.drew (XA, Xc, xl) := HX.out
      clear HX HX1 HX0 r1 r4 hc hc1 hc2
      generalize wr.drew = wd at *
      have HX := Lib.hid hx
      have B0 := Lib.hid b0
      have O0 := Lib.hid o0
      clear hx b0 o0
      refine (combined_any _ _ differences1_op YA ZA Yc Zc yl zl wd hx1.1 hx0.1 EL0.out (by rw [EL1.out]; omega) (Lib.hid (allR_wide G1.out (by omega) (by omega))) (Lib.hid (allR_wide G0.out (by omega) (by omega)))).mono ?_
      rintro e w1 ⟨A1, c1, rfl, ho1, hb1⟩
      rw [cmb_length, EL1.out] at ho1
      rw [cmb_length, EL1.out]
      have HX1 := Lib.hid (HX.out.below hb1)
      have HC := Lib.hid (cmb_big G1.out G0.out)
      have HO1 := Lib.hid ho1
      have HB1 := Lib.hid hb1
      have hcl : (cmb (· - ·) yl zl).length = xl.length := by rw [cmb_length, EL1.out]
      have HCL := Lib.hid hcl
      clear hb1 ho1 hx1 hx0 hcl
      go_wp2_with fail
      refine (CloneI_any XA Xc xl w1 HX1.out.1 HX1.out.2.1 (by omega)).mono ?_
      rintro e w2 ⟨A2, c2, rfl, ho2, hb2⟩
      have HO2 := Lib.hid ho2
      have HO1' := Lib.hid (own_below HO1.out hb2)
      have HB2 := Lib.hid (HB1.out.trans (hb2.mono HB1.out.size))
      have hs2 : w1.heap.size ≤ w2.heap.size := hb2.size
      have hs1 : wd.heap.size ≤ w1.heap.size := HB1.out.size
      clear ho2 hb2
      have hs0 : w.heap.size ≤ wd.heap.size := B0.out.size
      have OW2 := Lib.hid (O0.out.below HB2.out)
      go_wp2_with (first
        | (at_builtin; refine wpList_append_srcG _ rfl (.tmp 32) (.tmp 33) _ rfl w1.heap.size 3 j0 _ 1 8 Tryd.underlying22 KI.out KZ0.out KZ1.out KZ2.out rfl (by omega) (.slice A2 xl.length c2) xl.length (ics xl) rfl HO2.out A1 xl.length c1 (ics (cmb (· - ·) yl zl)) rfl (own_nil HO1'.out) (Lies.of_own HO1'.out) (by simp [HCL.out]) (ics_one _) (by unfold maxLen; omega) (by omega) hs2 (xl.length + xl.length) rfl ?_; intro A3 c3 w3 ho3 hg3 _; have HO3 := Lib.hid ho3; have HB3 := Lib.hid (HB2.out.grown hg3 (Nat.le_trans hs1 hs2) (fun k hk => Nat.le_trans hs1 (HO2.out.lt k hk).1)); have OW3 := Lib.hid (O0.out.below HB3.out); have hs3 := hg3.size; clear ho3 hg3)
        | (at_builtin; refine wpList_append_srcG _ rfl (.tmp 30) (.tmp 35) _ rfl w.heap.size 22 i0 _ 1 24 Tryd.underlying32 TI.out TZ0.out TZ1.out TZ2.out rfl (by omega) (.slice A' t c') t (lcs O) rfl (by have := OW3.out.row.alloc (.cells #[Value.slice A3 (xl.length + xl.length) c3] 22); rw [r2.out] at this; exact this) (some ⟨w3.heap.size, 0, none⟩) 1 1 [Value.slice A3 (xl.length + xl.length) c3] rfl (fun e => by cases e) (lies_new _ _ _) (by simp) (by simp [Value.oneCell']) (by unfold maxLen; omega) (by omega) (by simp; omega) (t + 1) rfl ?_; intro A4 c4 w4 ho4 hg4 _))
      have hlen : (difAt (vsOf L) t).length = xl.length + xl.length := by rw [hD.out, List.length_append, HCL.out]
      have hit : InT (w3.alloc (.cells #[Value.slice A3 (xl.length + xl.length) c3] 22)) (A3, c3, difAt (vsOf L) t) := by
        refine InT.of_own (n := xl.length + xl.length) (base := w1.heap.size) ?_ hlen.symm (by omega) ?_
        · rw [hD.out, ics_append]; exact HO3.out.alloc _
        · intro y hy
          rw [hD.out] at hy
          rcases List.mem_append.1 hy with hy | hy
          · have := allR_mem G2.out hy; omega
          · have := allR_mem HC.out hy; omega
      have hll : LLo (w3.alloc (.cells #[Value.slice A3 (xl.length + xl.length) c3] 22)) w.heap.size A' c' O := OW3.out.below ((Below.refl _ _).alloc (Nat.le_refl _) _)
      have hsn := hll.snoc (n := t) (x := (A3, c3, difAt (vsOf L) t)) (w' := w4) (A' := A4) (c' := c4) (base' := w.heap.size) hit hg4 (by
        simp only [hlen]
        rw [r2.out]
        exact ho4)
      have hbel : Below w.heap.size w w4 := ((B0.out.trans (HB3.out.mono hs0)).alloc (by omega) _).grown hg4 (by simp; omega) (fun k hk => (OW3.out.row.lt k (by rw [← hk]; cases A' <;> rfl)).1)
      exact ⟨⟨t + 1, by omega, by go_num, A4, c4, _, rfl, hsn, Lib.hid (by rw [List.length_append, r2.out]; rfl), Lib.hid (by
        have h5 := r3.out
        rw [vsOf] at h5
        rw [vsOf, List.map_append, h5, List.range_succ, List.map_append]; rfl), hbel⟩, by simp [intOf]; omega⟩
    · obtain rfl : t = L.length := by omega
      have E : Hid (vsOf O = difL (vsOf L)) := Lib.hid (by rw [r3.out, difL, HVL.out])
      go_wp2_with fail
      go_ret
      exact ⟨_, _, O, by rw [r2.out]; rfl, E, r1, r4⟩
end Go.Proofs.YtnflpnbpigcfhabDoor
/- Differences; the examples of the chapter -/
namespace Go.Proofs.YtnflpnbpigcfhabDoor
open Go.RowKit Ear

/-- what Differences answers -/
def difR (vs : List (List Int)) : Int × List (List Int) := if vecR vs = 0 then (if vecR (difL vs) = 0 then (0, difL vs) else (2, [])) else (vecR vs, [])
set_option maxHeartbeats 1000000 in
theorem Differences_any (A : Option Addr) (c : Nat) (L : List Inn) (w : World) (hA : LL w A L) (hn : L.length ≤ 9223372036854775807) (err : Int) (out : List (List Int)) (ho : Hid (difR (vsOf L) = (err, out))) :
    Calls Tryd.prog 20 #[.slice A L.length c] w (LLErr err out w) := by
  have ho' := ho.out
  unfold difR at ho'
  clear ho
  by_cases h0 : vecR (vsOf L) = 0
  · rw [if_pos h0] at ho'
    have H0 := Lib.hid h0
    have hok := (vecR_ok.1 h0).1
    have HVL : Hid ((vsOf L).length = L.length) := Lib.hid (by simp)
    rw [HVL.out] at hok
    by_cases h1 : vecR (difL (vsOf L)) = 0
    · rw [if_pos h1] at ho'
      injection ho' with e1 e2
      subst e1
      have E2 := Lib.hid e2
      have H1 := Lib.hid h1
      clear h0 h1 e2
      go_enter Tryd.func20, Tryd.ntmps20
      go_wp2_with fail
      refine (vectors_any A c L w hA.lies hA.inn hn 0 H0).mono ?_
      rintro e w1 ⟨rfl, hb1⟩
      have LA := Lib.hid (hA.below hb1)
      go_wp2_with fail
      refine (differences_any A c L w1 LA.out H0).mono ?_
      rintro e w2 ⟨A2, c2, O, rfl, hv, hl, hb2⟩
      have HL := Lib.hid hl
      have hol : O.length ≤ 10000 := by
        have := congrArg List.length hv.out
        rw [difL_length, HVL.out] at this
        simp at this
        omega
      have HV : Hid (vecR (vsOf O) = 0) := Lib.hid (by rw [hv.out]; exact H1.out)
      clear hl
      go_wp2_with fail
      refine (vectors_any A2 c2 O w2 HL.out.lies HL.out.ll.inn (by omega) 0 HV).mono ?_
      rintro e w3 ⟨rfl, hb3⟩
      go_wp2_with fail
      go_ret2
      exact ⟨A2, c2, O, rfl, by rw [← E2.out]; exact hv, (HL.out.below hb3).le hb1.size, hb1.trans ((hb2.trans (hb3.mono hb2.size)).mono hb1.size)⟩
    · rw [if_neg h1] at ho'
      injection ho' with e1 e2
      subst e1 e2
      have h2 : vecR (difL (vsOf L)) = 2 := by
        unfold vecR at h1 ⊢
        rw [difL_length, HVL.out, if_neg (by omega)] at h1 ⊢
        split at h1
        · exact absurd rfl h1
        · rename_i h3; rw [if_neg h3]
      have H1 := Lib.hid h2
      clear h0 h1 h2
      go_enter Tryd.func20, Tryd.ntmps20
      go_wp2_with fail
      refine (vectors_any A c L w hA.lies hA.inn hn 0 H0).mono ?_
      rintro e w1 ⟨rfl, hb1⟩
      have LA := Lib.hid (hA.below hb1)
      go_wp2_with fail
      refine (differences_any A c L w1 LA.out H0).mono ?_
      rintro e w2 ⟨A2, c2, O, rfl, hv, hl, hb2⟩
      have HL := Lib.hid hl
      have hol : O.length ≤ 10000 := by
        have := congrArg List.length hv.out
        rw [difL_length, HVL.out] at this
        simp at this
        omega
      have HV : Hid (vecR (vsOf O) = 2) := Lib.hid (by rw [hv.out]; exact H1.out)
      clear hl
      go_wp2_with fail
      refine (vectors_any A2 c2 O w2 HL.out.lies HL.out.ll.inn (by omega) 2 HV).mono ?_
      rintro e w3 ⟨rfl, hb3⟩
      go_wp2_with fail
      go_ret2
      exact ⟨none, 0, [], rfl, Lib.hid rfl, LLo.nil _ _, hb1.trans ((hb2.trans (hb3.mono hb2.size)).mono hb1.size)⟩
  · rw [if_neg h0] at ho'
    injection ho' with e1 e2
    subst e2
    have hne : (err != 0) = true := by rw [← e1]; simpa using h0
    have H0 := Lib.hid e1
    clear h0 e1
    go_enter Tryd.func20, Tryd.ntmps20
    go_wp2_with fail
    refine (vectors_any A c L w hA.lies hA.inn hn err H0).mono ?_
    rintro e w1 ⟨rfl, hb1⟩
    go_wp2_with fail
    go_ret2
    exact ⟨none, 0, [], rfl, Lib.hid rfl, LLo.nil _ _, hb1⟩
end Go.Proofs.YtnflpnbpigcfhabDoor
/- the examples of the chapter hold -/
namespace Go.Proofs.YtnflpnbpigcfhabDoor
open Go.RowKit Ear

theorem Led.make {w0 w : World} {F : List (Option Addr × List Value)} (h : Led w0 w F) (cs : Array Value) (t : TypeId) (k : Nat) (hk : w.heap.size = k) : Led w0 (w.alloc (.cells cs t)) (F ++ [(some ⟨k, 0, none⟩, cs.toList)]) :=
  (h.alloc _).row (by subst hk; exact heap_alloc_new w _)
theorem InOk.lit {w : World} {a : Nat} {l : List Int} (h : Lies w (some ⟨a, 0, none⟩) (ics l)) (hl : l.length ≤ 1000000) (hb : ∀ y ∈ l, -9223372036854775808 ≤ y ∧ y ≤ 9223372036854775807) : InOk w (some ⟨a, 0, none⟩, l.length, l) :=
  ⟨h, (fun e => by cases e), Nat.le_trans hl (by decide), Nat.le_refl _, hb⟩
theorem LL.lit2 {w : World} {g a b : Nat} {l1 l2 : List Int} (h : Lies w (some ⟨g, 0, none⟩) [.slice (some ⟨a, 0, none⟩) l1.length l1.length, .slice (some ⟨b, 0, none⟩) l2.length l2.length]) (h1 : InOk w (some ⟨a, 0, none⟩, l1.length, l1)) (h2 : InOk w (some ⟨b, 0, none⟩, l2.length, l2)) :
    LL w (some ⟨g, 0, none⟩) [(some ⟨a, 0, none⟩, l1.length, l1), (some ⟨b, 0, none⟩, l2.length, l2)] :=
  ⟨h, fun x hx => by
    rcases List.mem_cons.1 hx with rfl | hx
    · exact h1
    · rcases List.mem_cons.1 hx with rfl | hx
      · exact h2
      · cases hx⟩
theorem LL.lit3 {w : World} {g a b c : Nat} {l1 l2 l3 : List Int} (h : Lies w (some ⟨g, 0, none⟩) [.slice (some ⟨a, 0, none⟩) l1.length l1.length, .slice (some ⟨b, 0, none⟩) l2.length l2.length, .slice (some ⟨c, 0, none⟩) l3.length l3.length])
    (h1 : InOk w (some ⟨a, 0, none⟩, l1.length, l1)) (h2 : InOk w (some ⟨b, 0, none⟩, l2.length, l2)) (h3 : InOk w (some ⟨c, 0, none⟩, l3.length, l3)) :
    LL w (some ⟨g, 0, none⟩) [(some ⟨a, 0, none⟩, l1.length, l1), (some ⟨b, 0, none⟩, l2.length, l2), (some ⟨c, 0, none⟩, l3.length, l3)] :=
  ⟨h, fun x hx => by
    rcases List.mem_cons.1 hx with rfl | hx
    · exact h1
    · rcases List.mem_cons.1 hx with rfl | hx
      · exact h2
      · rcases List.mem_cons.1 hx with rfl | hx
        · exact h3
        · cases hx⟩
/-- Same, as a function that makes no memory -/
theorem same_b (A B : Option Addr) (c d : Nat) (a b : List Int) (w : World) (ha : Lies w A (ics a)) (hb : Lies w B (ics b)) (hna : a.length ≤ 1000000) (hnb : b.length ≤ 1000000) (r : Bool) (hr : Hid (decide (a = b) = r)) :
    Calls Tryd.prog 21 #[.slice A a.length c, .slice B b.length d] w (RetB r w) :=
  (Same_any A B c d a b w ha hb (by omega) (by omega) r hr).mono fun _ _ ⟨he, n, hn⟩ => ⟨he, by rw [hn]; exact below_drewN' w n⟩
theorem sames_b (A B : Option Addr) (c d : Nat) (L M : List Inn) (w : World) (hA : LL w A L) (hB : LL w B M) (hna : L.length ≤ 1000000) (r : Bool) (hr : Hid (decide (vsOf L = vsOf M) = r)) :
    Calls Tryd.prog 9 #[.slice A L.length c, .slice B M.length d] w (RetB r w) :=
  (SameLists_any A B c d L M w hA hB (by omega) r hr).mono fun _ _ ⟨he, n, hn⟩ => ⟨he, by rw [hn]; exact below_drewN' w n⟩
theorem k3_trf (g : Nat) (w : World) (h : Lies w (some ⟨g, 0, none⟩) [.int .i64 1, .int .i64 (-1)]) (hC : CosOk w) : Calls Tryd.prog 15 #[.slice (some ⟨g, 0, none⟩) 2 2] w (IntsErr 0 [0, 23170] w) :=
  Transform_any (some ⟨g, 0, none⟩) 2 [1, -1] w h hC (by decide) 0 [0, 23170] (Lib.hid (by decide +kernel))
theorem k3_inv (g : Nat) (w : World) (h : Lies w (some ⟨g, 0, none⟩) [.int .i64 32768, .int .i64 0]) (hC : CosOk w) : Calls Tryd.prog 16 #[.slice (some ⟨g, 0, none⟩) 2 2] w (IntsErr 0 [1, 1] w) := by
  have h1 := Inverse_ok (some ⟨g, 0, none⟩) 2 [32768, 0] w h hC (by decide) (Lib.hid (by decide))
  have e : inv [32768, 0] = [1, 1] := by decide +kernel
  rwa [e] at h1
theorem k3_cep (g : Nat) (w : World) (h : Lies w (some ⟨g, 0, none⟩) [.int .i64 16, .int .i64 16, .int .i64 16]) (hC : CosOk w) : Calls Tryd.prog 17 #[.slice (some ⟨g, 0, none⟩) 3 3, .int .i64 2] w (IntsErrL 0 [48, 15] w) := by
  have h1 := Cepstrum_ok (some ⟨g, 0, none⟩) 3 [16, 16, 16] 2 w h hC ⟨by decide, by decide, by decide, by decide, by decide⟩
  have e : cep [16, 16, 16] 2 = [48, 15] := by decide +kernel
  rwa [e] at h1
theorem k3_log (w : World) : Calls Tryd.prog 18 #[.int .i64 1000] w (RetIE 159 0 w) := by
  have h1 := Log_any 1000 w (by decide)
  have e : lg 1000 = 159 := by decide +kernel
  rwa [e] at h1
theorem k3_imp (A B : Option Addr) (a1 a2 a3 b1 b2 : Nat) (w : World) (hA : LL w A [(some ⟨a1, 0, none⟩, 1, [0]), (some ⟨a2, 0, none⟩, 1, [1]), (some ⟨a3, 0, none⟩, 1, [9])]) (hB : LL w B [(some ⟨b1, 0, none⟩, 1, [0]), (some ⟨b2, 0, none⟩, 1, [10])]) :
    Calls Tryd.prog 19 #[.slice A 3 3, .slice B 2 2] w (LLErr 0 [[1], [9]] w) :=
  Improve_any A B 3 2 _ _ w hA hB 0 [[1], [9]] (Lib.hid (by show impR [[0], [1], [9]] [[0], [10]] = _; decide +kernel))
theorem k3_dif (A : Option Addr) (a1 a2 a3 : Nat) (w : World) (hA : LL w A [(some ⟨a1, 0, none⟩, 1, [1]), (some ⟨a2, 0, none⟩, 1, [3]), (some ⟨a3, 0, none⟩, 1, [4])]) :
    Calls Tryd.prog 20 #[.slice A 3 3] w (LLErr 0 [[1, 2], [3, 3], [4, 1]] w) :=
  Differences_any A 3 _ w hA (by simp) 0 [[1, 2], [3, 3], [4, 1]] (Lib.hid (by show difR [[1], [3], [4]] = _; decide +kernel))
end Go.Proofs.YtnflpnbpigcfhabDoor
/- what the laws ask of the examples -/
namespace Go.Proofs.YtnflpnbpigcfhabDoor
open Go.RowKit Ear
/-- the examples hold -/
def Kn : Prop := ∀ w : World, CosOk w → Calls Tryd.prog 7 #[] w (RetB true w)
end Go.Proofs.YtnflpnbpigcfhabDoor
