/- Me: the texts PExt, PEx2, Vect, Extr in one. -/
import Derived.Test.YtnflpnbpigcfhabDoorPBnd
import Derived.Test.YtnflpnbpigcfhabDoorPFrm
import Derived.Test.YtnflpnbpigcfhabDoorPEmpLaw
import Derived.Test.YtnflpnbpigcfhabDoorPWgh
import Derived.Test.YtnflpnbpigcfhabDoorMb
import Derived.Test.YtnflpnbpigcfhabDoorMc
import Derived.Test.YtnflpnbpigcfhabDoorRcpV
import Derived.Test.YtnflpnbpigcfhabDoorCen
import Derived.Test.YtnflpnbpigcfhabDoorFrmA
import Derived.Test.YtnflpnbpigcfhabDoorEmpA
/- Plain facts: features of a recording -/
namespace Go.Proofs.YtnflpnbpigcfhabDoor
open Go.RowKit Ear

/-- the logarithms -/
def lgs (l : List Int) : List Int := l.map fun x => lg x.toNat
theorem lgs_length (l : List Int) : (lgs l).length = l.length := by simp [lgs]
/-- the vector of a frame -/
def vecF (win : Int) (points : Nat) (edges : List Int) (ce : Nat) (fr : List Int) : List Int :=
  if 0 < ce then cep (lgs (bndL (spc (ext (wgh fr win) points)) edges)) ce else lgs (bndL (spc (ext (wgh fr win) points)) edges)
/-- what the recipe says of the vectors -/
def difC (diff cen : Bool) (v : List (List Int)) : List (List Int) := (fun u => if cen then cenL u else u) (if diff then difL v else v)
theorem rnd_half {a b A : Int} (hb : 1 ≤ b) (h1 : -(A * b) ≤ a) (h2 : a ≤ A * b) : -A ≤ rnd a b ∧ rnd a b ≤ A := by
  have key : ∀ x : Int, 0 ≤ x → x ≤ A * b → 0 ≤ (2 * x + b) / (2 * b) ∧ (2 * x + b) / (2 * b) ≤ A := fun x hx hxa => by
    refine ⟨Int.ediv_nonneg (by omega) (by omega), ?_⟩
    have : (2 * x + b) / (2 * b) < A + 1 := by
      apply Int.ediv_lt_of_lt_mul (by omega)
      have e : (A + 1) * (2 * b) = 2 * (A * b) + 2 * b := by rw [Int.add_mul, Int.mul_left_comm]; omega
      rw [e]; omega
    omega
  unfold rnd
  split
  · have := key (-a) (by omega) (by omega); omega
  · have := key a (by omega) h2; omega
theorem spc_bd {l : List Int} {d : Int} (hd : 0 ≤ d) (h : allR (-d) d l = true) : allR (-(l.length * d)) (l.length * d) (spc l) = true := by
  apply allR_of
  intro x hx
  obtain ⟨y, hy, rfl⟩ := List.mem_map.1 hx
  obtain ⟨k, hk, rfl⟩ := List.mem_map.1 hy
  have := trS_bd hd h l.length k l.length
  exact rnd_half (by omega) (by rw [Int.mul_assoc]; exact this.1) (by rw [Int.mul_assoc]; exact this.2)
theorem allR_mono {a b c d : Int} {l : List Int} (h : allR a b l = true) (h1 : c ≤ a) (h2 : b ≤ d) : allR c d l = true := by
  apply allR_of
  intro x hx
  obtain ⟨i, hi, rfl⟩ := List.mem_iff_getElem.1 hx
  have := allR_get h hi
  omega
theorem emp_bd {l : List Int} {num den : Int} (h : allR (-32768) 32767 l = true) (h0 : 0 ≤ num) (h1 : num ≤ den) (h2 : 1 ≤ den) : allR (-65536) 65535 (emp l num den) = true := by
  apply allR_of
  intro x hx
  obtain ⟨k, hk, rfl⟩ := List.mem_map.1 hx
  have a1 := getD_bd h (by omega) (by omega) k
  have a0 := getD_bd h (by omega) (by omega) 0
  have a2 := getD_bd h (by omega) (by omega) (k - 1)
  unfold empAt
  split
  · omega
  · generalize l[k - 1]?.getD 0 = y at *
    generalize l[k]?.getD 0 = z at *
    have m1 := Int.mul_le_mul_of_nonneg_left a2.1 h0
    have m2 := Int.mul_le_mul_of_nonneg_left a2.2 h0
    have m3 : num * 32768 ≤ 32768 * den := by omega
    have m4 : num * 32767 ≤ 32767 * den := by omega
    rcases Int.le_total 0 (num * y) with hs | hs
    · have r1 := rnd_half (a := num * y) (A := 32767) h2 (by omega) (by omega)
      have r2 : 0 ≤ rnd (num * y) den := by rw [rnd_pos hs]; exact Int.ediv_nonneg (by omega) (by omega)
      omega
    · have r1 := rnd_half (a := num * y) (A := 32768) h2 (by omega) (by omega)
      have r2 : rnd (num * y) den ≤ 0 := by
        rcases Int.lt_or_eq_of_le hs with h | h
        · rw [rnd_neg h]
          have := Int.ediv_nonneg (a := 2 * -(num * y) + den) (b := 2 * den) (by omega) (by omega)
          omega
        · rw [h, rnd_pos (by omega), Int.ediv_eq_zero_of_lt (by omega) (by omega)]; omega
      omega
theorem frA_all {x : List Int} {a b : Int} (h : allR a b x = true) (h0 : a ≤ 0) (h1 : 0 ≤ b) (size t : Nat) : allR a b (frA x size t) = true := by
  apply allR_of
  intro y hy
  obtain ⟨k, hk, rfl⟩ := List.mem_map.1 hy
  exact getD_bd h h0 h1 _
theorem lgW_bd (n : Nat) (h : n < 18446744073709551616) : -16 ≤ lg n ∧ lg n ≤ 1024 := by
  unfold lg
  split
  · omega
  · refine ⟨by omega, ?_⟩
    have h1 : (n ^ 16).log2 ≤ 1024 := by
      apply Nat.le_of_lt
      rw [Nat.log2_lt (by rename_i h0; exact Nat.pos_iff_ne_zero.1 (Nat.pow_pos (by omega)))]
      have := Nat.pow_lt_pow_left h (show (16 : Nat) ≠ 0 by omega)
      have e : (18446744073709551616 : Nat) ^ 16 = 2 ^ 1024 := by decide +kernel
      omega
    omega
theorem lgs_bd {l : List Int} (h : ∀ x ∈ l, x < 18446744073709551616) : allR (-1024) 1024 (lgs l) = true := by
  apply allR_of
  intro y hy
  obtain ⟨x, hx, rfl⟩ := List.mem_map.1 hy
  have := lgW_bd x.toNat (by have := h x hx; omega)
  omega
end Go.Proofs.YtnflpnbpigcfhabDoor
/- Plain facts: the vectors of a recording are vectors -/
namespace Go.Proofs.YtnflpnbpigcfhabDoor
open Go.RowKit Ear

theorem ext_allR {l : List Int} {n : Nat} {a b : Int} (h : allR a b l = true) (h0 : a ≤ 0) (h1 : 0 ≤ b) : allR a b (ext l n) = true := by
  apply allR_of
  intro x hx
  rcases List.mem_append.1 hx with hx | hx
  · exact allR_mem h hx
  · have := List.eq_of_mem_replicate hx; omega
theorem fit_32 {n : Nat} (h : n ≤ 32) : fit n ≤ 32 := by
  unfold fit
  repeat' split
  all_goals omega
/-- the length of the vectors -/
def vlen (edges : List Int) (ce : Nat) : Nat := if 0 < ce then ce else edges.length - 1
theorem vlen_bd {edges : List Int} {ce : Nat} (h2 : 2 ≤ edges.length) (hel : edges.length ≤ 33) (hce : ce ≤ fit (edges.length - 1)) : 1 ≤ vlen edges ce ∧ vlen edges ce ≤ 32 := by
  have := fit_32 (n := edges.length - 1) (by omega)
  unfold vlen
  split <;> omega
theorem vecF_ok {win : Int} {pts : Nat} {edges : List Int} {ce : Nat} {fr : List Int} (hv : allR (-65536) 65535 fr = true) (hp : lenOk pts = true) (hl : fr.length ≤ pts) (hel : edges.length ≤ 33) (hce : ce ≤ fit (edges.length - 1)) :
    (vecF win pts edges ce fr).length = vlen edges ce ∧ allR (-32768) 32768 (vecF win pts edges ce fr) = true := by
  have hpt := lenOk_bd hp
  have e1 := ext_length (l := wgh fr win) (n := pts) (by rw [wgh_length]; exact hl)
  have a1 : allR (-65536) 65536 (ext (wgh fr win) pts) = true := ext_allR (allR_mono (wgh_all hv) (by omega) (by omega)) (by omega) (by omega)
  have a2 : allR (-16777216) 16777216 (spc (ext (wgh fr win) pts)) = true := allR_mono (spc_bd (d := 65536) (by omega) a1) (by rw [e1]; omega) (by rw [e1]; omega)
  have e2 : (spc (ext (wgh fr win) pts)).length = pts := by rw [spc_length, e1]
  unfold vecF
  generalize spc (ext (wgh fr win) pts) = S at *
  have e3 := bndL_length S edges
  have a3 : allR (-1024) 1024 (lgs (bndL S edges)) = true := lgs_bd (fun x hx => by
    obtain ⟨i, hi, rfl⟩ := List.mem_iff_getElem.1 hx
    rw [e3] at hi
    have h1 := bndL_get (s := S) (e := edges) hi
    have h2 := bnd_bd (e := edges) a2 (by omega) i
    rw [List.getElem?_eq_getElem (by rw [e3]; exact hi), Option.getD_some] at h1
    omega)
  have e4 : (lgs (bndL S edges)).length = edges.length - 1 := by rw [lgs_length, e3]
  generalize lgs (bndL S edges) = G at *
  unfold vlen
  split
  · rename_i h0
    have h32 := fit_32 (n := G.length) (by omega)
    have hge := fit_ge (m := G.length) (by omega)
    refine ⟨cep_length (by omega) (by rw [e4]; exact hce), ?_⟩
    have a4 := spc_bd (d := 1024) (by omega) (ext_allR (n := fit G.length) a3 (by omega) (by omega))
    rw [ext_length hge] at a4
    unfold cep
    exact allR_of fun x hx => by
      have := allR_mem a4 (List.mem_of_mem_take hx)
      omega
  · exact ⟨e4, allR_mono a3 (by omega) (by omega)⟩
theorem vecR_of {vs : List (List Int)} {n : Nat} {b : Int} (h10 : vs.length ≤ 10000) (h1 : 1 ≤ n) (h2 : n ≤ 64) (hb : b ≤ 1048576) (h : ∀ x ∈ vs, x.length = n ∧ allR (-b) b x = true) : vecR vs = 0 := by
  unfold vecR
  rw [if_neg (by omega), if_pos]
  unfold vecOk
  rw [List.all_eq_true]
  intro x hx
  have hx' := h x hx
  have hl : len0 vs = n := by
    unfold len0
    cases vs with
    | nil => cases hx
    | cons y ys => exact (h y List.mem_cons_self).1
  rw [okV_iff, hl]
  exact ⟨hx'.1, by omega, by omega, allR_mono hx'.2 (by omega) hb⟩
theorem difL_ok {vs : List (List Int)} {n : Nat} {b : Int} (hb : 0 ≤ b) (h : ∀ x ∈ vs, x.length = n ∧ allR (-b) b x = true) : ∀ y ∈ difL vs, y.length = n + n ∧ allR (-(b + b)) (b + b) y = true := by
  intro y hy
  obtain ⟨t, ht, rfl⟩ := List.mem_map.1 hy
  have ht' : t < vs.length := by simpa using ht
  have g : ∀ i, i < vs.length → (vs[i]?.getD []).length = n ∧ allR (-b) b (vs[i]?.getD []) = true := fun i hi => by
    rw [List.getElem?_eq_getElem hi]; exact h _ (List.getElem_mem hi)
  have g0 := g t ht'
  have g1 := g (min (t + 1) (vs.length - 1)) (by omega)
  have g2 := g (t - 1) (by omega)
  unfold difAt
  refine ⟨by rw [List.length_append, cmb_length, g0.1, g1.1], allR_of fun x hx => ?_⟩
  rcases List.mem_append.1 hx with hx | hx
  · have := allR_mem g0.2 hx; omega
  · obtain ⟨q, hq, rfl⟩ := List.mem_map.1 hx
    have b1 := getD_bd g1.2 (by omega) (by omega) q
    have b2 := getD_bd g2.2 (by omega) (by omega) q
    simp only
    omega
/-- the vectors ahead of differences and centering -/
def rawV (l : List Int) (num den : Int) (size step : Nat) (win : Int) (pts : Nat) (edges : List Int) (ce : Nat) : List (List Int) := (frs (emp l num den) size step false).map (vecF win pts edges ce)
theorem rawV_ok {l : List Int} {num den : Int} {size step : Nat} {win : Int} {pts : Nat} {edges : List Int} {ce : Nat} (hl : allR (-32768) 32767 l = true) (h0 : 0 ≤ num) (h1 : num ≤ den) (h2 : 1 ≤ den) (hp : lenOk pts = true) (hs : size ≤ pts)
    (hel : edges.length ≤ 33) (hce : ce ≤ fit (edges.length - 1)) : ∀ x ∈ rawV l num den size step win pts edges ce, x.length = vlen edges ce ∧ allR (-32768) 32768 x = true := by
  intro x hx
  obtain ⟨f, hf, rfl⟩ := List.mem_map.1 hx
  obtain ⟨k, _, rfl⟩ := List.mem_map.1 hf
  exact vecF_ok (frA_all (emp_bd hl h0 h1 h2) (by omega) (by omega) _ _) hp (by rw [frA_length]; exact hs) hel hce
theorem rawV_length (l : List Int) (num den : Int) (size step : Nat) (win : Int) (pts : Nat) (edges : List Int) (ce : Nat) : (rawV l num den size step win pts edges ce).length = frN l.length size step false := by
  unfold rawV
  rw [List.length_map, frs_length, emp_length]
theorem rawV_vec {l : List Int} {num den : Int} {size step : Nat} {win : Int} {pts : Nat} {edges : List Int} {ce : Nat} (hl : allR (-32768) 32767 l = true) (h0 : 0 ≤ num) (h1 : num ≤ den) (h2 : 1 ≤ den) (hp : lenOk pts = true) (hs0 : 1 ≤ size) (hs : size ≤ pts) (hst : 1 ≤ step)
    (hel : edges.length ≤ 33) (he2 : 2 ≤ edges.length) (hce : ce ≤ fit (edges.length - 1)) (hn : l.length ≤ 10000) (diff : Bool) :
    vecR (rawV l num den size step win pts edges ce) = 0 ∧ vecR (if diff then difL (rawV l num den size step win pts edges ce) else rawV l num den size step win pts edges ce) = 0 := by
  have h := rawV_ok (size := size) (step := step) (win := win) hl h0 h1 h2 hp hs hel hce
  have hv := vlen_bd he2 hel hce
  have hle := frN_le (n := l.length) (size := size) (step := step) (pad := false) hs0 hst
  have hlen := rawV_length l num den size step win pts edges ce
  have r0 := vecR_of (by omega) hv.1 (by omega) (by omega) h
  refine ⟨r0, ?_⟩
  cases diff
  · simpa using r0
  · exact vecR_of (n := vlen edges ce + vlen edges ce) (by rw [if_pos rfl, difL_length]; omega) (by omega) (by omega) (b := 32768 + 32768) (by omega) (difL_ok (by omega) h)
end Go.Proofs.YtnflpnbpigcfhabDoor
/- features: what the recipe makes of a frame -/
namespace Go.Proofs.YtnflpnbpigcfhabDoor
open Go.RowKit Ear

theorem wgh_all2 {l : List Int} {kind : Int} (h : allR (-65536) 65535 l = true) : allR (-65536) 65536 (wgh l kind) = true := allR_mono (wgh_all h) (by omega) (by omega)
/-- the integers of a list that fits into memory -/
theorem bndL_bd {s e : List Int} (hs : allR (-16777216) 16777216 s = true) (hl : s.length ≤ 64) : ∀ k : Nat, 0 ≤ (bndL s e)[k]?.getD 0 ∧ (bndL s e)[k]?.getD 0 ≤ 18014398509481984 := by
  intro k
  by_cases hk : k < (bndL s e).length
  · rw [bndL_get (by rw [← bndL_length s e]; exact hk)]; exact bnd_bd hs hl k
  · rw [List.getElem?_eq_none (by omega)]; simp
set_option maxRecDepth 100000 in
set_option maxHeartbeats 4000000 in
theorem vector_any (num den size step win : Int) (pts : Nat) (E : Option Addr) (ec : Nat) (edges : List Int) (ce : Nat) (diff cen : Bool) (p : Nat) (A : Option Addr) (c : Nat) (fr : List Int) (w : World) (hC : CosOk w)
    (hp : w.heap[p]? = some (.cells #[.int .i64 num, .int .i64 den, .int .i64 size, .int .i64 step, .int .i64 win, .int .i64 pts, .slice E edges.length ec, .int .i64 ce, .bool diff, .bool cen] 56 (0, 0)))
    (hE : Lies w E (ics edges)) (h : Lies w A (ics fr)) (hw1 : 1 ≤ win) (hw3 : win ≤ 3) (hp1 : lenOk pts = true) (hl1 : 1 ≤ fr.length) (hl2 : fr.length ≤ pts) (hed : Hid (Edg edges pts)) (hel : edges.length ≤ 33) (hce : Hid (ce ≤ fit (edges.length - 1)))
    (hv : Hid (allR (-65536) 65535 fr = true)) :
    Calls Tryd.prog 26 #[.pointer (some ⟨p, 0, none⟩), .slice A fr.length c] w (RetIntsT (vecF win pts edges ce fr) w) := by
  have hpt := lenOk_bd hp1
  have HPO := Lib.hid hp1
  have hpl : p < w.heap.size := (Array.getElem?_eq_some_iff.1 hp).1
  have HQ : Hid (w.cell? ⟨p, 4, none⟩ = some (.int .i64 win) ∧ w.cell? ⟨p, 5, none⟩ = some (.int .i64 pts) ∧ w.cell? ⟨p, 6, none⟩ = some (.slice E edges.length ec) ∧ w.cell? ⟨p, 7, none⟩ = some (.int .i64 ce)) := Lib.hid ⟨by rw [cell_of_row w _ 4 _ _ _ hp]; rfl, by rw [cell_of_row w _ 5 _ _ _ hp]; rfl, by rw [cell_of_row w _ 6 _ _ _ hp]; rfl, by rw [cell_of_row w _ 7 _ _ _ hp]; rfl⟩
  have HVC : Hid (vchk fr = 0) := Lib.hid (vchk_ok.2 ⟨by omega, allR_mono hv.out (by omega) (by omega)⟩)
  have h2e := hed.out.two
  have HVF : Hid (vecF win pts edges ce fr = if 0 < ce then cep (lgs (bndL (spc (ext (wgh fr win) pts)) edges)) ce else lgs (bndL (spc (ext (wgh fr win) pts)) edges)) := Lib.hid rfl
  have HGA := Lib.hid (wgh_all2 (kind := win) hv.out)
  have hgl : (wgh fr win).length ≤ pts := by rw [wgh_length]; exact hl2
  clear hp hp1
  have q4 := HQ.out.1
  go_enter Tryd.func26, Tryd.ntmps26
  go_wp2_with fail
  refine (Weigh_ok A c fr win _ h HVC hw1 hw3 hl1 (by omega)).mono ?_
  rintro e w1 ⟨A1, c1, rfl, ho1, hb1⟩
  generalize wgh fr win = g1 at *
  have q5 := (hb1.cell (p := ⟨p, 5, none⟩) hpl).trans HQ.out.2.1
  obtain ⟨w2, hmk, ho2, hb2⟩ := make_ints w1 pts (by omega) w1.heap.size (Nat.le_refl _)
  have L1 := Lib.hid ((Lies.of_own ho1).below hb2)
  have HB1 := Lib.hid hb1
  have hm : pts ≤ maxLen := by unfold maxLen; omega
  obtain ⟨g, hg⟩ : ∃ g, g = w1.heap.size := ⟨_, rfl⟩
  rw [← hg] at ho2 hmk
  have HG : Hid (w1.heap.size ≤ g) := Lib.hid (by omega)
  clear hg ho1 hb1 q4
  go_wp2_with (with_reducible refine wpList_copy_ints rfl _ _ rfl g pts c1 A1 g1 (List.replicate pts 0) rfl rfl hgl g ho2 hm L1.out w1.heap.size w1 hb2 HG.out ?_; intro w3 ho3 hb3)
  have e : g1 ++ (List.replicate pts 0).drop g1.length = ext g1 pts := by simp [ext]
  rw [e] at ho3
  have HEL := Lib.hid (ext_length hgl)
  have HEA := Lib.hid (ext_all (n := pts) HGA.out)
  have HB3 := Lib.hid (HB1.out.trans (hb3.mono HB1.out.size))
  have HX := Lib.hid (Lies.of_own ho3)
  clear e ho3 ho2 hb3 hb2 hmk q5 L1 HB1 HG HGA
  generalize ext g1 pts = X at *
  have HSL : Hid ((spc X).length = pts) := Lib.hid (by rw [spc_length]; exact HEL.out)
  have HSA : Hid (allR (-16777216) 16777216 (spc X) = true) := Lib.hid (allR_mono (spc_bd (d := 65536) (by omega) HEA.out) (by rw [HEL.out]; omega) (by rw [HEL.out]; omega))
  have SA : Hid (w3.drew.cell? ⟨p, 6, none⟩ = some (.slice E edges.length ec)) := Lib.hid ((HB3.out.cell (p := ⟨p, 6, none⟩) hpl).trans HQ.out.2.2.1)
  have hcs := spectrum_any (some ⟨g, 0, none⟩) pts X w3.drew (Lies.drew HX.out) (Lies.drew (hC.below HB3.out)) (by rw [HEL.out]; exact HPO.out) HEA
  rw [HEL.out] at hcs
  have HCS := Lib.hid hcs
  have HEB : Hid (Lies w3.drew E (ics edges)) := Lib.hid (Lies.drew (hE.below HB3.out))
  have HBD : Hid (Below w.heap.size w w3.drew) := Lib.hid HB3.out.drew
  have hp3 : p < w3.drew.heap.size := Nat.lt_of_lt_of_le hpl HB3.out.size
  clear hcs HX HEA HPO HEL
  generalize spc X = S at *
  have HBN := Lib.hid (bndL_length S edges)
  have HBB := Lib.hid (bndL_bd (e := edges) HSA.out (by rw [HSL.out]; omega))
  go_upto_region 4 with (fail)
  go_region_held3 (fun w' => w'.cell? ⟨p, 6, none⟩ = some (.slice E edges.length ec))
    (first | exact SA.out | exact SB.out | exact SC.out)
    (first
      | (go_at_call 51; refine HCS.out.mono ?_; rintro e w4 ⟨A4, c4, rfl, ho4, hb4⟩; have SB : Hid (w4.cell? ⟨p, 6, none⟩ = some (.slice E edges.length ec)) := Lib.hid ((hb4.cell (p := ⟨p, 6, none⟩) hp3).trans SA.out); have HO4 := Lib.hid ho4; have HEC := Lib.hid (HEB.out.below hb4); have HB4 := Lib.hid (HBD.out.trans (hb4.mono HBD.out.size)); have hp4 : p < w4.heap.size := Nat.lt_of_lt_of_le hp3 hb4.size; clear hb4 ho4)
      | (go_at_call 50; refine (bands_any A4 E c4 ec S edges w4 (Lies.of_own HO4.out) HEC.out (own_cap HO4.out) (Lib.hid (by rw [HSL.out]; exact hed.out)) HSA (by rw [HSL.out]; omega) (by omega)).mono ?_; rintro e w5 ⟨A5, c5, rfl, ho5, hb5⟩; have SC : Hid (w5.cell? ⟨p, 6, none⟩ = some (.slice E edges.length ec)) := Lib.hid ((hb5.cell (p := ⟨p, 6, none⟩) hp4).trans SB.out); have HO5 := Lib.hid ho5; have HB5 := Lib.hid (HB4.out.trans (hb5.mono HB4.out.size)); have HS5 : Hid (w.heap.size ≤ w4.heap.size) := Lib.hid HB4.out.size; clear hb5 ho5))
  clear SA SB SC HO4 HEB HEC HBD HB4 HCS
  generalize bndL S edges = B at *
  have hbn : B.length ≤ 32 := by rw [HBN.out]; omega
  have hbn1 : 1 ≤ B.length := by rw [HBN.out]; omega
  have hcl : Hid (ce ≤ fit B.length) := Lib.hid (by rw [HBN.out]; exact hce.out)
  obtain ⟨g5, cap5, hform, _, _⟩ := HO5.out.form (by omega)
  obtain ⟨rfl, hcc⟩ : A5 = some ⟨g5, 0, none⟩ ∧ cap5 = c5 := by injection hform with e1 _ e3; exact ⟨e1, e3.symm⟩
  subst hcc
  clear hform
  obtain ⟨f, hf⟩ : ∃ f : Int → Int, f = (fun x => lg x.toNat) := ⟨_, rfl⟩
  have HF := Lib.hid hf
  have HLG : Hid (mapTo f B B.length = lgs B) := Lib.hid (by rw [mapTo_all, hf]; rfl)
  clear hf
  go_wp2_with fail
  go_loopw [9, 39] (fun _ i wr => ∃ k : Nat, k ≤ B.length ∧ i = .int .i64 k ∧ wr.ownsRow w4.heap.size 3 1 (.slice (some ⟨g5, 0, none⟩) B.length cap5) B.length (ics (mapTo f B k)) ∧ Below w.heap.size w wr) (fun _ i _ => B.length - (intOf i).toNat)
  case atStart => exact ⟨0, by omega, rfl, by rw [mapTo_zero]; exact HO5.out, HB5.out⟩
  case round =>
    clear HO5 HB5
    obtain ⟨k, hk, rfl, r1, r2⟩ := hrel
    have R1 := Lib.hid r1
    have R2 := Lib.hid r2
    clear r1 r2
    by_cases hlt : k < B.length
    · have q1 : wr.cell? ⟨g5, k, none⟩ = some (.int .i64 (B[k]?.getD 0)) := by
        rw [R1.out.cellAt k (by omega)]; simp only [List.getElem?_map, mapTo_get _ B k hlt]; rfl
      have b1 := HBB.out k
      generalize hx1 : B[k]?.getD 0 = x1 at *
      have H1 := Lib.hid hx1
      obtain ⟨y, hy⟩ : ∃ y : Nat, x1 = y := ⟨x1.toNat, by omega⟩
      subst hy
      have HFY : Hid (lg y = f y) := Lib.hid (by rw [HF.out]; simp)
      clear hx1
      go_wp2_with (go_at_call 37; refine (logarithm_any y _ (by omega)).mono ?_; rintro e w6 ⟨rfl, hb6⟩; have R6 := Lib.hid (own_below R1.out hb6); have q2 : w6.frozen? ⟨g5, k, none⟩ = false := R6.out.frozenAt k; have q3 : w6.cell? ⟨g5, k, none⟩ = some (.int .i64 y) := (hb6.cell (p := ⟨g5, k, none⟩) (R1.out.lt g5 rfl).2).trans q1; have B6 := Lib.hid (R2.out.trans (hb6.mono R2.out.size)); clear hb6)
      have hst := R6.out.stored k (.int .i64 (lg y))
      have hset : (ics (mapTo f B k)).set k (.int .i64 (lg y)) = ics (mapTo f B (k + 1)) := by
        rw [← List.map_set, mapTo_set _ _ _ _ (by rw [H1.out, HFY.out])]
      rw [hset] at hst
      go_roundw
      case rel => exact ⟨k + 1, by omega, by go_num, hst.1, B6.out.setCell (by have := (R1.out.lt g5 rfl).1; have := HS5.out; show w.heap.size ≤ g5; omega) _⟩
      case measure => simp [intOf]; omega
    · obtain rfl : k = B.length := by omega
      have r1 := R1.out
      rw [HLG.out] at r1
      have R7 := Lib.hid r1
      have q7 := (R2.out.cell (p := ⟨p, 7, none⟩) hpl).trans HQ.out.2.2.2
      have HLL : Hid ((lgs B).length = B.length) := Lib.hid (lgs_length B)
      have HLA : Hid (allR (-65536) 65536 (lgs B) = true) := Lib.hid (allR_mono (lgs_bd (fun x hx => by
        obtain ⟨i, hi, rfl⟩ := List.mem_iff_getElem.1 hx
        have := HBB.out i
        rw [List.getElem?_eq_getElem hi] at this
        simp only [Option.getD_some] at this
        omega)) (by omega) (by omega))
      clear r1 R1
      by_cases h0 : 0 < ce
      · have hcall := cepstrum_t (some ⟨g5, 0, none⟩) cap5 (lgs B) ce wr (Lies.of_own R7.out) (hC.below R2.out) (by rw [HLL.out]; omega) (by rw [HLL.out]; exact hcl.out) HLA
        rw [HLL.out] at hcall
        have HVF' : Hid (vecF win pts edges ce fr = cep (lgs B) ce) := Lib.hid (by rw [HVF.out, if_pos h0])
        clear HVF
        go_wp2_with fail
        refine hcall.mono ?_
        rintro e w8 ⟨A8, c8, rfl, t1, t2, t3, t4, t5⟩
        go_wp2_with fail
        go_ret
        rw [HVF'.out]
        exact ⟨A8, c8, rfl, t1, t2, t3, t4, R2.out.trans (t5.mono R2.out.size)⟩
      · have HVF' : Hid (vecF win pts edges ce fr = lgs B) := Lib.hid (by rw [HVF.out, if_neg h0])
        clear HVF
        go_wp2_with fail
        go_ret
        rw [HVF'.out]
        exact ⟨some ⟨g5, 0, none⟩, cap5, by rw [HLL.out]; rfl, Lies.of_own R7.out, by rw [HLL.out]; exact own_cap R7.out, (fun e => by cases e), TyI.of_own R7.out, R2.out⟩
end Go.Proofs.YtnflpnbpigcfhabDoor
/- Extract: the features of a recording -/
namespace Go.Proofs.YtnflpnbpigcfhabDoor
open Go.RowKit Ear

/-- the post of a function that hands on a list of lists which was made behind a point -/
def RetLLo (base : Nat) (out : List (List Int)) (w : World) (e : Ending) (w' : World) : Prop :=
  ∃ A c L, e = .returned (.slice A (L : List Inn).length c) ∧ Hid (vsOf L = out) ∧ LLo w' base A c L ∧ Below w.heap.size w w'
theorem RetLL.o {base : Nat} {out : List (List Int)} {w w' : World} {e : Ending} (h : RetLL out w e w') (hb : base ≤ w.heap.size) : RetLLo base out w e w' := by
  obtain ⟨A, c, L, h1, h2, h3, h4⟩ := h
  exact ⟨A, c, L, h1, h2, h3.le hb, h4⟩
/-- the cells of a recipe -/
theorem rcp_cells {W : World} {b : Nat} {t : TypeId} {num den size step win points : Int} {E : Option Addr} {ec : Nat} {edges : List Int} {ce : Int} {diff cen : Bool}
    (h : W.heap[b]? = some (.cells #[.int .i64 num, .int .i64 den, .int .i64 size, .int .i64 step, .int .i64 win, .int .i64 points, .slice E edges.length ec, .int .i64 ce, .bool diff, .bool cen] t (0, 0))) :
    W.cell? ⟨b, 0, none⟩ = some (.int .i64 num) ∧ W.cell? ⟨b, 1, none⟩ = some (.int .i64 den) ∧ W.cell? ⟨b, 2, none⟩ = some (.int .i64 size) ∧ W.cell? ⟨b, 3, none⟩ = some (.int .i64 step) ∧ W.cell? ⟨b, 4, none⟩ = some (.int .i64 win) ∧
    W.cell? ⟨b, 5, none⟩ = some (.int .i64 points) ∧ W.cell? ⟨b, 6, none⟩ = some (.slice E edges.length ec) ∧ W.cell? ⟨b, 7, none⟩ = some (.int .i64 ce) ∧ W.cell? ⟨b, 8, none⟩ = some (.bool diff) ∧ W.cell? ⟨b, 9, none⟩ = some (.bool cen) := by
  refine ⟨?_, ?_, ?_, ?_, ?_, ?_, ?_, ?_, ?_, ?_⟩
  · rw [cell_of_row W _ 0 _ _ _ h]; rfl
  · rw [cell_of_row W _ 1 _ _ _ h]; rfl
  · rw [cell_of_row W _ 2 _ _ _ h]; rfl
  · rw [cell_of_row W _ 3 _ _ _ h]; rfl
  · rw [cell_of_row W _ 4 _ _ _ h]; rfl
  · rw [cell_of_row W _ 5 _ _ _ h]; rfl
  · rw [cell_of_row W _ 6 _ _ _ h]; rfl
  · rw [cell_of_row W _ 7 _ _ _ h]; rfl
  · rw [cell_of_row W _ 8 _ _ _ h]; rfl
  · rw [cell_of_row W _ 9 _ _ _ h]; rfl
theorem rec_cells {W : World} {b : Nat} {t : TypeId} {rate : Int} {A : Option Addr} {n c : Nat} (h : W.heap[b]? = some (.cells #[.int .i64 rate, .slice A n c] t (0, 0))) : W.cell? ⟨b, 0, none⟩ = some (.int .i64 rate) ∧ W.cell? ⟨b, 1, none⟩ = some (.slice A n c) :=
  ⟨by rw [cell_of_row W _ 0 _ _ _ h]; rfl, by rw [cell_of_row W _ 1 _ _ _ h]; rfl⟩
/-- what a call that boxes a recording and a recipe finds -/
structure RcBox (w W : World) (rate : Int) (A : Option Addr) (n c : Nat) (r : Rcp) : Prop where
  bel : Below w.heap.size w W
  rec_ : W.heap[w.heap.size]? = some (.cells #[.int .i64 rate, .slice A n c] 24 (0, 0))
  rcp : W.heap[w.heap.size + 1]? = some (.cells r.cells 27 (0, 0))
theorem RcBox.new (w : World) (rate : Int) (A : Option Addr) (n c : Nat) (r : Rcp) : RcBox w ((w.alloc (.cells #[.int .i64 rate, .slice A n c] 24)).alloc (.cells r.cells 27)) rate A n c r :=
  ⟨((Below.refl _ w).alloc (Nat.le_refl _) _).alloc (by simp) _, (Below.heap_alloc _ _ _ (by simp)).trans (heap_alloc_new _ _), by have := heap_alloc_new (w.alloc (.cells #[.int .i64 rate, .slice A n c] 24)) (.cells r.cells 27); simpa using this⟩
theorem RcBox.below {w W W' : World} {rate : Int} {A : Option Addr} {n c : Nat} {r : Rcp} (h : RcBox w W rate A n c r) (hb : Below W.heap.size W W') : RcBox w W' rate A n c r := by
  have h1 := (Array.getElem?_eq_some_iff.1 h.rec_).1
  have h2 := (Array.getElem?_eq_some_iff.1 h.rcp).1
  exact ⟨h.bel.trans (hb.mono h.bel.size), (hb.block _ h1).trans h.rec_, (hb.block _ h2).trans h.rcp⟩
/-- the cook lies at p -/
def CookAt (w : World) (p : Nat) (r : Rcp) : Prop := w.heap[p]? = some (.cells r.cells 56 (0, 0))
set_option maxHeartbeats 1000000 in
theorem differ_any (num den size step win points : Int) (E : Option Addr) (ec : Nat) (edges : List Int) (ce : Int) (diff cen : Bool) (p : Nat) (A : Option Addr) (c : Nat) (L : List Inn) (w : World) (base : Nat) (hb : base ≤ w.heap.size)
    (hp : CookAt w p ⟨num, den, size, step, win, points, E, ec, edges, ce, diff, cen⟩) (hL : LLo w base A c L) (hv : Hid (vecR (vsOf L) = 0)) :
    Calls Tryd.prog 27 #[.pointer (some ⟨p, 0, none⟩), .slice A L.length c] w (RetLLo base (if diff then difL (vsOf L) else vsOf L) w) := by
  have q8 : w.cell? ⟨p, 8, none⟩ = some (.bool diff) := by rw [cell_of_row w _ 8 _ _ _ hp]; rfl
  cases diff with
  | false =>
    go_enter Tryd.func27, Tryd.ntmps27
    go_wp2_with fail
    go_ret
    exact ⟨A, c, L, rfl, Lib.hid rfl, hL, Below.refl _ _⟩
  | true =>
    go_enter Tryd.func27, Tryd.ntmps27
    go_wp2_with fail
    refine (differences_any A c L w hL.ll hv).mono ?_
    rintro e w1 ⟨A1, c1, L1, rfl, h1, h2, h3⟩
    go_wp2_with fail
    go_ret
    exact ⟨A1, c1, L1, rfl, Lib.hid h1.out, h2.le hb, h3⟩
set_option maxHeartbeats 1000000 in
theorem middle_any (num den size step win points : Int) (E : Option Addr) (ec : Nat) (edges : List Int) (ce : Int) (diff cen : Bool) (p : Nat) (A : Option Addr) (c : Nat) (L : List Inn) (w : World) (base : Nat) (hb : base ≤ w.heap.size)
    (hp : CookAt w p ⟨num, den, size, step, win, points, E, ec, edges, ce, diff, cen⟩) (hL : LLo w base A c L) (hv : Hid (vecR (vsOf L) = 0)) :
    Calls Tryd.prog 28 #[.pointer (some ⟨p, 0, none⟩), .slice A L.length c] w (RetLLo base (if cen then cenL (vsOf L) else vsOf L) w) := by
  have q9 : w.cell? ⟨p, 9, none⟩ = some (.bool cen) := by rw [cell_of_row w _ 9 _ _ _ hp]; rfl
  cases cen with
  | false =>
    go_enter Tryd.func28, Tryd.ntmps28
    go_wp2_with fail
    go_ret
    exact ⟨A, c, L, rfl, Lib.hid rfl, hL, Below.refl _ _⟩
  | true =>
    go_enter Tryd.func28, Tryd.ntmps28
    go_wp2_with fail
    refine (center_any A c L w hL.ll hv).mono ?_
    rintro e w1 ⟨A1, c1, L1, rfl, h1, h2, h3⟩
    go_wp2_with fail
    go_ret
    exact ⟨A1, c1, L1, rfl, Lib.hid h1.out, h2.le hb, h3⟩
set_option maxRecDepth 100000 in
set_option maxHeartbeats 2000000 in
theorem Extract_badw (rate : Int) (A : Option Addr) (c : Nat) (l : List Int) (num den size step win points : Int) (E : Option Addr) (ec : Nat) (edges : List Int) (ce : Int) (diff cen : Bool) (w : World) (h : Lies w A (ics l)) (hn : l.length ≤ 9223372036854775807)
    (hb : Hid (decide (chk rate l = 0) = false)) :
    Calls Tryd.prog 8 #[recV rate A l.length c, .agg #[.int .i64 num, .int .i64 den, .int .i64 size, .int .i64 step, .int .i64 win, .int .i64 points, .slice E edges.length ec, .int .i64 ce, .bool diff, .bool cen]] w (LLErr 2 [] w) := by
  go_enter Tryd.func8, Tryd.ntmps8
  go_wp2_with fail
  refine (wValid_any rate A c l _ ((h.alloc _).alloc _) hn false hb).mono ?_
  rintro e w1 ⟨rfl, hb1⟩
  have B1 := Lib.hid ((((Below.refl _ w).alloc (Nat.le_refl _) _).alloc (by simp) _).trans (hb1.mono (by simp; omega)))
  clear hb1
  go_wp2_with fail
  go_ret2
  exact .nil_ rfl B1.out
set_option maxRecDepth 100000 in
set_option maxHeartbeats 2000000 in
theorem Extract_badr (rate : Int) (A : Option Addr) (c : Nat) (l : List Int) (num den size step win points : Int) (E : Option Addr) (ec : Nat) (edges : List Int) (ce : Int) (diff cen : Bool) (w : World) (h : Lies w A (ics l)) (hn : l.length ≤ 9223372036854775807)
    (hE : Lies w E (ics edges)) (hel : edges.length ≤ 9223372036854775807) (hp : points ≤ 9223372036854775807)
    (hb : Hid (decide (chk rate l = 0) = true)) (hr : Hid (¬ RcpOk ⟨num, den, size, step, win, points, E, ec, edges, ce, diff, cen⟩)) :
    Calls Tryd.prog 8 #[recV rate A l.length c, .agg #[.int .i64 num, .int .i64 den, .int .i64 size, .int .i64 step, .int .i64 win, .int .i64 points, .slice E edges.length ec, .int .i64 ce, .bool diff, .bool cen]] w (LLErr 2 [] w) := by
  have D0 := Lib.hid (RcBox.new w rate A l.length c ⟨num, den, size, step, win, points, E, ec, edges, ce, diff, cen⟩)
  go_enter Tryd.func8, Tryd.ntmps8
  go_wp2_with fail
  refine (wValid_any rate A c l _ ((h.alloc _).alloc _) hn true hb).mono ?_
  rintro e w1 ⟨rfl, hb1⟩
  have D1 := Lib.hid (D0.out.below hb1)
  obtain ⟨q0, q1, q2, q3, q4, q5, q6, q7, q8, q9⟩ := rcp_cells D1.out.rcp
  clear hb1 D0
  go_wp2_with fail
  refine (fValid_any ⟨num, den, size, step, win, points, E, ec, edges, ce, diff, cen⟩ _ (hE.below D1.out.bel) hel hp false (Lib.hid (Iff.intro (fun h => by cases h) (fun h => absurd h hr.out)))).mono ?_
  rintro e w2 ⟨rfl, hb2⟩
  have D2 := Lib.hid (D1.out.below hb2)
  clear hb2 D1 q0 q1 q2 q3 q4 q5 q6 q7 q8 q9
  go_wp2_with fail
  go_ret2
  exact .nil_ rfl D2.out.bel
/-- what Extract answers -/
def extL (l : List Int) (num den : Int) (size step : Nat) (win : Int) (pts : Nat) (edges : List Int) (ce : Nat) (diff cen : Bool) : List (List Int) :=
  (fun v => if cen then cenL v else v) (if diff then difL (rawV l num den size step win pts edges ce) else rawV l num den size step win pts edges ce)
set_option maxRecDepth 100000 in
set_option maxHeartbeats 8000000 in
theorem Extract_ok (rate : Int) (A : Option Addr) (c : Nat) (l : List Int) (num den : Int) (size step : Nat) (win : Int) (pts : Nat) (E : Option Addr) (ec : Nat) (edges : List Int) (ce : Nat) (diff cen : Bool) (w : World) (hC : CosOk w) (h : Lies w A (ics l)) (hA : A = none → c = 0 ∧ l = []) (hn : l.length ≤ 400)
    (hE : Lies w E (ics edges)) (hb : Hid (decide (chk rate l = 0) = true)) (hr : Hid (RcpOk ⟨num, den, size, step, win, pts, E, ec, edges, ce, diff, cen⟩)) (out : List (List Int)) (ho : Hid (extL l num den size step win pts edges ce diff cen = out)) :
    Calls Tryd.prog 8 #[recV rate A l.length c, .agg #[.int .i64 num, .int .i64 den, .int .i64 size, .int .i64 step, .int .i64 win, .int .i64 pts, .slice E edges.length ec, .int .i64 ce, .bool diff, .bool cen]] w (LLErr 0 out w) := by
  obtain ⟨i0, hi0, hz0, hz1, hz2⟩ := info_parts info_ints
  have TI := Lib.hid hi0; have TZ0 := Lib.hid hz0; have TZ1 := Lib.hid hz1; have TZ2 := Lib.hid hz2
  clear hi0 hz0 hz1 hz2
  have hch := chk_ok.1 (of_decide_eq_true hb.out)
  have hsm : allR (-32768) 32767 l = true := hch.2.2.2
  obtain ⟨n0, n1, d0, d1, p0, p1, s0, s1, t0, t1, k0, k1, e0, e1, c0, c1⟩ := hr.out
  simp only [Int.toNat_natCast] at n0 n1 d0 d1 p0 p1 s0 s1 t0 t1 k0 k1 e0 e1 c0 c1
  have HED := Lib.hid (edg_of e1)
  have he2 := HED.out.two
  have hpt := lenOk_bd p1
  have hpts : (pts : Int) ≤ 64 := by omega
  have s0' : 1 ≤ size := by omega
  have s1' : size ≤ pts := by omega
  have t0' : 1 ≤ step := by omega
  have t1' : step ≤ 4096 := by omega
  have hce : ce ≤ fit (edges.length - 1) := by omega
  have hem := emp_bd hsm n0 n1 d0
  have hel : (emp l num den).length = l.length := emp_length l num den
  have HEM : Hid (empR l num den = (0, emp l num den)) := Lib.hid (by
    unfold empR
    rw [if_pos (rchk_ok.2 ⟨⟨by omega, allR_mono hsm (by omega) (by omega)⟩, n0, n1, d0, d1⟩), if_pos (vchk_ok.2 ⟨by omega, allR_mono hem (by omega) (by omega)⟩)])
  have HRV := Lib.hid (rawV_vec (size := size) (step := step) (win := win) hsm n0 n1 d0 p1 s0' s1' t0' e0 he2 hce (by omega) diff)
  have HPO := Lib.hid p1
  have HCE := Lib.hid hce
  have D0 := Lib.hid (RcBox.new w rate A l.length c ⟨num, den, size, step, win, pts, E, ec, edges, ce, diff, cen⟩)
  have HO := ho
  unfold extL rawV at HO
  unfold rawV at HRV
  clear ho hch hsm e1 p1 n0 n1 d0 d1 c0 c1 p0 s0 s1 t0 t1 hce
  go_enter Tryd.func8, Tryd.ntmps8
  go_wp2_with fail
  refine (wValid_any rate A c l _ ((h.alloc _).alloc _) (by omega) true hb).mono ?_
  rintro e w1 ⟨rfl, hb1⟩
  have D1 := Lib.hid (D0.out.below hb1)
  obtain ⟨q0, q1, q2, q3, q4, q5, q6, q7, q8, q9⟩ := rcp_cells D1.out.rcp
  clear hb1 D0
  go_wp2_with fail
  refine (fValid_any ⟨num, den, size, step, win, pts, E, ec, edges, ce, diff, cen⟩ _ (hE.below D1.out.bel) (by simp only; omega) (by simp only; omega) true (Lib.hid (Iff.intro (fun _ => hr.out) (fun _ => rfl)))).mono ?_
  rintro e w2 ⟨rfl, hb2⟩
  have D2 := Lib.hid (D1.out.below hb2)
  clear hb2 D1 q0 q1 q2 q3 q4 q5 q6 q7 q8 q9 hr
  obtain ⟨r0, r1⟩ := rec_cells D2.out.rec_
  obtain ⟨q0, q1, q2, q3, q4, q5, q6, q7, q8, q9⟩ := rcp_cells D2.out.rcp
  go_wp2_with fail
  refine (Emphasize_any A c l num den w2 (h.below D2.out.bel) hA (by omega) 0 (emp l num den) HEM).mono ?_
  rintro e w3 ⟨A3, c3, rfl, ho3, hb3⟩
  have D3 := Lib.hid (D2.out.below hb3)
  generalize emp l num den = x at *
  have HX := Lib.hid ho3
  have hxl : x.length ≤ 400 := by omega
  clear hb3 ho3 D2 r0 r1 q0 q1 q2 q3 q4 q5 q6 q7 q8 q9 hel HEM
  obtain ⟨q0, q1, q2, q3, q4, q5, q6, q7, q8, q9⟩ := rcp_cells D3.out.rcp
  obtain ⟨N, hN⟩ : ∃ N, frN x.length size step false = N := ⟨_, rfl⟩
  obtain ⟨_, z2, z3⟩ := frN_eqs (n := x.length) (pad := false) t0' hN
  have hNle := frN_le (n := x.length) (pad := false) s0' t0'
  rw [hN] at hNle
  have HN := Lib.hid hN
  have hmul := Nat.mul_le_mul (Nat.le_trans hNle hxl) (show size ≤ 64 by omega)
  have HFRM : Hid (frmR x size step false = (0, frs x size step false)) := Lib.hid (by
    unfold frmR
    rw [if_pos (vchk_ok.2 ⟨by omega, allR_mono hem (by omega) (by omega)⟩), if_pos (by omega), Int.toNat_natCast, Int.toNat_natCast, if_neg (by rw [hN]; omega)])
  have HFA := Lib.hid (fun k => frA_all hem (by omega) (by omega) size k)
  have hxb : Hid (∀ y ∈ x, -9223372036854775808 ≤ y ∧ y ≤ 9223372036854775807) := Lib.hid (fun y hy => by have := allR_mem hem hy; omega)
  clear hN hmul hem
  have key : (size ≤ x.length ∧ ((x.length : Int) - size) / step + 1 = (N : Int)) ∨ (¬ size ≤ x.length ∧ N = 0) := by
    by_cases hs : size ≤ x.length
    · exact .inl ⟨hs, z2 rfl hs⟩
    · exact .inr ⟨hs, z3 rfl hs⟩
  clear z2 z3
  rcases key with ⟨hsz, hqq⟩ | ⟨hsz, hqq⟩
  all_goals
    go_wp2_with fail
    refine (Frames_any A3 c3 x size step false w3 (Lies.of_own HX.out) (own_cap HX.out) (by omega) hxb.out 0 _ HFRM).mono ?_
    rintro e w4 ⟨A4, c4, L4, rfl, v4, o4, b4⟩
    have D4 := Lib.hid (D3.out.below b4)
    have V4 := Lib.hid v4.out
    have O4 := Lib.hid o4
    have HL4 : Hid (L4.length = N) := Lib.hid (by have := congrArg List.length V4.out; rw [frs_length, HN.out] at this; simpa using this)
    have hL4 : L4.length ≤ 400 := by rw [HL4.out]; omega
    clear v4 o4 b4 q0 q1 q2 q3 q4 q5 q6 q7 q8 q9
    obtain ⟨q0, q1, q2, q3, q4, q5, q6, q7, q8, q9⟩ := rcp_cells D4.out.rcp
    go_wp2_with fail
    clear q0 q1 q2 q3 q4 q5 q6 q7 q8 q9
    have HCK : Hid (CookAt (w4.alloc (.cells #[.int .i64 num, .int .i64 den, .int .i64 size, .int .i64 step, .int .i64 win, .int .i64 pts, .slice E edges.length ec, .int .i64 ce, .bool diff, .bool cen] 56)) w4.heap.size ⟨num, den, size, step, win, pts, E, ec, edges, ce, diff, cen⟩) := Lib.hid (heap_alloc_new _ _)
    have HB5 : Hid (Below w4.heap.size w4 (w4.alloc (.cells #[.int .i64 num, .int .i64 den, .int .i64 size, .int .i64 step, .int .i64 win, .int .i64 pts, .slice E edges.length ec, .int .i64 ce, .bool diff, .bool cen] 56))) := Lib.hid ((Below.refl _ _).alloc (Nat.le_refl _) _)
    generalize (w4.alloc (.cells #[.int .i64 num, .int .i64 den, .int .i64 size, .int .i64 step, .int .i64 win, .int .i64 pts, .slice E edges.length ec, .int .i64 ce, .bool diff, .bool cen] 56)) = W5 at *
    obtain ⟨p, hp⟩ : ∃ p, p = w4.heap.size := ⟨_, rfl⟩
    rw [← hp] at HCK ⊢
    have HO5 := Lib.hid (O4.out.below HB5.out)
    have HB05 := Lib.hid (D4.out.bel.trans (HB5.out.mono D4.out.bel.size))
    have hC5 := Lib.hid (hC.below HB05.out)
    have hE5 := Lib.hid (hE.below HB05.out)
    clear hp HB5 O4 D4 D3 HX
    go_loopw [11, 13, 70] (fun v _ i wr => ∃ k : Nat, k ≤ L4.length ∧ i = .int .i64 k ∧ ∃ A' c' L', v = .slice A' k c' ∧ (L' : List Inn).length = k ∧ vsOf L' = (List.range k).map (fun j => vecF win pts edges ce (frA x size (j * step))) ∧ LLo wr W5.heap.size A' c' L' ∧ Below W5.heap.size W5 wr) (fun _ _ i _ => L4.length - (intOf i).toNat)
    case atStart => exact ⟨0, Nat.zero_le _, rfl, none, 0, [], rfl, rfl, rfl, LLo.nil _ _, Below.refl _ _⟩
    case round =>
      obtain ⟨k, hk, rfl, A', c', L', rfl, hLk, hvs, hLL, hbel⟩ := hrel
      have HLK := Lib.hid hLk
      have HVS := Lib.hid hvs
      have HLL := Lib.hid hLL
      have HBE := Lib.hid hbel
      have HROW := HLL.out.row
      rw [HLK.out] at HROW
      have HRO := Lib.hid HROW
      clear hLk hvs hLL hbel HROW
      by_cases hlt : k < L4.length
      · obtain ⟨b, off, rfl, hbl, hcl⟩ := (HO5.out.below HBE.out).lies.lat hlt
        have hin := ((HO5.out.below HBE.out).inn L4[k] (List.getElem_mem hlt)).1
        have hyv : L4[k].2.2 = frA x size (k * step) := by
          have h2 : (vsOf L4)[k]? = some L4[k].2.2 := by rw [List.getElem?_map, List.getElem?_eq_getElem hlt]; rfl
          rw [V4.out, frs, List.getElem?_map, List.getElem?_range (by rw [HN.out, ← HL4.out]; exact hlt)] at h2
          simpa using h2.symm
        generalize L4[k] = y at *
        obtain ⟨ya, yc, yl⟩ := y
        simp only at hyv hcl
        have hyl1 : 1 ≤ yl.length := by rw [hyv, frA_length]; exact s0'
        have hyl2 : yl.length ≤ pts := by rw [hyv, frA_length]; exact s1'
        have HYA : Hid (allR (-65536) 65535 yl = true) := Lib.hid (by rw [hyv]; exact HFA.out _)
        have HYV := Lib.hid hyv
        have HIN := Lib.hid hin.1
        have HCW := Lib.hid (hC5.out.below HBE.out)
        have HEW := Lib.hid (hE5.out.below HBE.out)
        have HKW : Hid (CookAt wr p ⟨num, den, size, step, win, pts, E, ec, edges, ce, diff, cen⟩) := Lib.hid ((HBE.out.block _ (Array.getElem?_eq_some_iff.1 HCK.out).1).trans HCK.out)
        have HVO := Lib.hid (vecF_ok (win := win) HYA.out HPO.out hyl2 e0 HCE.out)
        have hvn := vlen_bd he2 e0 HCE.out
        clear hyv hin
        go_wp2_with (first
          | (go_at_call 26; refine (vector_any num den size step win pts E ec edges ce diff cen p ya yc yl wr HCW.out HKW.out HEW.out HIN.out k0 k1 HPO.out hyl1 hyl2 HED e0 HCE HYA).mono ?_; rintro e w6 ⟨A8, c8, rfl, t1, t2, t3, t4, t5⟩; have HR6 := Lib.hid (own_below HRO.out t5); have HL6 := Lib.hid (HLL.out.below t5); have HB6 := Lib.hid (HBE.out.trans (t5.mono HBE.out.size)); have T1 := Lib.hid t1; have T2 := Lib.hid t2; have T3 := Lib.hid t3; have T4 := Lib.hid t4; clear t1 t2 t3 t4 t5)
          | (at_builtin; refine wpList_append_srcG _ rfl (.tmp 74) (.tmp 78) _ rfl W5.heap.size 22 i0 _ 1 24 Tryd.underlying32 TI.out TZ0.out TZ1.out TZ2.out rfl (by omega) (.slice A' k c') k (lcs L') rfl (HR6.out.alloc _) (some ⟨w6.heap.size, 0, none⟩) 1 1 [Value.slice A8 (vecF win pts edges ce yl).length c8] rfl (fun e => by cases e) (lies_new _ _ _) (by simp) (by simp [Value.oneCell']) (by unfold maxLen; omega) (by omega) (by have := HB6.out.size; simp; omega) (k + 1) rfl ?_; intro A9 c9 w9 ho9 hg9 _))
        have h8 : A8 ≠ none := fun e => by
          have h1 := T1.out
          rw [e] at h1
          obtain ⟨b', off', e', _⟩ := h1 (by rw [List.length_map]; have := HVO.out.1; omega)
          exact absurd e' (by simp)
        have HIT : Hid (InT w6 (A8, c8, vecF win pts edges ce yl)) := Lib.hid ⟨⟨T1.out, fun e => absurd e h8, by have := HVO.out.1; show (vecF win pts edges ce yl).length ≤ _; omega, T2.out, fun y hy => by have := allR_mem HVO.out.2 hy; omega⟩, fun b' off' e => T4.out b' off' e⟩
        have hsn : LLo w9 W5.heap.size A9 c9 (L' ++ [(A8, c8, vecF win pts edges ce yl)]) := by
          refine LLo.snoc (HL6.out.below ((Below.refl _ _).alloc (Nat.le_refl _) _)) (HIT.out.below ((Below.refl _ _).alloc (Nat.le_refl _) _)) hg9 ?_
          have h1 := ho9
          rw [← HLK.out] at h1
          exact h1
        have hbel : Below W5.heap.size W5 w9 := (HB6.out.alloc HB6.out.size _).grown hg9 (by have := HB6.out.size; simp; omega) (fun q hq => (HR6.out.lt q hq).1)
        exact ⟨⟨k + 1, by omega, by go_num, A9, c9, _, rfl, by simp [HLK.out], by rw [List.range_succ, List.map_append, ← HVS.out, HYV.out]; simp, hsn, hbel⟩, by simp [intOf]; omega⟩
      · obtain rfl : k = L4.length := by omega
        have HRAW : Hid (vsOf L' = (frs x size step false).map (vecF win pts edges ce)) := Lib.hid (by rw [HVS.out, HL4.out, frs, HN.out, List.map_map]; rfl)
        have HLE : Hid (L'.length = L4.length) := HLK
        clear HVS HLK HRO HFA V4 HO5 hxb HFRM
        go_wp2_with fail
        have HK7 : Hid (CookAt (wr.alloc (.cells #[.func (.func 27) #[.pointer (some ⟨p, 0, none⟩)] #[], .func (.func 28) #[.pointer (some ⟨p, 0, none⟩)] #[]] 58)) p ⟨num, den, size, step, win, pts, E, ec, edges, ce, diff, cen⟩) := Lib.hid (((HBE.out.alloc HBE.out.size _).block _ (Array.getElem?_eq_some_iff.1 HCK.out).1).trans HCK.out)
        have HR7 : Hid ((wr.alloc (.cells #[.func (.func 27) #[.pointer (some ⟨p, 0, none⟩)] #[], .func (.func 28) #[.pointer (some ⟨p, 0, none⟩)] #[]] 58)).heap[wr.heap.size]? = some (.cells #[.func (.func 27) #[.pointer (some ⟨p, 0, none⟩)] #[], .func (.func 28) #[.pointer (some ⟨p, 0, none⟩)] #[]] 58 (0, 0))) := Lib.hid (heap_alloc_new _ _)
        have HL7 := Lib.hid (HLL.out.below ((Below.refl wr.heap.size wr).alloc (Nat.le_refl _) (.cells #[.func (.func 27) #[.pointer (some ⟨p, 0, none⟩)] #[], .func (.func 28) #[.pointer (some ⟨p, 0, none⟩)] #[]] 58)))
        have HB7 := Lib.hid (HBE.out.alloc HBE.out.size (.cells #[.func (.func 27) #[.pointer (some ⟨p, 0, none⟩)] #[], .func (.func 28) #[.pointer (some ⟨p, 0, none⟩)] #[]] 58))
        generalize (wr.alloc (.cells #[.func (.func 27) #[.pointer (some ⟨p, 0, none⟩)] #[], .func (.func 28) #[.pointer (some ⟨p, 0, none⟩)] #[]] 58)) = W7 at *
        obtain ⟨g7, hg7⟩ : ∃ g, g = wr.heap.size := ⟨_, rfl⟩
        rw [← hg7] at HR7 ⊢
        clear hg7 HLL HBE
        obtain ⟨R, hR⟩ : ∃ R, R = (frs x size step false).map (vecF win pts edges ce) := ⟨_, rfl⟩
        rw [← hR] at HRAW HRV HO
        have hg7 : g7 < W7.heap.size := (Array.getElem?_eq_some_iff.1 HR7.out).1
        have hp7 : p < W7.heap.size := (Array.getElem?_eq_some_iff.1 HK7.out).1
        have HC0 : Hid (W7.cell? ⟨g7, 0, none⟩ = some (.func (.func 27) #[.pointer (some ⟨p, 0, none⟩)] #[])) := Lib.hid (by rw [cell_of_row W7 _ 0 _ _ _ HR7.out]; rfl)
        have HC1 : Hid (W7.cell? ⟨g7, 1, none⟩ = some (.func (.func 28) #[.pointer (some ⟨p, 0, none⟩)] #[])) := Lib.hid (by rw [cell_of_row W7 _ 1 _ _ _ HR7.out]; rfl)
        clear hR
        rw [← HLE.out]
        clear hL4 HL4 HLE hk hlt
        go_loopw [11, 15, 87] (fun v _ i w9 => ∃ k : Nat, k ≤ 2 ∧ i = .int .i64 k ∧ ∃ A2 c2 L2, v = .slice A2 (L2 : List Inn).length c2 ∧ Hid (vsOf L2 = if k = 0 then R else if k = 1 then (if diff then difL R else R) else out) ∧ LLo w9 W5.heap.size A2 c2 L2 ∧ Below W7.heap.size W7 w9) (fun _ _ i _ => 2 - (intOf i).toNat)
        case atStart => exact ⟨0, by omega, rfl, A', c', L', rfl, Lib.hid (by rw [if_pos rfl]; exact HRAW.out), HL7.out, Below.refl _ _⟩
        case round =>
          obtain ⟨k, hk, rfl, A2, c2, L2, rfl, hs2, hl2, hb2⟩ := hrel
          have HS2 := Lib.hid hs2.out
          have HL2 := Lib.hid hl2
          have HB2 := Lib.hid hb2
          have hbs : W5.heap.size ≤ wr.heap.size := Nat.le_trans HB7.out.size hb2.size
          have HK2 : Hid (CookAt wr p ⟨num, den, size, step, win, pts, E, ec, edges, ce, diff, cen⟩) := Lib.hid ((hb2.block _ hp7).trans HK7.out)
          have z0 := (hb2.cell (p := ⟨g7, 0, none⟩) hg7).trans HC0.out
          have z1 := (hb2.cell (p := ⟨g7, 1, none⟩) hg7).trans HC1.out
          clear hs2 hl2 hb2 HL7 HRAW
          have hk3 : k = 0 ∨ k = 1 ∨ k = 2 := by omega
          clear hk
          rcases hk3 with rfl | rfl | rfl
          · rw [if_pos rfl] at HS2
            go_wp2_with (go_at_call 27; refine (differ_any num den size step win pts E ec edges ce diff cen p A2 c2 L2 wr W5.heap.size hbs HK2.out HL2.out (Lib.hid (by rw [HS2.out]; exact HRV.out.1))).mono ?_; rintro e w8 ⟨A8, c8, L8, rfl, v8, o8, b8⟩; have V8 := Lib.hid v8.out; have O8 := Lib.hid o8; have B8 := Lib.hid (HB2.out.trans (b8.mono HB2.out.size)); clear v8 o8 b8)
            exact ⟨⟨1, by omega, by go_num, A8, c8, L8, rfl, Lib.hid (by rw [if_neg (by omega), if_pos rfl, V8.out, HS2.out]), O8.out, B8.out⟩, by simp [intOf]⟩
          · rw [if_neg (by omega), if_pos rfl] at HS2
            go_wp2_with (go_at_call 28; refine (middle_any num den size step win pts E ec edges ce diff cen p A2 c2 L2 wr W5.heap.size hbs HK2.out HL2.out (Lib.hid (by rw [HS2.out]; exact HRV.out.2))).mono ?_; rintro e w8 ⟨A8, c8, L8, rfl, v8, o8, b8⟩; have V8 := Lib.hid v8.out; have O8 := Lib.hid o8; have B8 := Lib.hid (HB2.out.trans (b8.mono HB2.out.size)); clear v8 o8 b8)
            exact ⟨⟨2, by omega, by go_num, A8, c8, L8, rfl, Lib.hid (by rw [if_neg (by omega), if_neg (by omega), V8.out, HS2.out]; exact HO.out), O8.out, B8.out⟩, by simp [intOf]⟩
          · rw [if_neg (by omega), if_neg (by omega)] at HS2
            go_wp2_with fail
            go_ret2
            exact ⟨A2, c2, L2, rfl, HS2, HL2.out.le HB05.out.size, HB05.out.trans ((HB7.out.trans (HB2.out.mono HB7.out.size)).mono HB05.out.size)⟩
end Go.Proofs.YtnflpnbpigcfhabDoor
