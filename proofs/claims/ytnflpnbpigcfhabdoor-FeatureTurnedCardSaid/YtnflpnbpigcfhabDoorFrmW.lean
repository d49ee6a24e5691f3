/- wave.Frames -/
import Derived.Test.YtnflpnbpigcfhabDoorCutG
import Derived.Test.YtnflpnbpigcfhabDoorFrmP
import Derived.RangeFuncBox
import Derived.Maps.OwnIn
namespace Go.Proofs.YtnflpnbpigcfhabDoor
open Go.RowKit Ear
attribute [local go_sem] Oper.semAt_some

theorem Lies.put {w : World} {A : Option Addr} {xs : List Value} (h : Lies w A xs) {l : Nat} {o : Obj} (o' : Obj) (hl : w.heap[l]? = some o) (ho : o.isCells = false) : Lies (w.putObj l o') A xs := fun h0 => by
  obtain ⟨b, off, e, hlt, hc⟩ := h h0
  exact ⟨b, off, e, by simpa using hlt, fun k u hu => cell_kept (hc k u hu) (grownBy_putObj' w l o') (fun r e => by cases e; exact ⟨_, hl, ho⟩)⟩
theorem InT.put {w : World} {x : Inn} (h : InT w x) {l : Nat} {o : Obj} (o' : Obj) (hl : w.heap[l]? = some o) (ho : o.isCells = false) : InT (w.putObj l o') x :=
  h.block (by simp) fun b hb => World.putObj_heap_other (by
    rintro rfl
    obtain ⟨cur, fr, hb⟩ := hb
    rw [hb] at hl
    injection hl with hl
    subst hl
    cases ho)
theorem LLo.putO {w : World} {base c : Nat} {A : Option Addr} {L : List Inn} (h : LLo w base A c L) {l : Nat} {o : Obj} (o' : Obj) (hl : w.heap[l]? = some o) (ho : o.isCells = false) : LLo (w.putObj l o') base A c L :=
  ⟨ownsRow_putObj h.row o' hl ho, fun x hx => (h.inn x hx).put o' hl ho⟩
theorem below_putO {B : Nat} {w0 w : World} (h : Below B w0 w) {l : Nat} (o : Obj) (hl : B ≤ l) : Below B w0 (w.putObj l o) :=
  ⟨h.os, h.tape, h.output, by simpa using h.size, fun k hk => (World.putObj_heap_other (by omega)).trans (h.block k hk)⟩
/-- k frames have come -/
def FrI (w0 : World) (Bo n0 : Nat) (x : List Int) (size step k : Nat) (W : World) : Prop :=
  ∃ A c L, W.heap[Bo]? = some (.cells #[.slice A k c] 32 (0, 0)) ∧ LLo W n0 A c L ∧ L.length = k ∧ vsOf L = (List.range k).map (fun j => frA x size (j * step)) ∧ Below w0.heap.size w0 W
theorem FrI.below {w0 : World} {Bo n0 : Nat} {x : List Int} {size step k : Nat} {W W' : World} (h : FrI w0 Bo n0 x size step k W) (hb : Below W.heap.size W W') : FrI w0 Bo n0 x size step k W' := by
  obtain ⟨A, c, L, h1, h2, h3, h4, h5⟩ := h
  exact ⟨A, c, L, (hb.block Bo (Array.getElem?_eq_some_iff.1 h1).1).trans h1, h2.below hb, h3, h4, h5.trans (hb.mono h5.size)⟩
theorem FrI.put {w0 : World} {Bo n0 : Nat} {x : List Int} {size step k : Nat} {W : World} (h : FrI w0 Bo n0 x size step k W) {l : Nat} {o : Obj} (o' : Obj) (h0 : w0.heap.size ≤ l) (hB : Bo < l) (hl : W.heap[l]? = some o) (ho : o.isCells = false) : FrI w0 Bo n0 x size step k (W.putObj l o') := by
  obtain ⟨A, c, L, h1, h2, h3, h4, h5⟩ := h
  exact ⟨A, c, L, (World.putObj_heap_other (by omega)).trans h1, h2.putO o' hl ho, h3, h4, below_putO h5 o' h0⟩
set_option maxRecDepth 100000 in
set_option maxHeartbeats 4000000 in
theorem Frames_ok (A : Option Addr) (c : Nat) (x : List Int) (size step : Nat) (pad : Bool) (w : World) (h : Lies w A (ics x)) (hxc : x.length ≤ c) (hv : Hid (vchk x = 0)) (hx : x.length ≤ 200000)
    (hB : Hid (∀ y ∈ x, -9223372036854775808 ≤ y ∧ y ≤ 9223372036854775807)) (hs1 : 1 ≤ size) (hs2 : size ≤ 4096) (ht1 : 1 ≤ step) (ht2 : step ≤ 4096) (N : Nat) (hN : Hid (frN x.length size step pad = N)) (hNs : N * size ≤ 4000000) (hNx : N ≤ 200000)
    (hq : Hid (pad = true → ((x.length : Int) + step - 1) / step = N)) (hq2 : Hid (pad = false → size ≤ x.length → ((x.length : Int) - size) / step + 1 = N)) (hq3 : Hid (pad = false → ¬ size ≤ x.length → N = 0)) :
    Calls Tryd.prog 25 #[.slice A x.length c, .int .i64 size, .int .i64 step, .bool pad] w (LLErr 0 (frs x size step pad) w) := by
  obtain ⟨i0, hi0, hz0, hz1, hz2⟩ := info_parts info_ints
  have TI := Lib.hid hi0; have TZ0 := Lib.hid hz0; have TZ1 := Lib.hid hz1; have TZ2 := Lib.hid hz2
  clear hi0 hz0 hz1 hz2
  have HVA := Lib.hid (fun W (hW : Lies W A (ics x)) => (callsIn_wide (n := 8)).2 (values_any A c x W hW (by omega) 0 hv))
  refine (callsIn_wide (n := 9)).1 ?_
  refine callsIn_of_wp_marks Tryd.func25 rfl trivial ?_ rfl
  simp only [Tryd.ntmps25, List.size_toArray, List.length_cons, List.length_nil, Nat.reduceAdd, Nat.reduceSub, Array.replicate_succ, Array.replicate_zero, List.push_toArray, List.append_toArray, List.nil_append, List.cons_append]
  have hNs' : ((N * size : Nat) : Int) ≤ 4000000 := by omega
  rw [Int.natCast_mul] at hNs'
  have hNs0 : (0 : Int) ≤ (N : Int) * size := Int.mul_nonneg (by omega) (by omega)
  have key : pad = true ∨ (pad = false ∧ size ≤ x.length) ∨ (pad = false ∧ ¬ size ≤ x.length) := by cases pad <;> simp <;> omega
  have HCUT := Lib.hid (fun W => (callsIn_wide (n := 8)).2 (cut_any A x.length c size step pad W))
  rcases key with rfl | ⟨rfl, hle⟩ | ⟨rfl, hle⟩
  · have hqq := hq.out rfl
    gi_wp2_with (first | (refine ⟨trivial, ?_⟩; gi_at_call 47; refine (HVA.out _ h).mono ?_; rintro e w' ⟨rfl, rfl⟩) | (refine ⟨trivial, ?_⟩; gi_at_call 48; refine (HCUT.out _).mono ?_; rintro e w' ⟨rfl, rfl⟩))
    obtain ⟨V, hV⟩ : ∃ V : World, V = ((((w.alloc (.cells #[.slice none 0 0] 32)).alloc (.cells #[.slice A x.length c] 22)).alloc (.cells #[.int .i64 size] 3)).alloc (.cells #[.int .i64 step] 3)).alloc (.cells #[.bool true] 4) := ⟨_, rfl⟩
    rw [← hV]
    have hVs : V.heap.size = w.heap.size + 5 := by rw [hV]; simp
    have HVB : Hid (Below w.heap.size w V) := Lib.hid (by rw [hV]; exact ((((((Below.refl _ w).alloc (Nat.le_refl _) _).alloc (by simp) _).alloc (by simp; omega) _).alloc (by simp; omega) _).alloc (by simp; omega) _))
    have HVO : Hid (V.heap[w.heap.size]? = some (.cells #[.slice none 0 0] 32 (0, 0))) := Lib.hid (by
      have h1 : Below (w.alloc (.cells #[.slice none 0 0] 32)).heap.size (w.alloc (.cells #[.slice none 0 0] 32)) V := by rw [hV]; exact (((((Below.refl _ _).alloc (Nat.le_refl _) _).alloc (by simp) _).alloc (by simp <;> omega) _).alloc (by simp <;> omega) _)
      exact (h1.block w.heap.size (by simp)).trans (heap_alloc_new w _))
    have HVX : Hid (V.cell? ⟨w.heap.size + 1, 0, none⟩ = some (.slice A x.length c) ∧ V.cell? ⟨w.heap.size + 1 + 1, 0, none⟩ = some (.int .i64 size) ∧ V.cell? ⟨w.heap.size + 1 + 1 + 1, 0, none⟩ = some (.int .i64 step) ∧ V.cell? ⟨w.heap.size + 1 + 1 + 1 + 1, 0, none⟩ = some (.bool true)) := Lib.hid (by rw [hV]; simp [go_sem])
    clear hV
    refine wpIn_ran2 (w := V) rfl (by decide) (gf := 65) (lb := #[.pointer (some ⟨w.heap.size + 1 + 1, 0, none⟩), .pointer (some ⟨w.heap.size + 1, 0, none⟩), .pointer (some ⟨w.heap.size + 1 + 1 + 1 + 1, 0, none⟩), .pointer (some ⟨w.heap.size + 1 + 1 + 1, 0, none⟩)]) rfl trivial (enters_of Tryd.func65 (by kernel_rfl) rfl)
      N (FrI w w.heap.size V.heap.size x size step) (fun k v W => FrX V.heap.size x size step k v W) (KpB V.heap.size w.heap.size) (fun h k => KpB.trans h k) ?hKb rfl ?hIb ?hIp ?hXp ?h0 ?hseq ?hround ?hdone
    case hKb => exact fun W l o o' hl _ _ => ⟨by simp, fun b hb hne => World.putObj_heap_other (by omega)⟩
    case hIb => exact fun k W W' hi _ hb => hi.below hb
    case hIp => exact fun k W l o o' hl ho hc hi => hi.put o' (by omega) (by omega) ho hc
    case hXp =>
      rintro k v W l o o' hl ho hc ⟨g, rfl, hw⟩
      exact ⟨g, rfl, ownsRow_putObj hw o' ho hc⟩
    case h0 => exact ⟨none, 0, [], HVO.out, LLo.nil _ _, rfl, rfl, HVB.out⟩
    case hseq =>
      intro l J W hW hJb hJ0 hY
      have hc := fun b o (hb : b < V.heap.size) => hW.cell (p := ⟨b, o, none⟩) hb
      have h2 := cut1_in Fence.wide 8 trivial rfl (by decide) l (w.heap.size + 1) (w.heap.size + 1 + 1) (w.heap.size + 1 + 1 + 1 + 1) (w.heap.size + 1 + 1 + 1) V.heap.size w.heap.size A c x size step true hs1 hs2 ht1 ht2 hx hxc
        ⟨by omega, by omega⟩ ⟨by omega, by omega⟩ ⟨by omega, by omega⟩ ⟨by omega, by omega⟩ (Lib.hid (fun h0 b off e => by obtain ⟨b', off', e', hlt, _⟩ := h h0; rw [e'] at e; cases e; omega)) J hJb
        (Lib.hid (fun k v W hj hx hk => hY k v W hj hx (by rw [hN.out] at hk; exact hk))) W hW.size
        ((hc _ _ (by omega)).trans HVX.out.1) ((hc _ _ (by omega)).trans HVX.out.2.1) ((hc _ _ (by omega)).trans HVX.out.2.2.2) ((hc _ _ (by omega)).trans HVX.out.2.2.1)
        ((h.below HVB.out).below hW) hJ0
      rw [hN.out] at h2
      exact h2
    case hround =>
      rintro l k v W W2 ⟨A', c', L, hbo, hLL, hLk, hvs, hbel⟩ ⟨g, rfl, hgo⟩ hkN
      have hbc : W2.cell? ⟨w.heap.size, 0, none⟩ = some (.slice A' k c') := by rw [cell_of_row W2 _ 0 _ _ _ hbo]; rfl
      have hbf : W2.frozen? ⟨w.heap.size, 0, none⟩ = false := by simp [World.frozen?, hbo]
      have HBO := Lib.hid hbo
      have HLL := Lib.hid hLL
      have HLK := Lib.hid hLk
      have HVS := Lib.hid hvs
      have HBE := Lib.hid hbel
      have HGO := Lib.hid hgo
      have hrow := hLL.row
      rw [hLk] at hrow
      have HROW := Lib.hid hrow
      have hV2 : V.heap.size ≤ W2.heap.size := by
        have h1 := (hgo.lt g rfl).1
        have h2 := (hgo.lt g rfl).2
        omega
      clear hbo hLL hLk hvs hbel hgo hrow
      gi_wp2
      refine ⟨by trivial, ?_⟩
      gi_wp2_with (gi_at_builtin; refine wpListIn_append_own_at _ rfl (.tmp 62) (.tmp 64) _ rfl V.heap.size 22 i0 _ 1 24 Tryd.underlying32 TI.out TZ0.out TZ1.out TZ2.out rfl (by omega) (.slice A' k c') k (lcs L) rfl (HROW.out.alloc _) ⟨W2.heap.size, 0, none⟩ 1 1 [.slice (some ⟨g, 0, none⟩) size size] rfl (by simp) (cell_one_new _ _ _) (by simp [Value.oneCell']) (by unfold maxLen; omega) (by omega) (by simp; omega) ?_; intro v' w4 ho4 hg4 _ _; obtain ⟨A4, c4, rfl⟩ := own_slice ho4; have HO4 := Lib.hid ho4; have HG4 := Lib.hid hg4; have hbo4 : w4.heap[w.heap.size]? = some (.cells #[.slice A' k c'] 32 (0, 0)) := (hg4.block w.heap.size (by simp; omega) (fun e => by have := (HROW.out.alloc (.cells #[.slice (some ⟨g, 0, none⟩) size size] 22)).lt w.heap.size e.symm; omega)).trans ((Below.heap_alloc W2 _ w.heap.size (by omega)).trans HBO.out); have hbc4 : w4.cell? ⟨w.heap.size, 0, none⟩ = some (.slice A' k c') := (by rw [cell_of_row w4 _ 0 _ _ _ hbo4]; rfl); have hbf4 : w4.frozen? ⟨w.heap.size, 0, none⟩ = false := (by simp [World.frozen?, hbo4]); have HBO4 := Lib.hid hbo4; clear ho4 hg4 hbo4)
      have hbt : BT w4 w.heap.size 32 := ⟨_, _, HBO4.out⟩
      have hws : w.heap.size < V.heap.size := by omega
      have hin : InT W2 (some ⟨g, 0, none⟩, size, frA x size (k * step)) := by
        have e := frA_length x size (k * step)
        have := InT.of_own HGO.out e.symm (by omega) (frA_rng hB.out size (k * step))
        exact this
      have hLa : LLo (W2.alloc (.cells #[.slice (some ⟨g, 0, none⟩) size size] 22)) V.heap.size A' c' L := HLL.out.below ((Below.refl _ _).alloc (Nat.le_refl _) _)
      have hsn : LLo w4 V.heap.size A4 c4 (L ++ [(some ⟨g, 0, none⟩, size, frA x size (k * step))]) := by
        refine hLa.snoc (hin.below ((Below.refl _ _).alloc (Nat.le_refl _) _)) HG4.out ?_
        have h1 := HO4.out
        rw [← HLK.out] at h1
        simpa [frA_length] using h1
      refine ⟨((KeepsOthers.alloc W2 _).trans ((KeepsOthers.of_grownBy HG4.out (fun j o e ho => ?_)).trans (KeepsOthers.setCell _ _ _))).from _, ⟨?_, fun b hb hne => ?_⟩, A4, c4, L ++ [(some ⟨g, 0, none⟩, size, frA x size (k * step))], one_setCell HBO4.out, ⟨?_, fun y hy => ?_⟩, by simp [HLK.out], ?_, ?_⟩
      · obtain ⟨cur, fr, h1⟩ := BT.of_own (HROW.out.alloc (.cells #[.slice (some ⟨g, 0, none⟩) size size] 22)) e
        rw [h1] at ho
        injection ho with ho
        subst ho
        rfl
      · have := HG4.out.size
        simp at this ⊢
        omega
      · refine (Below.heap_setCell _ _ _ b hne).trans ((HG4.out.block b (by simp; omega) (fun e => ?_)).trans (Below.heap_alloc W2 _ b (by omega)))
        have := (HROW.out.alloc (.cells #[.slice (some ⟨g, 0, none⟩) size size] 22)).lt b e.symm
        omega
      · exact ownsRow_far hsn.row hws _
      · exact (hsn.inn y hy).set hbt (by decide) _
      · rw [List.range_succ, List.map_append, ← HVS.out]
        simp
      · exact ((HBE.out.alloc (by have := HBE.out.size; omega) _).grown HG4.out (by have := HBE.out.size; simp; omega) (fun j e => by have := (HROW.out.alloc (.cells #[.slice (some ⟨g, 0, none⟩) size size] 22)).lt j e; omega)).setCell (Nat.le_refl _) _
    case hdone =>
      rintro D W hD ⟨A', c', L, hbo, hLL, hLk, hvs, hbel⟩ hK
      have hbc : W.cell? ⟨w.heap.size, 0, none⟩ = some (.slice A' N c') := by rw [cell_of_row W _ 0 _ _ _ hbo]; rfl
      have HLL := Lib.hid hLL
      have HLK := Lib.hid hLk
      have HVS := Lib.hid hvs
      have HBE := Lib.hid hbel
      have HK := Lib.hid hK
      clear hbo hLL hLk hvs hbel hK
      gi_wp2
      refine ⟨by simp, .inl ⟨_, _, rfl, run_takeDeferred HK.out, ?_⟩⟩
      exact ⟨_, results_tmp2 rfl _ _ _, A', c', L, by rw [HLK.out]; rfl, Lib.hid (by rw [HVS.out, frs, hN.out]), (HLL.out.putO _ HK.out rfl).le (by omega), below_putO HBE.out _ (by omega)⟩
  · have hqq := hq2.out rfl hle
    gi_wp2_with (first | (refine ⟨trivial, ?_⟩; gi_at_call 47; refine (HVA.out _ h).mono ?_; rintro e w' ⟨rfl, rfl⟩) | (refine ⟨trivial, ?_⟩; gi_at_call 48; refine (HCUT.out _).mono ?_; rintro e w' ⟨rfl, rfl⟩))
    obtain ⟨V, hV⟩ : ∃ V : World, V = ((((w.alloc (.cells #[.slice none 0 0] 32)).alloc (.cells #[.slice A x.length c] 22)).alloc (.cells #[.int .i64 size] 3)).alloc (.cells #[.int .i64 step] 3)).alloc (.cells #[.bool false] 4) := ⟨_, rfl⟩
    rw [← hV]
    have hVs : V.heap.size = w.heap.size + 5 := by rw [hV]; simp
    have HVB : Hid (Below w.heap.size w V) := Lib.hid (by rw [hV]; exact ((((((Below.refl _ w).alloc (Nat.le_refl _) _).alloc (by simp) _).alloc (by simp; omega) _).alloc (by simp; omega) _).alloc (by simp; omega) _))
    have HVO : Hid (V.heap[w.heap.size]? = some (.cells #[.slice none 0 0] 32 (0, 0))) := Lib.hid (by
      have h1 : Below (w.alloc (.cells #[.slice none 0 0] 32)).heap.size (w.alloc (.cells #[.slice none 0 0] 32)) V := by rw [hV]; exact (((((Below.refl _ _).alloc (Nat.le_refl _) _).alloc (by simp) _).alloc (by simp <;> omega) _).alloc (by simp <;> omega) _)
      exact (h1.block w.heap.size (by simp)).trans (heap_alloc_new w _))
    have HVX : Hid (V.cell? ⟨w.heap.size + 1, 0, none⟩ = some (.slice A x.length c) ∧ V.cell? ⟨w.heap.size + 1 + 1, 0, none⟩ = some (.int .i64 size) ∧ V.cell? ⟨w.heap.size + 1 + 1 + 1, 0, none⟩ = some (.int .i64 step) ∧ V.cell? ⟨w.heap.size + 1 + 1 + 1 + 1, 0, none⟩ = some (.bool false)) := Lib.hid (by rw [hV]; simp [go_sem])
    clear hV
    refine wpIn_ran2 (w := V) rfl (by decide) (gf := 65) (lb := #[.pointer (some ⟨w.heap.size + 1 + 1, 0, none⟩), .pointer (some ⟨w.heap.size + 1, 0, none⟩), .pointer (some ⟨w.heap.size + 1 + 1 + 1 + 1, 0, none⟩), .pointer (some ⟨w.heap.size + 1 + 1 + 1, 0, none⟩)]) rfl trivial (enters_of Tryd.func65 (by kernel_rfl) rfl)
      N (FrI w w.heap.size V.heap.size x size step) (fun k v W => FrX V.heap.size x size step k v W) (KpB V.heap.size w.heap.size) (fun h k => KpB.trans h k) ?hKb rfl ?hIb ?hIp ?hXp ?h0 ?hseq ?hround ?hdone
    case hKb => exact fun W l o o' hl _ _ => ⟨by simp, fun b hb hne => World.putObj_heap_other (by omega)⟩
    case hIb => exact fun k W W' hi _ hb => hi.below hb
    case hIp => exact fun k W l o o' hl ho hc hi => hi.put o' (by omega) (by omega) ho hc
    case hXp =>
      rintro k v W l o o' hl ho hc ⟨g, rfl, hw⟩
      exact ⟨g, rfl, ownsRow_putObj hw o' ho hc⟩
    case h0 => exact ⟨none, 0, [], HVO.out, LLo.nil _ _, rfl, rfl, HVB.out⟩
    case hseq =>
      intro l J W hW hJb hJ0 hY
      have hc := fun b o (hb : b < V.heap.size) => hW.cell (p := ⟨b, o, none⟩) hb
      have h2 := cut1_in Fence.wide 8 trivial rfl (by decide) l (w.heap.size + 1) (w.heap.size + 1 + 1) (w.heap.size + 1 + 1 + 1 + 1) (w.heap.size + 1 + 1 + 1) V.heap.size w.heap.size A c x size step false hs1 hs2 ht1 ht2 hx hxc
        ⟨by omega, by omega⟩ ⟨by omega, by omega⟩ ⟨by omega, by omega⟩ ⟨by omega, by omega⟩ (Lib.hid (fun h0 b off e => by obtain ⟨b', off', e', hlt, _⟩ := h h0; rw [e'] at e; cases e; omega)) J hJb
        (Lib.hid (fun k v W hj hx hk => hY k v W hj hx (by rw [hN.out] at hk; exact hk))) W hW.size
        ((hc _ _ (by omega)).trans HVX.out.1) ((hc _ _ (by omega)).trans HVX.out.2.1) ((hc _ _ (by omega)).trans HVX.out.2.2.2) ((hc _ _ (by omega)).trans HVX.out.2.2.1)
        ((h.below HVB.out).below hW) hJ0
      rw [hN.out] at h2
      exact h2
    case hround =>
      rintro l k v W W2 ⟨A', c', L, hbo, hLL, hLk, hvs, hbel⟩ ⟨g, rfl, hgo⟩ hkN
      have hbc : W2.cell? ⟨w.heap.size, 0, none⟩ = some (.slice A' k c') := by rw [cell_of_row W2 _ 0 _ _ _ hbo]; rfl
      have hbf : W2.frozen? ⟨w.heap.size, 0, none⟩ = false := by simp [World.frozen?, hbo]
      have HBO := Lib.hid hbo
      have HLL := Lib.hid hLL
      have HLK := Lib.hid hLk
      have HVS := Lib.hid hvs
      have HBE := Lib.hid hbel
      have HGO := Lib.hid hgo
      have hrow := hLL.row
      rw [hLk] at hrow
      have HROW := Lib.hid hrow
      have hV2 : V.heap.size ≤ W2.heap.size := by
        have h1 := (hgo.lt g rfl).1
        have h2 := (hgo.lt g rfl).2
        omega
      clear hbo hLL hLk hvs hbel hgo hrow
      gi_wp2
      refine ⟨by trivial, ?_⟩
      gi_wp2_with (gi_at_builtin; refine wpListIn_append_own_at _ rfl (.tmp 62) (.tmp 64) _ rfl V.heap.size 22 i0 _ 1 24 Tryd.underlying32 TI.out TZ0.out TZ1.out TZ2.out rfl (by omega) (.slice A' k c') k (lcs L) rfl (HROW.out.alloc _) ⟨W2.heap.size, 0, none⟩ 1 1 [.slice (some ⟨g, 0, none⟩) size size] rfl (by simp) (cell_one_new _ _ _) (by simp [Value.oneCell']) (by unfold maxLen; omega) (by omega) (by simp; omega) ?_; intro v' w4 ho4 hg4 _ _; obtain ⟨A4, c4, rfl⟩ := own_slice ho4; have HO4 := Lib.hid ho4; have HG4 := Lib.hid hg4; have hbo4 : w4.heap[w.heap.size]? = some (.cells #[.slice A' k c'] 32 (0, 0)) := (hg4.block w.heap.size (by simp; omega) (fun e => by have := (HROW.out.alloc (.cells #[.slice (some ⟨g, 0, none⟩) size size] 22)).lt w.heap.size e.symm; omega)).trans ((Below.heap_alloc W2 _ w.heap.size (by omega)).trans HBO.out); have hbc4 : w4.cell? ⟨w.heap.size, 0, none⟩ = some (.slice A' k c') := (by rw [cell_of_row w4 _ 0 _ _ _ hbo4]; rfl); have hbf4 : w4.frozen? ⟨w.heap.size, 0, none⟩ = false := (by simp [World.frozen?, hbo4]); have HBO4 := Lib.hid hbo4; clear ho4 hg4 hbo4)
      have hbt : BT w4 w.heap.size 32 := ⟨_, _, HBO4.out⟩
      have hws : w.heap.size < V.heap.size := by omega
      have hin : InT W2 (some ⟨g, 0, none⟩, size, frA x size (k * step)) := by
        have e := frA_length x size (k * step)
        have := InT.of_own HGO.out e.symm (by omega) (frA_rng hB.out size (k * step))
        exact this
      have hLa : LLo (W2.alloc (.cells #[.slice (some ⟨g, 0, none⟩) size size] 22)) V.heap.size A' c' L := HLL.out.below ((Below.refl _ _).alloc (Nat.le_refl _) _)
      have hsn : LLo w4 V.heap.size A4 c4 (L ++ [(some ⟨g, 0, none⟩, size, frA x size (k * step))]) := by
        refine hLa.snoc (hin.below ((Below.refl _ _).alloc (Nat.le_refl _) _)) HG4.out ?_
        have h1 := HO4.out
        rw [← HLK.out] at h1
        simpa [frA_length] using h1
      refine ⟨((KeepsOthers.alloc W2 _).trans ((KeepsOthers.of_grownBy HG4.out (fun j o e ho => ?_)).trans (KeepsOthers.setCell _ _ _))).from _, ⟨?_, fun b hb hne => ?_⟩, A4, c4, L ++ [(some ⟨g, 0, none⟩, size, frA x size (k * step))], one_setCell HBO4.out, ⟨?_, fun y hy => ?_⟩, by simp [HLK.out], ?_, ?_⟩
      · obtain ⟨cur, fr, h1⟩ := BT.of_own (HROW.out.alloc (.cells #[.slice (some ⟨g, 0, none⟩) size size] 22)) e
        rw [h1] at ho
        injection ho with ho
        subst ho
        rfl
      · have := HG4.out.size
        simp at this ⊢
        omega
      · refine (Below.heap_setCell _ _ _ b hne).trans ((HG4.out.block b (by simp; omega) (fun e => ?_)).trans (Below.heap_alloc W2 _ b (by omega)))
        have := (HROW.out.alloc (.cells #[.slice (some ⟨g, 0, none⟩) size size] 22)).lt b e.symm
        omega
      · exact ownsRow_far hsn.row hws _
      · exact (hsn.inn y hy).set hbt (by decide) _
      · rw [List.range_succ, List.map_append, ← HVS.out]
        simp
      · exact ((HBE.out.alloc (by have := HBE.out.size; omega) _).grown HG4.out (by have := HBE.out.size; simp; omega) (fun j e => by have := (HROW.out.alloc (.cells #[.slice (some ⟨g, 0, none⟩) size size] 22)).lt j e; omega)).setCell (Nat.le_refl _) _
    case hdone =>
      rintro D W hD ⟨A', c', L, hbo, hLL, hLk, hvs, hbel⟩ hK
      have hbc : W.cell? ⟨w.heap.size, 0, none⟩ = some (.slice A' N c') := by rw [cell_of_row W _ 0 _ _ _ hbo]; rfl
      have HLL := Lib.hid hLL
      have HLK := Lib.hid hLk
      have HVS := Lib.hid hvs
      have HBE := Lib.hid hbel
      have HK := Lib.hid hK
      clear hbo hLL hLk hvs hbel hK
      gi_wp2
      refine ⟨by simp, .inl ⟨_, _, rfl, run_takeDeferred HK.out, ?_⟩⟩
      exact ⟨_, results_tmp2 rfl _ _ _, A', c', L, by rw [HLK.out]; rfl, Lib.hid (by rw [HVS.out, frs, hN.out]), (HLL.out.putO _ HK.out rfl).le (by omega), below_putO HBE.out _ (by omega)⟩
  · have hqq := hq3.out rfl hle
    subst hqq
    gi_wp2_with (first | (refine ⟨trivial, ?_⟩; gi_at_call 47; refine (HVA.out _ h).mono ?_; rintro e w' ⟨rfl, rfl⟩) | (refine ⟨trivial, ?_⟩; gi_at_call 48; refine (HCUT.out _).mono ?_; rintro e w' ⟨rfl, rfl⟩))
    obtain ⟨V, hV⟩ : ∃ V : World, V = ((((w.alloc (.cells #[.slice none 0 0] 32)).alloc (.cells #[.slice A x.length c] 22)).alloc (.cells #[.int .i64 size] 3)).alloc (.cells #[.int .i64 step] 3)).alloc (.cells #[.bool false] 4) := ⟨_, rfl⟩
    rw [← hV]
    have hVs : V.heap.size = w.heap.size + 5 := by rw [hV]; simp
    have HVB : Hid (Below w.heap.size w V) := Lib.hid (by rw [hV]; exact ((((((Below.refl _ w).alloc (Nat.le_refl _) _).alloc (by simp) _).alloc (by simp; omega) _).alloc (by simp; omega) _).alloc (by simp; omega) _))
    have HVO : Hid (V.heap[w.heap.size]? = some (.cells #[.slice none 0 0] 32 (0, 0))) := Lib.hid (by
      have h1 : Below (w.alloc (.cells #[.slice none 0 0] 32)).heap.size (w.alloc (.cells #[.slice none 0 0] 32)) V := by rw [hV]; exact (((((Below.refl _ _).alloc (Nat.le_refl _) _).alloc (by simp) _).alloc (by simp <;> omega) _).alloc (by simp <;> omega) _)
      exact (h1.block w.heap.size (by simp)).trans (heap_alloc_new w _))
    have HVX : Hid (V.cell? ⟨w.heap.size + 1, 0, none⟩ = some (.slice A x.length c) ∧ V.cell? ⟨w.heap.size + 1 + 1, 0, none⟩ = some (.int .i64 size) ∧ V.cell? ⟨w.heap.size + 1 + 1 + 1, 0, none⟩ = some (.int .i64 step) ∧ V.cell? ⟨w.heap.size + 1 + 1 + 1 + 1, 0, none⟩ = some (.bool false)) := Lib.hid (by rw [hV]; simp [go_sem])
    clear hV
    refine wpIn_ran2 (w := V) rfl (by decide) (gf := 65) (lb := #[.pointer (some ⟨w.heap.size + 1 + 1, 0, none⟩), .pointer (some ⟨w.heap.size + 1, 0, none⟩), .pointer (some ⟨w.heap.size + 1 + 1 + 1 + 1, 0, none⟩), .pointer (some ⟨w.heap.size + 1 + 1 + 1, 0, none⟩)]) rfl trivial (enters_of Tryd.func65 (by kernel_rfl) rfl)
      0 (FrI w w.heap.size V.heap.size x size step) (fun k v W => FrX V.heap.size x size step k v W) (KpB V.heap.size w.heap.size) (fun h k => KpB.trans h k) ?hKb rfl ?hIb ?hIp ?hXp ?h0 ?hseq ?hround ?hdone
    case hKb => exact fun W l o o' hl _ _ => ⟨by simp, fun b hb hne => World.putObj_heap_other (by omega)⟩
    case hIb => exact fun k W W' hi _ hb => hi.below hb
    case hIp => exact fun k W l o o' hl ho hc hi => hi.put o' (by omega) (by omega) ho hc
    case hXp =>
      rintro k v W l o o' hl ho hc ⟨g, rfl, hw⟩
      exact ⟨g, rfl, ownsRow_putObj hw o' ho hc⟩
    case h0 => exact ⟨none, 0, [], HVO.out, LLo.nil _ _, rfl, rfl, HVB.out⟩
    case hseq =>
      intro l J W hW hJb hJ0 hY
      have hc := fun b o (hb : b < V.heap.size) => hW.cell (p := ⟨b, o, none⟩) hb
      have h2 := cut1_in Fence.wide 8 trivial rfl (by decide) l (w.heap.size + 1) (w.heap.size + 1 + 1) (w.heap.size + 1 + 1 + 1 + 1) (w.heap.size + 1 + 1 + 1) V.heap.size w.heap.size A c x size step false hs1 hs2 ht1 ht2 hx hxc
        ⟨by omega, by omega⟩ ⟨by omega, by omega⟩ ⟨by omega, by omega⟩ ⟨by omega, by omega⟩ (Lib.hid (fun h0 b off e => by obtain ⟨b', off', e', hlt, _⟩ := h h0; rw [e'] at e; cases e; omega)) J hJb
        (Lib.hid (fun k v W hj hx hk => hY k v W hj hx (by rw [hN.out] at hk; exact hk))) W hW.size
        ((hc _ _ (by omega)).trans HVX.out.1) ((hc _ _ (by omega)).trans HVX.out.2.1) ((hc _ _ (by omega)).trans HVX.out.2.2.2) ((hc _ _ (by omega)).trans HVX.out.2.2.1)
        ((h.below HVB.out).below hW) hJ0
      rw [hN.out] at h2
      exact h2
    case hround =>
      rintro l k v W W2 _ _ hkN
      exact absurd hkN (Nat.not_lt_zero _)
    case hdone =>
      rintro D W hD ⟨A', c', L, hbo, hLL, hLk, hvs, hbel⟩ hK
      have hbc : W.cell? ⟨w.heap.size, 0, none⟩ = some (.slice A' 0 c') := by rw [cell_of_row W _ 0 _ _ _ hbo]; rfl
      have HLL := Lib.hid hLL
      have HLK := Lib.hid hLk
      have HVS := Lib.hid hvs
      have HBE := Lib.hid hbel
      have HK := Lib.hid hK
      clear hbo hLL hLk hvs hbel hK
      gi_wp2
      refine ⟨by simp, .inl ⟨_, _, rfl, run_takeDeferred HK.out, ?_⟩⟩
      exact ⟨_, results_tmp2 rfl _ _ _, A', c', L, by rw [HLK.out]; rfl, Lib.hid (by rw [HVS.out, frs, hN.out]), (HLL.out.putO _ HK.out rfl).le (by omega), below_putO HBE.out _ (by omega)⟩
end Go.Proofs.YtnflpnbpigcfhabDoor
