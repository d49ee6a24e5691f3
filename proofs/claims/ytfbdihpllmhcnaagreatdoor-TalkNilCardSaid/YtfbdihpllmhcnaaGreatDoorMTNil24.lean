/- TalkNil -/
import Derived.Test.YtfbdihpllmhcnaaGreatDoorMTNil23
set_option maxRecDepth 100000
set_option maxHeartbeats 32000000
namespace Ear
def Vt (F:List PFl):Nat:=F.findIdx fun f=>decide (f.st ≠ 3)
def Qo (F:List PFl):Int:=if Vt F < F.length then (Vt F:Int) else -1
theorem ZgX {F:List PFl} {k:Nat} (hk:k < F.length) (h:F[k].st ≠ 3) (h2:∀ (j:Nat) (hj:j < F.length),j < k -> F[j].st = 3):Vt F = k:=by
 unfold Vt
 rw [List.findIdx_eq hk]
 exact ⟨by simpa using h,fun j hj=>by simpa using h2 j (by omega) hj⟩
theorem Zen {F:List PFl} (h2:∀ (j:Nat) (hj:j < F.length),F[j].st = 3):Vt F = F.length:=by
 unfold Vt
 refine List.findIdx_eq_length_of_false fun x hx=>?_
 obtain ⟨j,hj,rfl⟩:=List.getElem_of_mem hx
 simpa using h2 j hj
theorem ZgY {F:List PFl} {k:Nat} (hk:k < F.length) (h:F[k].st ≠ 3) (h2:∀ (j:Nat) (hj:j < F.length),j < k -> F[j].st = 3):Qo F = k:=by
 unfold Qo
 rw [ZgX hk h h2,if_pos hk]
theorem Zeo {F:List PFl} (h2:∀ (j:Nat) (hj:j < F.length),F[j].st = 3):Qo F = -1:=by
 unfold Qo
 rw [Zen h2,if_neg (by omega)]
end Ear
namespace Go.Proofs.YtfbdihpllmhcnaaGreatDoor
open Go.RowKit Ear

theorem ZcG (f:FlM) (w:World) (r:Bool) (hr:Hid (decide (f.st ≠ 3) = r)):Calls Tryz.prog 102 #[.agg #[.int .i64 f.st,.string f.val,.slice f.A f.ref.length f.c]] w (QZ r w):=by
 obtain ⟨W0,hW0⟩:∃ W0:World,W0 = w.alloc (.cells #[.int .i64 f.st,.string f.val,.slice f.A f.ref.length f.c] 136):=⟨_,rfl⟩
 have HB0:Hid (Below w.heap.size w W0):=zH (by rw [hW0];exact bR.alloc nR _)
 have HX0:Hid (W0.heap[w.heap.size]? = some (.cells #[.int .i64 f.st,.string f.val,.slice f.A f.ref.length f.c] 136 (0,0))):=zH (by rw [hW0];exact heap_alloc_new w _)
 have c0:W0.cell? ⟨w.heap.size,0,none⟩ = some (.int .i64 f.st):=(cR 0 HX0.out).trans rfl
 have hrr:=hr.out
 obtain ⟨st,val,A,c,ref⟩:=f
 simp only at *
 clear hr
 have HR:=zH hrr
 clear hrr
 go_enter Tryz.func102,Tryz.ntmps102
 go_wp2_with fail
 rw [<- hW0]
 clear hW0
 go_wp2_with fail
 go_ret
 refine ⟨?_,HB0.out⟩
 rw [<- HR.out]
 by_cases h3:st = 3
 ·subst h3;rfl
 ·rw [decide_eq_true h3]
  have:(st != 3) = true:=by simp [h3]
  rw [<- this]
  rfl
theorem Z3 {w:World} {g c n:Nat} {Fm:List FlM} (h:w.ownsRow 0 136 3 (.slice (some ⟨g,0,none⟩) n c) n (Xz Fm)) (hn:n = Fm.length) {k:Nat} (hk:k < Fm.length):w.cell? ⟨g,k * 3,none⟩ = some (.int .i64 Fm[k].st) /\ w.cell? ⟨g,k * 3 + 1,none⟩ = some (.string Fm[k].val) /\ w.cell? ⟨g,k * 3 + 2,none⟩ = some (.slice Fm[k].A Fm[k].ref.length Fm[k].c) /\ w.frozen? ⟨g,k * 3,none⟩ = false /\ w.frozen? ⟨g,k * 3 + 1,none⟩ = false /\ w.frozen? ⟨g,k * 3 + 2,none⟩ = false:=
 ⟨(h.cellAt (k * 3 + 0) (by omega)).trans (Y8 Fm hk 0 (by omega)),(h.cellAt (k * 3 + 1) (by omega)).trans (Y8 Fm hk 1 (by omega)),(h.cellAt (k * 3 + 2) (by omega)).trans (Y8 Fm hk 2 (by omega)),h.frozenAt _,h.frozenAt _,h.frozenAt _⟩
theorem ZcK (g c:Nat) (Fm:List FlM) (w:World) (h:w.ownsRow 0 136 3 (.slice (some ⟨g,0,none⟩) Fm.length c) Fm.length (Xz Fm)) (hn:Fm.length <= 1000000) (r:Int) (hr:Hid (Qo (Fm.map FlM.pure) = r)) :
  Calls Tryz.prog 101 #[.slice (some ⟨g,0,none⟩) Fm.length c,.func (.func 102) #[] #[]] w fun e w'=>e = .returned (.int .i64 r) /\ Below w.heap.size w w':=by
 have heg:=enters_of Tryz.func102 (by kernel_rfl) rfl
 have HO:=zH h
 clear h
 go_enter Tryz.func101,Tryz.ntmps101
 go_wp2_with fail
 go_loopw [8] (fun i wr=>∃ k:Nat,k <= Fm.length /\ i = .int .i64 k /\ Hid (∀ (j:Nat) (hj:j < Fm.length),j < k -> Fm[j].st = 3) /\ Hid (Below w.heap.size w wr)) (fun i _=>Fm.length - (intOf i).toNat)
 case atStart=>exact ⟨0,Nat.zero_le _,rfl,zH (fun j _ h=>by omega),zH bR⟩
 case round=>
  obtain ⟨k,hk,rfl,HN,HB⟩:=hrel
  by_cases hlt:k < Fm.length
  ·obtain ⟨c0,c1,c2,-⟩:=Z3 (Jf HO.out HB.out) rfl hlt
   have HT:Hid (Fm[k].st ≠ 3 -> r = (k:Int)):=zH (fun hx=>by
    rw [<- hr.out]
    exact ZgY (by simpa using hlt) (by simpa [FlM.pure] using hx) (fun j hj hjk=>by simpa [FlM.pure] using HN.out j (by simpa using hj) hjk))
   have HF:Hid (¬ Fm[k].st ≠ 3 -> ∀ (j:Nat) (hj:j < Fm.length),j < k + 1 -> Fm[j].st = 3):=zH (fun hx j hj hjk=>by
    by_cases e:j = k
    ·subst e;exact Classical.not_not.1 hx
    ·exact HN.out j hj (by omega))
   generalize Fm[k] = X at *
   go_wp2_with fail
   refine (ZcG X wr (decide (X.st ≠ 3)) (zH rfl)).mono ?_
   rintro e w1 ⟨rfl,hb1⟩
   have HB1:=zH (HB.out.trans (hb1.mono HB.out.size))
   clear hb1 c0 c1 c2
   by_cases h3:X.st ≠ 3
   ·have HR:=zH (HT.out h3)
    rw [decide_eq_true h3]
    clear HT HF h3
    go_wp2_with fail
    go_ret
    exact ⟨by rw [HR.out];rfl,HB1.out⟩
   ·have HR:=zH (HF.out h3)
    rw [dF h3]
    clear HT HF h3
    go_wp2_with fail
    exact ⟨⟨k + 1,by omega,by go_num,HR,HB1⟩,by simp [intOf];omega⟩
  ·have HR:Hid (r = -1):=zH (by
    rw [<- hr.out]
    exact Zeo (fun j hj=>by
     have hj':j < Fm.length:=by simpa using hj
     simpa [FlM.pure] using HN.out j hj' (by omega)))
   have hlt':¬ (k:Int) < (Fm.length:Int):=by omega
   go_wp2_with fail
   go_ret
   exact ⟨by rw [HR.out];rfl,HB.out⟩
theorem DlM.cells {w:World} {bs:Nat} {a:DlA} {D:PDl} (h:DlM w bs a D):w.cell? ⟨a.q,0,none⟩ = some (.slice a.PA a.Ss.length a.pc) /\ w.cell? ⟨a.q,1,none⟩ = some (.int .i64 D.pat) /\ w.cell? ⟨a.q,2,none⟩ = some (.int .i64 D.prm) /\ w.cell? ⟨a.q,3,none⟩ = some (.int .i64 D.need) /\ w.cell? ⟨a.q,4,none⟩ = some (.slice (some ⟨a.gF,0,none⟩) a.Fm.length a.fc) /\ w.cell? ⟨a.q,5,none⟩ = some (.int .i64 D.stand) /\ w.cell? ⟨a.q,6,none⟩ = some (.int .i64 D.bad) /\ w.cell? ⟨a.q,7,none⟩ = some (.int .i64 D.cuts) /\ w.cell? ⟨a.q,8,none⟩ = some (.int .i64 D.prompt) /\ w.cell? ⟨a.q,9,none⟩ = some (.int .i64 D.last):=
 ⟨(cR 0 h.cell).trans rfl,(cR 1 h.cell).trans rfl,(cR 2 h.cell).trans rfl,(cR 3 h.cell).trans rfl,(cR 4 h.cell).trans rfl,(cR 5 h.cell).trans rfl,(cR 6 h.cell).trans rfl,(cR 7 h.cell).trans rfl,(cR 8 h.cell).trans rfl,(cR 9 h.cell).trans rfl⟩
theorem Uu (bs:Nat) (a:DlA) (D:PDl) (w:World) (h:DlM w bs a D) (hn:a.Fm.length <= 1000000) (r:Int) (hr:Hid (Qo D.F = r)):Calls Tryz.prog 59 #[.pointer (some ⟨a.q,0,none⟩)] w fun e w'=>e = .returned (.int .i64 r) /\ Below w.heap.size w w':=by
 obtain ⟨-,-,-,-,c4,-,-,-,-,-⟩:=h.cells
 have HI:=zH (ZcK a.gF a.fc a.Fm w h.row hn r (zH (by rw [h.pure];exact hr.out)))
 clear h
 go_enter Tryz.func59,Tryz.ntmps59
 go_wp2_with fail
 refine HI.out.mono ?_
 rintro e w1 ⟨rfl,hb⟩
 have HB:=zH hb
 clear hb
 go_wp2_with fail
 go_ret
 exact ⟨rfl,HB.out⟩
theorem Y1 (bs:Nat) (a:DlA) (D:PDl) (w:World) (h:DlM w bs a D):Calls Tryz.prog 56 #[.pointer (some ⟨a.q,0,none⟩)] w fun e w'=>e = .returned (.bool true) /\ w' = w:=by
 obtain ⟨-,-,-,-,c4,-,-,-,-,-⟩:=h.cells
 have hp:=h.pos
 have hp2:(0:Int) < (a.Fm.length:Int):=by omega
 clear h
 go_enter Tryz.func56,Tryz.ntmps56
 go_wp2_with fail
 go_ret
 exact ⟨rfl,rfl⟩
end Go.Proofs.YtfbdihpllmhcnaaGreatDoor
namespace Go.Proofs.YtfbdihpllmhcnaaGreatDoor
open Go.RowKit Ear

structure EvM where
 kind:Int
 val:BA
 W:Fr
 at_:Int
def EvM.v (E:EvM):Value:=.agg #[.int .i64 E.kind,.string E.val,.bool E.W.neg,.slice E.W.A E.W.N.length E.W.c,.slice E.W.B E.W.D.length E.W.d,.int .i64 E.at_]
def ZhR (D:PDl) (f:PFl) (s:PSl) (q:Rat) (at_:Int):Bool:=decide (f.st = 2) && decide (D.prompt + D.need <= at_) && decide (0 <= Yz (q + -s.le))
theorem Zbv (bs:Nat) (a:DlA) (D:PDl) (E:EvM) (q:Rat) (w:World) (h:DlM w bs a D) (hE:Fv w E.W q) (fE:Few E.W 90000) (k:Nat) (f:PFl) (ps:PSl) (hk:D.F[k]? = some f) (hs:D.S[k]? = some ps) (ha:Qo D.F = k) (hn:a.Fm.length <= 1000000) (hp : 0 <= D.prompt /\ D.prompt <= 2199023255552) (hd : 0 <= D.need /\ D.need <= 10000) (r:Bool) (hr:Hid (ZhR D f ps q E.at_ = r)) :
  Calls Tryz.prog 140 #[.pointer (some ⟨a.q,0,none⟩),E.v] w fun e w'=>e = .returned (.tuple #[.int .i64 k,.bool r]) /\ Below w.heap.size w w':=by
 obtain ⟨W0,hW0⟩:∃ W0:World,W0 = w.alloc (.cells #[.int .i64 E.kind,.string E.val,.bool E.W.neg,.slice E.W.A E.W.N.length E.W.c,.slice E.W.B E.W.D.length E.W.d,.int .i64 E.at_] 28):=⟨_,rfl⟩
 have HB0:Hid (Below w.heap.size w W0):=zH (by rw [hW0];exact bR.alloc nR _)
 have HX0:Hid (W0.heap[w.heap.size]? = some (.cells #[.int .i64 E.kind,.string E.val,.bool E.W.neg,.slice E.W.A E.W.N.length E.W.c,.slice E.W.B E.W.D.length E.W.d,.int .i64 E.at_] 28 (0,0))):=zH (by rw [hW0];exact heap_alloc_new w _)
 have HD0:=zH (h.below HB0.out)
 have HA:=zH ha
 have HE0:=zH (hE.below HB0.out)
 have HFE:=zH fE
 have hws:w.heap.size < W0.heap.size:=(aE HX0.out).1
 have HKF:=zH hk
 have HKS:=zH hs
 clear h ha hE fE hk hs
 unfold EvM.v
 go_enter Tryz.func140,Tryz.ntmps140
 go_wp2_with fail
 rw [<- hW0]
 clear hW0
 refine (Uu bs a D W0 HD0.out hn k HA).mono ?_
 rintro e W1 ⟨rfl,hb1⟩
 have HD1:=zH (HD0.out.below hb1)
 have HEV:=zH (HE0.out.below hb1)
 have HX1:Hid (W1.heap[w.heap.size]? = some (.cells #[.int .i64 E.kind,.string E.val,.bool E.W.neg,.slice E.W.A E.W.N.length E.W.c,.slice E.W.B E.W.D.length E.W.d,.int .i64 E.at_] 28 (0,0))):=zH ((hb1.block _ hws).trans HX0.out)
 have HB1:=zH (HB0.out.trans (hb1.mono HB0.out.size))
 have hws1:w.heap.size < W1.heap.size:=(aE HX1.out).1
 clear hb1
 have hkS:k < a.Ss.length:=by
  have h1:=(List.getElem?_eq_some_iff.1 HKS.out).1
  rw [HD1.out.plan.len]
  exact h1
 have hkF:k < a.Fm.length:=by rw [HD1.out.len];exact hkS
 obtain ⟨gb,go,ePA,hgb,hcell⟩:=HD1.out.plan.at_ hkS
 have HOK:=zH (HD1.out.plan.ok k _ _ (gE hkS) HKS.out)
 have efm:a.Fm[k].st = f.st:=by
  have h1:(a.Fm.map FlM.pure)[k]? = some f:=by rw [HD1.out.pure];exact HKF.out
  rw [List.getElem?_map,gE hkF] at h1
  injection h1 with h1
  rw [<- h1]
  rfl
 obtain ⟨k0,-,-,-,-,-⟩:=Z3 HD1.out.row rfl hkF
 rw [efm] at k0
 generalize a.Ss[k] = s at *
 have HSL:=zH HOK.out.L
 have HFS:=zH HOK.out.fL
 obtain ⟨st,fval,fref⟩:=f
 obtain ⟨pnm,pvs,le,su⟩:=ps
 simp only at *
 have HCA:Hid (∀ w',Below W1.heap.size W1 w' -> w'.cell? ⟨a.q,0,none⟩ = some (.slice (some ⟨gb,go,none⟩) a.Ss.length a.pc) /\ w'.cell? ⟨a.q,3,none⟩ = some (.int .i64 D.need) /\ w'.cell? ⟨a.q,4,none⟩ = some (.slice (some ⟨a.gF,0,none⟩) a.Fm.length a.fc) /\ w'.cell? ⟨a.q,8,none⟩ = some (.int .i64 D.prompt) /\ w'.cell? ⟨a.gF,k * 3,none⟩ = some (.int .i64 st) /\ w'.cell? ⟨w.heap.size,2,none⟩ = some (.bool E.W.neg) /\ w'.cell? ⟨w.heap.size,3,none⟩ = some (.slice E.W.A E.W.N.length E.W.c) /\ w'.cell? ⟨w.heap.size,4,none⟩ = some (.slice E.W.B E.W.D.length E.W.d) /\ w'.cell? ⟨w.heap.size,5,none⟩ = some (.int .i64 E.at_) /\ w'.cell? ⟨gb,go + k * 8 + 2,none⟩ = some (.bool s.L.neg) /\ w'.cell? ⟨gb,go + k * 8 + 3,none⟩ = some (.slice s.L.A s.L.N.length s.L.c) /\ w'.cell? ⟨gb,go + k * 8 + 4,none⟩ = some (.slice s.L.B s.L.D.length s.L.d)):=zH (fun w' hw=>by
  obtain ⟨c0,-,-,c3,c4,-,-,-,c8,-⟩:=(HD1.out.below hw).cells
  rw [ePA] at c0
  have hx:=(hw.block _ hws1).trans HX1.out
  exact ⟨c0,c3,c4,c8,(hw.cell (p:=⟨a.gF,k * 3,none⟩) (World.block_lt_of_cell? W1 _ k0)).trans k0,(cR 2 hx).trans rfl,(cR 3 hx).trans rfl,(cR 4 hx).trans rfl,(cR 5 hx).trans rfl,
   (hw.cell (p:=⟨gb,go + k * 8 + 2,none⟩) hgb).trans (hcell 2 _ rfl),(hw.cell (p:=⟨gb,go + k * 8 + 3,none⟩) hgb).trans (hcell 3 _ rfl),(hw.cell (p:=⟨gb,go + k * 8 + 4,none⟩) hgb).trans (hcell 4 _ rfl)⟩)
 have HC:=zH (HCA.out W1.drew bR.drew)
 have hkSi:(k:Int) < (a.Ss.length:Int):=by omega
 have hkFi:(k:Int) < (a.Fm.length:Int):=by omega
 have p1:IntKind.i64.wrap (D.prompt + D.need) = D.prompt + D.need:=IntWalk.i64_in _ (by omega)
 obtain ⟨R,hR⟩:∃ R,Yz (q + -le) = R:=⟨_,rfl⟩
 have HR:=zH hR
 have HRR:Hid (r = (decide (st = 2) && decide (D.prompt + D.need <= E.at_) && decide (0 <= R))):=zH (by rw [<- hr.out,<- hR];rfl)
 clear hR hr k0 hcell efm
 go_upto_region 2 with fail
 by_cases h2:st = 2
 rotate_left
 ·have g2:(st == 2) = false:=by simp [h2]
  have H2:=zH h2
  clear h2
  refine Jk (S:=fun w'=>w'.cell? ⟨a.q,0,none⟩ = some (.slice (some ⟨gb,go,none⟩) a.Ss.length a.pc) /\ w'.cell? ⟨a.q,3,none⟩ = some (.int .i64 D.need) /\ w'.cell? ⟨a.q,4,none⟩ = some (.slice (some ⟨a.gF,0,none⟩) a.Fm.length a.fc) /\ w'.cell? ⟨a.q,8,none⟩ = some (.int .i64 D.prompt) /\ w'.cell? ⟨a.gF,k * 3,none⟩ = some (.int .i64 st) /\ w'.cell? ⟨w.heap.size,2,none⟩ = some (.bool E.W.neg) /\ w'.cell? ⟨w.heap.size,3,none⟩ = some (.slice E.W.A E.W.N.length E.W.c) /\ w'.cell? ⟨w.heap.size,4,none⟩ = some (.slice E.W.B E.W.D.length E.W.d) /\ w'.cell? ⟨w.heap.size,5,none⟩ = some (.int .i64 E.at_) /\ w'.cell? ⟨gb,go + k * 8 + 2,none⟩ = some (.bool s.L.neg) /\ w'.cell? ⟨gb,go + k * 8 + 3,none⟩ = some (.slice s.L.A s.L.N.length s.L.c) /\ w'.cell? ⟨gb,go + k * 8 + 4,none⟩ = some (.slice s.L.B s.L.D.length s.L.d)) 42 rfl (by kernel_rfl) HC.out (fun hHeld=>?_)
  iterate 42 (first | ((refine Jb (v:=?_) rfl (by kernel_rfl) (fun _ _ _ h=>h) ⟨by rfl,?_⟩ hHeld ?_;rotate_left;· intro w' sw;obtain ⟨hS1,hS2,hS3,hS4,hS5,hS6,hS7,hS8,hS9,hS10,hS11,hS12⟩:=sw;go_simp;try with_reducible rfl);simp only [zA,zB,zC]) | (refine Xg rfl (by kernel_rfl) (fun _ _ _ h=>h) (by rfl) hHeld ?_;simp only [zA,zB,zC]))
  refine wpAnyH_done (by kernel_rfl) ?_ _
  go_wp2_with fail
  go_ret2
  exact ⟨by rw [HRR.out,dF H2.out];rfl,HB1.out.drew⟩
 ·have g2:(st == 2) = true:=by simp [h2]
  have H2:=zH h2
  clear h2
  by_cases h3:D.prompt + D.need <= E.at_
  rotate_left
  ·have g3:decide (D.prompt + D.need <= E.at_) = false:=dF h3
   have H3:=zH h3
   clear h3
   refine Jk (S:=fun w'=>w'.cell? ⟨a.q,0,none⟩ = some (.slice (some ⟨gb,go,none⟩) a.Ss.length a.pc) /\ w'.cell? ⟨a.q,3,none⟩ = some (.int .i64 D.need) /\ w'.cell? ⟨a.q,4,none⟩ = some (.slice (some ⟨a.gF,0,none⟩) a.Fm.length a.fc) /\ w'.cell? ⟨a.q,8,none⟩ = some (.int .i64 D.prompt) /\ w'.cell? ⟨a.gF,k * 3,none⟩ = some (.int .i64 st) /\ w'.cell? ⟨w.heap.size,2,none⟩ = some (.bool E.W.neg) /\ w'.cell? ⟨w.heap.size,3,none⟩ = some (.slice E.W.A E.W.N.length E.W.c) /\ w'.cell? ⟨w.heap.size,4,none⟩ = some (.slice E.W.B E.W.D.length E.W.d) /\ w'.cell? ⟨w.heap.size,5,none⟩ = some (.int .i64 E.at_) /\ w'.cell? ⟨gb,go + k * 8 + 2,none⟩ = some (.bool s.L.neg) /\ w'.cell? ⟨gb,go + k * 8 + 3,none⟩ = some (.slice s.L.A s.L.N.length s.L.c) /\ w'.cell? ⟨gb,go + k * 8 + 4,none⟩ = some (.slice s.L.B s.L.D.length s.L.d)) 42 rfl (by kernel_rfl) HC.out (fun hHeld=>?_)
   iterate 42 (first | ((refine Jb (v:=?_) rfl (by kernel_rfl) (fun _ _ _ h=>h) ⟨by rfl,?_⟩ hHeld ?_;rotate_left;· intro w' sw;obtain ⟨hS1,hS2,hS3,hS4,hS5,hS6,hS7,hS8,hS9,hS10,hS11,hS12⟩:=sw;go_simp;try with_reducible rfl);simp only [zA,zB,zC]) | (refine Xg rfl (by kernel_rfl) (fun _ _ _ h=>h) (by rfl) hHeld ?_;simp only [zA,zB,zC]))
   refine wpAnyH_done (by kernel_rfl) ?_ _
   go_wp2_with fail
   go_ret2
   exact ⟨by rw [HRR.out,decide_eq_true H2.out,g3];rfl,HB1.out.drew⟩
  ·have g3:decide (D.prompt + D.need <= E.at_) = true:=decide_eq_true h3
   have H3:=zH h3
   clear h3
   refine Jk (S:=fun w'=>w'.cell? ⟨a.q,0,none⟩ = some (.slice (some ⟨gb,go,none⟩) a.Ss.length a.pc) /\ w'.cell? ⟨a.q,3,none⟩ = some (.int .i64 D.need) /\ w'.cell? ⟨a.q,4,none⟩ = some (.slice (some ⟨a.gF,0,none⟩) a.Fm.length a.fc) /\ w'.cell? ⟨a.q,8,none⟩ = some (.int .i64 D.prompt) /\ w'.cell? ⟨a.gF,k * 3,none⟩ = some (.int .i64 st) /\ w'.cell? ⟨w.heap.size,2,none⟩ = some (.bool E.W.neg) /\ w'.cell? ⟨w.heap.size,3,none⟩ = some (.slice E.W.A E.W.N.length E.W.c) /\ w'.cell? ⟨w.heap.size,4,none⟩ = some (.slice E.W.B E.W.D.length E.W.d) /\ w'.cell? ⟨w.heap.size,5,none⟩ = some (.int .i64 E.at_) /\ w'.cell? ⟨gb,go + k * 8 + 2,none⟩ = some (.bool s.L.neg) /\ w'.cell? ⟨gb,go + k * 8 + 3,none⟩ = some (.slice s.L.A s.L.N.length s.L.c) /\ w'.cell? ⟨gb,go + k * 8 + 4,none⟩ = some (.slice s.L.B s.L.D.length s.L.d)) 42 rfl (by kernel_rfl) HC.out (fun hHeld=>?_)
   iterate 37 (((refine Jb (v:=?_) rfl (by kernel_rfl) (fun _ _ _ h=>h) ⟨by rfl,?_⟩ hHeld ?_;rotate_left;· intro w' sw;obtain ⟨hS1,hS2,hS3,hS4,hS5,hS6,hS7,hS8,hS9,hS10,hS11,hS12⟩:=sw;go_simp;try with_reducible rfl);simp only [zA,zB,zC]))
   refine JI 37 rfl (by kernel_rfl) (by rfl) (fun K hK=>?_)
   go_simp
   refine (Xw E.W s.L q le W1.drew (HEV.out.below bR.drew) (HSL.out.below bR.drew) HFE.out HFS.out R HR).mono ?_
   rintro e u1 ⟨rfl,hb1⟩
   have HB9:=zH (HB1.out.trans ((JE hb1).mono HB1.out.size))
   have hC9:=HCA.out u1 (JE hb1)
   go_simp
   refine hK _ _ hC9 (fun hHeld=>?_)
   clear hK K
   iterate 4 (((refine Jb (v:=?_) rfl (by kernel_rfl) (fun _ _ _ h=>h) ⟨by rfl,?_⟩ hHeld ?_;rotate_left;· intro w' sw;obtain ⟨hS1,hS2,hS3,hS4,hS5,hS6,hS7,hS8,hS9,hS10,hS11,hS12⟩:=sw;go_simp;try with_reducible rfl);simp only [zA,zB,zC]))
   refine wpAnyH_done (by kernel_rfl) ?_ _
   go_wp2_with fail
   go_ret2
   exact ⟨by rw [HRR.out,decide_eq_true H2.out,g3];rfl,HB9.out⟩
end Go.Proofs.YtfbdihpllmhcnaaGreatDoor
namespace Go.Proofs.YtfbdihpllmhcnaaGreatDoor
open Go.RowKit Go.WideShapes Ear

structure EvR (w:World) (E:EvM):Prop where
 kind : -9223372036854775808 <= E.kind /\ E.kind <= 9223372036854775807
 size:E.val.size <= maxLen
 W:FrOk w E.W
 W1:E.W.N.length <= 9223372036854775807
 W2:E.W.D.length <= 9223372036854775807
 at_ : -9223372036854775808 <= E.at_ /\ E.at_ <= 9223372036854775807
def evc (E:EvM):List Value:=[.int .i64 E.kind,.string E.val,.bool E.W.neg,.slice E.W.A E.W.N.length E.W.c,.slice E.W.B E.W.D.length E.W.d,.int .i64 E.at_]
def ZfV (L:List EvM):List Value:=L.flatMap evc
structure EvL (w:World) (A:Option Addr) (L:List EvM):Prop where
 lies:Lies w A (ZfV L)
 ok:∀ E ∈ L,EvR w E

structure FrTy (P:Program) (t tb ts tu:TypeId):Prop where
 u:∃ f0 f1 f2:Field,P.underlying t = some (.struct #[f0,f1,f2]) /\ f0.offset = 0 /\ f1.offset = 1 /\ f2.offset = 2 /\ f0.type = tb /\ f1.type = ts /\ f2.type = ts
 c:P.cellsOf t = 3
 ub:P.underlying tb = some .bool
 cb:P.cellsOf tb = 1
 us:P.underlying ts = some (.slice tu)
 cs:P.cellsOf ts = 1
 uu:P.underlying tu = some (.int .u32)
 cu:P.cellsOf tu = 1
structure EvTy (P:Program) (t tk tn tf ti tb ts tu:TypeId):Prop where
 u:∃ f0 f1 f2 f3:Field,P.underlying t = some (.struct #[f0,f1,f2,f3]) /\ f0.offset = 0 /\ f1.offset = 1 /\ f2.offset = 2 /\ f3.offset = 5 /\ f0.type = tk /\ f1.type = tn /\ f2.type = tf /\ f3.type = ti
 c:P.cellsOf t = 6
 uk:P.underlying tk = some (.int .i64)
 ck:P.cellsOf tk = 1
 un:P.underlying tn = some .string
 cn:P.cellsOf tn = 1
 ui:P.underlying ti = some (.int .i64)
 ci:P.cellsOf ti = 1
 f:FrTy P tf tb ts tu
section
variable {H:Type} {enc:TypeId × Value -> H} {P:Program} {w:World} {t tq tS tk ti tn tl tf tb ts tu:TypeId} {cs:List Value} {v:Value} {d:DataW H} {p:List MemPlace} {r:Reach} {b0:Nat}
theorem Rd.fracT (T:FrTy P t tb ts tu) (h:Rd enc P w t cs):∃ x:Fr,cs = [.bool x.neg,.slice x.A x.N.length x.c,.slice x.B x.D.length x.d] /\ FrOk w x /\ x.N.length <= 9223372036854775807 /\ x.D.length <= 9223372036854775807:=by
 obtain ⟨f0,f1,f2,hu,o0,o1,o2,rfl,rfl,e2⟩:=T.u
 obtain ⟨hl,hf⟩:=h.struct hu
 rw [T.c] at hl
 match cs,hl with
 | [a,b,c],_=>
  have q0:=hf 0 f0 rfl
  have q1:=hf 1 f1 rfl
  have q2:=hf 2 f2 rfl
  rw [o0,T.cb] at q0
  rw [o1,T.cs] at q1
  rw [o2,e2,T.cs] at q2
  obtain ⟨n,e0⟩:=q0.bool T.ub
  obtain ⟨A,cA,N,e1,h1,l1⟩:=q1.dg T.us T.uu T.cu
  obtain ⟨B,cB,D,e2,h2,l2⟩:=q2.dg T.us T.uu T.cu
  simp at e0 e1 e2
  subst e0 e1 e2
  exact ⟨⟨n,A,cA,N,B,cB,D⟩,rfl,⟨h1,h2⟩,l1,l2⟩
end
theorem ZiA:FrTy Tryz.prog 26 4 24 163:=⟨⟨_,_,_,Tryz.underlying26,rfl,rfl,rfl,rfl,rfl,rfl⟩,by kernel_rfl,Tryz.underlying4,by kernel_rfl,Tryz.underlying24,by kernel_rfl,Tryz.underlying163,by kernel_rfl⟩
theorem ZiB:EvTy Tryz.prog 28 23 9 26 3 4 24 163:=⟨⟨_,_,_,_,Tryz.underlying28,rfl,rfl,rfl,rfl,rfl,rfl,rfl,rfl⟩,by kernel_rfl,Tryz.underlying23,by kernel_rfl,Tryz.underlying9,by kernel_rfl,Tryz.underlying3,by kernel_rfl,ZiA⟩
end Go.Proofs.YtfbdihpllmhcnaaGreatDoor
namespace Go.Proofs.YtfbdihpllmhcnaaGreatDoor
open Go.RowKit Ear

theorem ZgL {α:Type} {p : α -> Bool} {l:List α} {k:Nat} (hk:k < l.length) (h:p l[k] = false):l.all p = false:=by
 rw [List.all_eq_false];exact ⟨_,gM hk,by rw [h];decide⟩
theorem Zd7 {α:Type} {p : α -> Bool} {l:List α} {k:Nat} (hk:k < l.length) (h:(l.take k).all p = true) (h2:p l[k] = true):(l.take (k + 1)).all p = true:=by
 rw [List.take_succ_eq_append_getElem hk,List.all_append,h];simp [h2]
def Zat (x:Fr):Bool:=decide (x.N.length <= 4) && decide (x.D.length <= 4)
theorem Zas (x:Fr) (w:World) (h1:x.N.length <= 9223372036854775807) (h2:x.D.length <= 9223372036854775807) (r:Bool) (hr:Hid (Zat x = r)):Calls Tryz.prog 9 #[x.val] w (QZ r w):=by
 obtain ⟨W0,hW0⟩:∃ W0:World,W0 = w.alloc (.cells #[.bool x.neg,.slice x.A x.N.length x.c,.slice x.B x.D.length x.d] 26):=⟨_,rfl⟩
 have HB0:Hid (Below w.heap.size w W0):=zH (by rw [hW0];exact bR.alloc nR _)
 have HX0:Hid (Fb W0 w.heap.size x):=zH (by rw [hW0];exact Fb.new w x)
 obtain ⟨c0,c1,c2,-,-,-⟩:=HX0.out.facts
 go_enter Tryz.func9,Tryz.ntmps9
 go_upto_region 1 with fail
 rw [<- hW0]
 clear hW0
 by_cases h3:x.N.length <= 4
 ·have hz:r = decide (x.D.length <= 4):=by rw [<- hr.out];unfold Zat;rw [decide_eq_true h3,Bool.true_and]
  subst hz
  clear hr
  go_wp2_with fail
  go_ret
  exact ⟨by simp <;> omega,HB0.out⟩
 ·have hz:r = false:=by rw [<- hr.out];unfold Zat;rw [dF h3,Bool.false_and]
  subst hz
  clear hr
  go_wp2_with fail
  go_ret
  exact ⟨rfl,HB0.out⟩
theorem Zbs (L:List EvM):(ZfV L).length = L.length * 6:=by
 induction L with
 | nil=>rfl
 | cons x l ih=>simp only [ZfV,List.flatMap_cons,List.length_append] at ih ⊢;rw [ih];simp [evc];omega
theorem Zb0:∀ (L:List EvM) {k:Nat} (hk:k < L.length) (j:Nat),j < 6 -> (ZfV L)[k * 6 + j]? = (evc L[k])[j]?
 | s :: l,0,_,j,hj=>by
  simp only [ZfV,List.flatMap_cons,Nat.zero_mul,Nat.zero_add,List.getElem_cons_zero]
  exact List.getElem?_append_left (by simp [evc];exact hj)
 | s :: l,k + 1,hk,j,hj=>by
  have ih:=Zb0 l (k:=k) (by simpa using hk) j hj
  simp only [ZfV,List.flatMap_cons,List.getElem_cons_succ] at ih ⊢
  rw [List.getElem?_append_right (by simp [evc];omega),<- ih]
  congr 1
  simp [evc]
  omega
theorem EvL.at_ {w:World} {A:Option Addr} {L:List EvM} (h:EvL w A L) {k:Nat} (hk:k < L.length):∃ b off,A = some ⟨b,off,none⟩ /\ b < w.heap.size /\ ∀ (j:Nat) (v:Value),(evc L[k])[j]? = some v -> w.cell? ⟨b,off + k * 6 + j,none⟩ = some v:=by
 obtain ⟨b,off,e,hb,hc⟩:=h.lies (by rw [Zbs];omega)
 refine ⟨b,off,e,hb,fun j v hv=>?_⟩
 rw [Nat.add_assoc]
 refine hc _ _ ?_
 have hj:j < 6:=by have:=(List.getElem?_eq_some_iff.1 hv).1;simpa [evc] using this
 rw [Zb0 L hk j hj]
 exact hv
theorem EvR.below {w w':World} {E:EvM} (h:EvR w E) (hb:Below w.heap.size w w'):EvR w' E:=⟨h.kind,h.size,h.W.below hb,h.W1,h.W2,h.at_⟩
theorem EvL.below {w w':World} {A:Option Addr} {L:List EvM} (h:EvL w A L) (hb:Below w.heap.size w w'):EvL w' A L:=⟨h.lies.below hb,fun E hE=>(h.ok E hE).below hb⟩
def YE (E:EvM):Bool:=Zat E.W && decide (E.val.size <= 60)
def ZaC (L:List EvM):Bool:=(L.take 31).all YE && decide (L.length <= 30)
theorem ZdQ (A:Option Addr) (c:Nat) (L:List EvM) (w:World) (h:EvL w A L) (hn:L.length <= 9223372036854775807) (r:Bool) (hr:Hid (ZaC L = r)):Calls Tryz.prog 4 #[.slice A L.length c] w (QZ r w):=by
 have H:=zH h
 clear h
 go_enter Tryz.func4,Tryz.ntmps4
 go_wp2_with fail
 go_loopw [3] (fun i wr=>∃ k:Nat,k <= L.length /\ k <= 31 /\ i = .int .i64 k /\ Hid ((L.take k).all YE = true) /\ Hid (Below w.heap.size w wr)) (fun i _=>L.length - (intOf i).toNat)
 case atStart=>exact ⟨0,by omega,by omega,rfl,zH rfl,zH bR⟩
 case round=>
  obtain ⟨k,hk,hk31,rfl,HP,HB⟩:=hrel
  by_cases hlt:k < L.length
  ·by_cases h30:k <= 30
   ·obtain ⟨bk,off,rfl,hbk,hc⟩:=(H.out.below HB.out).at_ hlt
    have q1:=hc 1 _ rfl
    have q2:=hc 2 _ rfl
    have q3:=hc 3 _ rfl
    have q4:=hc 4 _ rfl
    clear hc
    have HR:=zH (H.out.ok _ (gM hlt))
    have HY:Hid (YE L[k] = true -> (L.take (k + 1)).all YE = true):=zH (fun he=>Zd7 hlt HP.out he)
    have HZ:Hid (YE L[k] = false -> r = false):=zH (fun he=>by
     rw [<- hr.out]
     unfold ZaC
     rw [ZgL (l:=L.take 31) (k:=k) (p:=YE) (by rw [List.length_take];omega) (by rw [List.getElem_take];exact he),Bool.false_and])
    clear HP
    generalize L[k] = E at *
    have hsz:=HR.out.size
    unfold maxLen at hsz
    cases hl:Zat E.W with
    | false=>
     have hz:=HZ.out (by unfold YE;rw [hl];rfl)
     subst hz
     have C1:=zH (Zas E.W wr HR.out.W1 HR.out.W2 false (zH hl))
     clear hl HY HZ hr
     go_wp2_with fail
     refine C1.out.mono ?_
     rintro e w1 ⟨rfl,hb1⟩
     go_wp2_with fail
     go_ret
     exact ⟨rfl,HB.out.trans (hb1.mono HB.out.size)⟩
    | true=>
     have C1:=zH (Zas E.W wr HR.out.W1 HR.out.W2 true (zH hl))
     by_cases h6:E.val.size <= 60
     ·have HK:=zH (HY.out (by unfold YE;rw [hl,decide_eq_true h6];rfl))
      clear hl HY HZ
      go_wp2_with fail
      refine C1.out.mono ?_
      rintro e w1 ⟨rfl,hb1⟩
      have q1':=(hb1.cell (p:=⟨bk,off + k * 6 + 1,none⟩) hbk).trans q1
      have HB1:=zH (HB.out.trans (hb1.mono HB.out.size))
      clear q1 q2 q3 q4 hb1 C1
      go_wp2_with fail
      exact ⟨⟨k + 1,by omega,by omega,by go_num,HK,HB1⟩,by simp [intOf];omega⟩
     ·have hz:=HZ.out (by unfold YE;rw [hl,dF h6];rfl)
      subst hz
      clear hl HY HZ hr
      go_wp2_with fail
      refine C1.out.mono ?_
      rintro e w1 ⟨rfl,hb1⟩
      have q1':=(hb1.cell (p:=⟨bk,off + k * 6 + 1,none⟩) hbk).trans q1
      have HB1:=zH (HB.out.trans (hb1.mono HB.out.size))
      clear q1 q2 q3 q4 hb1 C1
      go_wp2_with fail
      go_ret
      exact ⟨rfl,HB1.out⟩
   ·have hz:r = false:=by rw [<- hr.out];unfold ZaC;rw [dF (by omega),Bool.and_false]
    subst hz
    clear hr HP
    go_wp2_with fail
    go_ret
    exact ⟨by simp <;> omega,HB.out⟩
  ·have hz:r = decide (L.length <= 30):=by
    rw [<- hr.out]
    unfold ZaC
    obtain rfl:k = L.length:=by omega
    rw [List.take_of_length_le (by omega)]
    rw [List.take_of_length_le (by omega)] at HP
    rw [HP.out,Bool.true_and]
   subst hz
   clear hr HP
   go_wp2_with fail
   go_ret
   exact ⟨by simp <;> omega,HB.out⟩
end Go.Proofs.YtfbdihpllmhcnaaGreatDoor
