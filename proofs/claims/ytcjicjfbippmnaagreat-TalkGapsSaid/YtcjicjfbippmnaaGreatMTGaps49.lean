/- a part of TalkGaps -/
import Derived.Test.YtcjicjfbippmnaaGreatMTGaps46
import Derived.Test.YtcjicjfbippmnaaGreatMTGaps47
import Derived.Test.YtcjicjfbippmnaaGreatMTGaps48
import Derived.Test.YtcjicjfbippmnaaGreatMTGaps20
import Derived.Test.YtcjicjfbippmnaaGreatMTGaps43
import Derived.Test.YtcjicjfbippmnaaGreatMTGaps17
import Derived.Test.YtcjicjfbippmnaaGreatMTGaps2
import Derived.ChangeArms
import Derived.Carry
import Derived.OpenShut
import Derived.ProofKit
set_option maxRecDepth 100000
set_option maxHeartbeats 32000000
namespace Go.Proofs.YtcjicjfbippmnaaGreat
open Go.RowKit Ear

theorem gapQ_sz {va vb:List (List Int)} (h:grpR [va,vb] = 0):Sz (gapQ va vb) 2000:=by
 obtain ⟨h1,h2,h3,h4,h5,h6,h7⟩:=grp_two h
 rw [<- gap_means (va:=va) (vb:=vb) (by omega) (by omega)]
 have hr:=(gR_sz (va:=va) (vb:=vb) (fun x hx=>(h6 x hx).2) (fun x hx=>(h7 x hx).2) h1 h3 h2 h4 (len0 va)).mono (show 2 + 11 * len0 va <= 1000 by omega)
 have hq:va.length * vb.length <= 100000000:=Nat.mul_le_mul h3 h4
 have s1:Sz (((va.length * vb.length:Nat):Int):Rat) 2:=Sz.i64 (by omega) (by omega)
 have s2:Sz (((va.length + vb.length:Nat):Int):Rat) 2:=Sz.i64 (by omega) (by omega)
 have n2:(((va.length + vb.length:Nat):Int):Rat) ≠ 0:=by
  have:((va.length + vb.length:Nat):Int) ≠ 0:=by omega
  exact_mod_cast this
 exact (hr.mul (s1.mul (sz_inv s2 n2))).mono (by omega)
theorem few2_len {g:List (List Int)} (h:few2 g = true):g.length <= 8:=by
 unfold few2 at h
 rw [Bool.and_eq_true] at h
 exact of_decide_eq_true h.1

theorem TalkGaps_any (A B:Option Addr) (c d:Nat) (L M:List Inn) (w:World) (hA:LL w A L) (hB:LL w B M) (hAn:A = none -> c = 0) (hBn:B = none -> d = 0) (hn:L.length <= 9223372036854775807) (hm:M.length <= 9223372036854775807) :
  Calls Tryz.prog 3 #[.slice A L.length c,.slice B M.length d] w (RetB true w):=by
 obtain ⟨W1,hW1⟩:∃ W1:World,W1 = w.alloc (.cells #[.slice A L.length c,.slice B M.length d] 22):=⟨_,rfl⟩
 have HB1:Hid (Below w.heap.size w W1):=zH (by rw [hW1];exact (Below.refl _ _).alloc (Nat.le_refl _) _)
 have HG1:Hid (GG W1 (some ⟨w.heap.size,0,none⟩) [(A,c,L),(B,d,M)]):=zH (by rw [hW1];exact gg_two hA hB _)
 have HA1:=zH (hA.below HB1.out)
 have HBB1:=zH (hB.below HB1.out)
 clear hA hB
 have HLEN:Hid (∀ g ∈ [(A,c,L),(B,d,M)],g.2.2.length <= 9223372036854775807):=zH (by intro g hg;simp at hg;rcases hg with rfl | rfl <;> assumption)
 have CF:=zH (few10_any (some ⟨w.heap.size,0,none⟩) 2 2 [(A,c,L),(B,d,M)] W1 HG1.out (by simp) (by decide) HLEN _ (zH rfl))
 have e2:(gvs [(A,c,L),(B,d,M)]:List (List (List Int))) = [vsOf L,vsOf M]:=rfl
 rw [e2] at CF
 cases hf:fewG 2 [vsOf L,vsOf M] with
 | false=>
  rw [hf] at CF
  clear hf e2 HLEN HG1 HA1 HBB1
  go_enter Tryz.func3,Tryz.ntmps3
  go_wp2_with fail
  rw [<- hW1]
  clear hW1
  refine CF.out.mono ?_
  rintro e w' ⟨rfl,rfl⟩
  clear CF
  go_wp2_with fail
  refine (known10_any _).mono ?_
  rintro e w2 ⟨rfl,hb2⟩
  go_wp2_with fail
  go_ret
  exact ⟨rfl,HB1.out.trans (hb2.mono HB1.out.size)⟩
 | true=>
  rw [hf] at CF
  have hl8:L.length <= 8:=by
   have h2:few2 (vsOf L) = true:=by
    unfold fewG at hf;rw [Bool.and_eq_true] at hf;exact List.all_eq_true.1 hf.2 _ (by simp)
   simpa using few2_len h2
  have hm8:M.length <= 8:=by
   have h2:few2 (vsOf M) = true:=by
    unfold fewG at hf;rw [Bool.and_eq_true] at hf;exact List.all_eq_true.1 hf.2 _ (by simp)
   simpa using few2_len h2
  clear hf HLEN hn hm HG1
  have HVL:Hid ((vsOf L).length = L.length):=zH (by simp)
  have HVM:Hid ((vsOf M).length = M.length):=zH (by simp)
  obtain ⟨r,hr⟩:∃ r,r = grpR [vsOf L,vsOf M]:=⟨_,rfl⟩
  have HR:=zH hr.symm
  have HR2:Hid (grpR [vsOf M,vsOf L] = r):=zH ((grpR_swap _ _).trans hr.symm)
  clear hr
  have C1:=zH (tGap_any A B c d L M W1 HA1.out HBB1.out (by omega) (by omega) r HR)
  have C2:=zH (fun u (hA:LL u A L) (hB:LL u B M)=>tGap_any B A d c M L u hB hA (by omega) (by omega) r HR2)
  have C3:=zH (fun u k (hG:GG u (some ⟨k,0,none⟩) [(A,c,L),(B,d,M)])=>rGroups_any (some ⟨k,0,none⟩) 2 [(A,c,L),(B,d,M)] u hG (by simp) (zH (by intro g hg;simp at hg;rcases hg with rfl | rfl;exact (show L.length <= 10000 by omega);exact (show M.length <= 10000 by omega))) (zH (by intro g hg;simp at hg;rcases hg with rfl | rfl <;> assumption)) r HR)
  clear e2 hAn hBn
  go_enter Tryz.func3,Tryz.ntmps3
  go_wp2_with fail
  rw [<- hW1]
  clear hW1
  refine CF.out.mono ?_
  rintro e w' ⟨rfl,rfl⟩
  clear CF
  go_wp2_with fail
  refine C1.out.mono ?_
  rintro e w2 ⟨x,rfl,hx,hb2,hz⟩
  obtain ⟨W3,hW3⟩:∃ W3:World,W3 = w2.alloc (.cells #[.bool x.neg,.slice x.A x.N.length x.c,.slice x.B x.D.length x.d] 28):=⟨_,rfl⟩
  have HB3':Hid (Below w2.heap.size w2 W3):=zH (by rw [hW3];exact (Below.refl _ _).alloc (Nat.le_refl _) _)
  have HB3:Hid (Below W1.heap.size W1 W3):=zH (hb2.trans (HB3'.out.mono hb2.size))
  have HX3:Hid (Fb W3 w2.heap.size x):=zH (by rw [hW3];exact Fb.new w2 x)
  have HQ3:=zH (hx.below HB3'.out)
  have HA3:=zH (HA1.out.below HB3.out)
  have HBB3:=zH (HBB1.out.below HB3.out)
  have HW3:=zH (HB1.out.trans (HB3.out.mono HB1.out.size))
  have HZ:=zH hz
  clear hx hb2 HB3' C1 HA1 HBB1 HB1 HB3 hz
  go_wp2_with fail
  rw [<- hW3]
  clear hW3
  refine (C2.out W3 HA3.out HBB3.out).mono ?_
  rintro e w4 ⟨y,rfl,hy,hb4,-⟩
  obtain ⟨W5,hW5⟩:∃ W5:World,W5 = w4.alloc (.cells #[.bool y.neg,.slice y.A y.N.length y.c,.slice y.B y.D.length y.d] 28):=⟨_,rfl⟩
  have hs5:W5.heap.size = w4.heap.size + 1:=by rw [hW5];simp
  have HB5':Hid (Below w4.heap.size w4 W5):=zH (by rw [hW5];exact (Below.refl _ _).alloc (Nat.le_refl _) _)
  have HB5:Hid (Below W3.heap.size W3 W5):=zH (hb4.trans (HB5'.out.mono hb4.size))
  have HY5:Hid (Fb W5 w4.heap.size y):=zH (by rw [hW5];exact Fb.new w4 y)
  have HP5:=zH (hy.below HB5'.out)
  have HA5:=HA3.out.below HB5.out
  have HBB5:=HBB3.out.below HB5.out
  obtain ⟨W6,hW6⟩:∃ W6:World,W6 = W5.alloc (.cells #[.slice A L.length c,.slice B M.length d] 22):=⟨_,rfl⟩
  have HG6:Hid (GG W6 (some ⟨w4.heap.size + 1,0,none⟩) [(A,c,L),(B,d,M)]):=zH (by rw [hW6,<- hs5];exact gg_two HA5 HBB5 _)
  have HB6':Hid (Below W5.heap.size W5 W6):=zH (by rw [hW6];exact (Below.refl _ _).alloc (Nat.le_refl _) _)
  have HB6:Hid (Below W3.heap.size W3 W6):=zH (HB5.out.trans (HB6'.out.mono HB5.out.size))
  have HC:=zH (C3.out W6 _ HG6.out)
  have HY6:=zH (HY5.out.below HB6'.out)
  have HP6:=zH (HP5.out.below HB6'.out)
  rw [hW5] at hW6
  clear hy hb4 HB5' HB5 HY5 HP5 HA5 HBB5 HB6' hs5 hW5 W5 C2 C3 HG6
  go_wp2_with fail
  rw [<- hW6]
  clear hW6
  refine HC.out.mono ?_
  rintro e w7 ⟨rfl,hb7⟩
  have HB7:Hid (Below W3.heap.size W3 w7):=zH (HB6.out.trans (hb7.mono HB6.out.size))
  have HX7:=zH (HX3.out.below HB7.out)
  have HQ7:=zH (HQ3.out.below HB7.out)
  have HY7:=zH (HY6.out.below hb7)
  have HP7:=zH (HP6.out.below hb7)
  have HA7:=zH (HA3.out.below HB7.out)
  have HBB7:=zH (HBB3.out.below HB7.out)
  have HW7:=zH (HW3.out.trans (HB7.out.mono HW3.out.size))
  clear hb7 HB7 HB6 HX3 HQ3 HY6 HP6 HA3 HBB3 HW3 HC
  by_cases h0:r = 0
  ·subst h0
   have q0:((0:Int) != 0) = false:=rfl
   obtain ⟨g1,g2,g3,g4,g5,g6,g7⟩:=grp_two HR.out
   have G5:=zH g5
   have GL:Hid (∀ x ∈ L,x.2.2.length = len0 (vsOf L)):=zH (fun x hx=>(g6 _ (List.mem_map_of_mem hx)).1)
   have GM:Hid (∀ x ∈ M,x.2.2.length = len0 (vsOf L)):=zH (fun x hx=>(g7 _ (List.mem_map_of_mem hx)).1)
   have RL:Hid (∀ x ∈ vsOf L,allR (-1048576) 1048576 x = true):=zH (fun x hx=>(g6 x hx).2)
   have RM:Hid (∀ x ∈ vsOf M,allR (-1048576) 1048576 x = true):=zH (fun x hx=>(g7 x hx).2)
   rw [HVL.out] at g1
   rw [HVM.out] at g2
   have EQX:Hid (gapE 0 (vsOf L) (vsOf M) = gapQ (vsOf L) (vsOf M)):=zH rfl
   have EQY:Hid (gapE 0 (vsOf M) (vsOf L) = gapQ (vsOf L) (vsOf M)):=zH (gapQ_swap (grp2.1 (grpR_good HR.out)).2.2.1)
   have SG:=zH (gapQ_sz HR.out)
   have SN:=zH (qsgn_gap (vsOf L) (vsOf M))
   rw [EQX.out] at HQ7
   rw [EQY.out] at HP7
   clear g3 g4 g5 g6 g7 HVL HVM HR HR2 EQX EQY HZ
   have FX:=zH (HQ7.out.few (SG.out.mono (show 2000 <= 390000 by decide)))
   have FX2:Hid (Few x 1000000):=zH ⟨Nat.le_trans FX.out.n (by decide),Nat.le_trans FX.out.d (by decide)⟩
   have CG:=zH (fun u (hA:LL u A L) (hB:LL u B M)=>rGap_any A B c d L M u hA hB g1 (by omega) g2 (by omega) GL GM G5.out RL RM)
   have HBX:Hid (∀ u,Below w7.heap.size w7 u -> u.cell? ⟨w2.heap.size,0,none⟩ = some (.bool x.neg) /\ u.cell? ⟨w2.heap.size,1,none⟩ = some (.slice x.A x.N.length x.c) /\ u.cell? ⟨w2.heap.size,2,none⟩ = some (.slice x.B x.D.length x.d) /\ u.cell? ⟨w4.heap.size,0,none⟩ = some (.bool y.neg) /\ u.cell? ⟨w4.heap.size,1,none⟩ = some (.slice y.A y.N.length y.c) /\ u.cell? ⟨w4.heap.size,2,none⟩ = some (.slice y.B y.D.length y.d)):=zH (fun u hu=>by
    obtain ⟨a0,a1,a2,-,-,-⟩:=(HX7.out.below hu).facts
    obtain ⟨b0,b1,b2,-,-,-⟩:=(HY7.out.below hu).facts
    exact ⟨a0,a1,a2,b0,b1,b2⟩)
   generalize hqs:qsgn (gapQ (vsOf L) (vsOf M)) = sg0 at SN
   have QS:=zH hqs
   have sn:=SN.out
   have d0:decide (0 <= sg0) = true:=by simpa using sn
   clear hqs SN GL GM RL RM G5 SG HX7 HY7
   go_upto_region 8 with fail
   refine wp_region_held0 (S:=fun w'=>w'.cell? ⟨w2.heap.size,0,none⟩ = some (.bool x.neg) /\ w'.cell? ⟨w2.heap.size,1,none⟩ = some (.slice x.A x.N.length x.c) /\ w'.cell? ⟨w2.heap.size,2,none⟩ = some (.slice x.B x.D.length x.d) /\ w'.cell? ⟨w4.heap.size,0,none⟩ = some (.bool y.neg) /\ w'.cell? ⟨w4.heap.size,1,none⟩ = some (.slice y.A y.N.length y.c) /\ w'.cell? ⟨w4.heap.size,2,none⟩ = some (.slice y.B y.D.length y.d)) 27 rfl (by kernel_rfl) (HBX.out _ (Below.refl _ _).drew) (fun hHeld=>?_)
   iterate 10 (((refine wpAnyH_takeN (v:=?_) rfl (by kernel_rfl) (fun _ _ _ h=>h) ⟨by rfl,?_⟩ hHeld ?_;rotate_left;· intro w' hSw;obtain ⟨s1,s2,s3,s4,s5,s6⟩:=hSw;go_simp;try with_reducible rfl);simp only [List.setIfInBounds_toArray,List.set_cons_zero,List.set_cons_succ]))
   refine wpAnyH_oneW 10 rfl (by kernel_rfl) (by rfl) (fun K hK=>?_)
   go_simp
   refine (CG.out w7.drew (HA7.out.below (Below.refl _ _).drew) (HBB7.out.below (Below.refl _ _).drew)).mono ?_
   rintro e w8 ⟨z,rfl,hz8,hb8⟩
   have HZ8:=zH hz8
   have HB8:Hid (Below w7.heap.size w7 w8):=zH (below_undrew hb8)
   clear hz8 hb8 CG
   go_simp
   refine hK _ _ (HBX.out w8 HB8.out) (fun hHeld=>?_)
   clear hK K
   refine wpAnyH_oneW 11 rfl (by kernel_rfl) (by rfl) (fun K hK=>?_)
   go_simp
   refine (rqSame_any x z (gapQ (vsOf L) (vsOf M)) (gapQ (vsOf L) (vsOf M)) w8 (HQ7.out.below HB8.out) HZ8.out FX2.out true (zH (by simp))).mono ?_
   rintro e w9 ⟨rfl,hb9⟩
   have HB9:=zH (HB8.out.trans (hb9.mono HB8.out.size))
   clear hb9 HZ8 HB8
   go_simp
   refine hK _ _ (HBX.out w9 HB9.out) (fun hHeld=>?_)
   clear hK K
   iterate 4 (((refine wpAnyH_takeN (v:=?_) rfl (by kernel_rfl) (fun _ _ _ h=>h) ⟨by rfl,?_⟩ hHeld ?_;rotate_left;· intro w' hSw;obtain ⟨s1,s2,s3,s4,s5,s6⟩:=hSw;go_simp;try with_reducible rfl);simp only [List.setIfInBounds_toArray,List.set_cons_zero,List.set_cons_succ]))
   refine wpAnyH_oneW 16 rfl (by kernel_rfl) (by rfl) (fun K hK=>?_)
   go_simp
   refine (rqSame_any x y (gapQ (vsOf L) (vsOf M)) (gapQ (vsOf L) (vsOf M)) w9 (HQ7.out.below HB9.out) (HP7.out.below HB9.out) FX2.out true (zH (by simp))).mono ?_
   rintro e w10 ⟨rfl,hb10⟩
   have HB10:=zH (HB9.out.trans (hb10.mono HB9.out.size))
   clear hb10 HB9
   go_simp
   refine hK _ _ (HBX.out w10 HB10.out) (fun hHeld=>?_)
   clear hK K
   iterate 3 (((refine wpAnyH_takeN (v:=?_) rfl (by kernel_rfl) (fun _ _ _ h=>h) ⟨by rfl,?_⟩ hHeld ?_;rotate_left;· intro w' hSw;obtain ⟨s1,s2,s3,s4,s5,s6⟩:=hSw;go_simp;try with_reducible rfl);simp only [List.setIfInBounds_toArray,List.set_cons_zero,List.set_cons_succ]))
   refine wpAnyH_oneW 20 rfl (by kernel_rfl) (by rfl) (fun K hK=>?_)
   go_simp
   refine (qSign_any x (gapQ (vsOf L) (vsOf M)) w10 (HQ7.out.below HB10.out).fv FX.out sg0 QS).mono ?_
   rintro e w11 ⟨rfl,hb11⟩
   have HB11:=zH (HB10.out.trans (hb11.mono HB10.out.size))
   clear hb11 HB10
   go_simp
   refine hK _ _ (HBX.out w11 HB11.out) (fun hHeld=>?_)
   clear hK K
   iterate 3 (((refine wpAnyH_takeN (v:=?_) rfl (by kernel_rfl) (fun _ _ _ h=>h) ⟨by rfl,?_⟩ hHeld ?_;rotate_left;· intro w' hSw;obtain ⟨s1,s2,s3,s4,s5,s6⟩:=hSw;go_simp;try with_reducible rfl);simp only [List.setIfInBounds_toArray,List.set_cons_zero,List.set_cons_succ]))
   refine wpAnyH_oneW 24 rfl (by kernel_rfl) (by rfl) (fun K hK=>?_)
   go_simp
   refine (known10_any w11).mono ?_
   rintro e w12 ⟨rfl,hb12⟩
   have HB12:=zH (HB11.out.trans (hb12.mono HB11.out.size))
   clear hb12 HB11
   go_simp
   refine hK _ _ (HBX.out w12 HB12.out) (fun hHeld=>?_)
   clear hK K
   iterate 2 (((refine wpAnyH_takeN (v:=?_) rfl (by kernel_rfl) (fun _ _ _ h=>h) ⟨by rfl,?_⟩ hHeld ?_;rotate_left;· intro w' hSw;obtain ⟨s1,s2,s3,s4,s5,s6⟩:=hSw;go_simp;try with_reducible rfl);simp only [List.setIfInBounds_toArray,List.set_cons_zero,List.set_cons_succ]))
   refine wpAnyH_done (by kernel_rfl) ?_ _
   go_wp2_with fail
   go_ret
   exact ⟨rfl,HW7.out.trans (HB12.out.mono HW7.out.size)⟩
  ·have q0:(r != 0) = true:=by simpa using h0
   have q1:(r == r) = true:=by simp
   have hz:=HZ.out h0
   have e0:gapE r (vsOf L) (vsOf M) = ((0:Int):Rat):=by unfold gapE;rw [if_neg h0]
   rw [e0] at HQ7
   have S0:Sz ((0:Int):Rat) 2:=Sz.i64 (by decide) (by decide)
   have C4:Hid (Calls Tryz.prog 17 #[x.val,zeroFr.val] w7 fun e w'=>e = .returned (.bool true) /\ Below w7.heap.size w7 w'):=zH (rqSame_any x zeroFr ((0:Int):Rat) ((0:Int):Rat) w7 HQ7.out (by rw [<- hz];exact HQ7.out) (HQ7.out.few (S0.mono (by decide))) true (zH (by decide)))
   obtain ⟨x0,x1,x2,-,-,-⟩:=HX7.out.facts
   clear hz e0 S0 h0 HZ HR HR2 HX7 HQ7 HY7 HP7 HA7 HBB7 HVL HVM
   go_wp2_with fail
   refine C4.out.mono ?_
   rintro e w8 ⟨rfl,hb8⟩
   have HW8:=zH (HW7.out.trans (hb8.mono HW7.out.size))
   clear x0 x1 x2 hb8 C4 HW7
   go_wp2_with fail
   refine (known10_any w8).mono ?_
   rintro e w9 ⟨rfl,hb9⟩
   go_wp2_with fail
   go_ret
   exact ⟨rfl,HW8.out.trans (hb9.mono HW8.out.size)⟩
end Go.Proofs.YtcjicjfbippmnaaGreat
namespace Go.Proofs.YtcjicjfbippmnaaGreat
open Go.RowKit Go.WideShapes

def Rd {H:Type} (enc:TypeId × Value -> H) (P:Program) (w:World) (t:TypeId) (cs:List Value):Prop:=
 ∃ fuel x,DataW.trod enc P w 0 (fun _=>true) true fuel t cs = some x

section
variable {α:Type} {H:Type} {enc:TypeId × Value -> H} {P:Program} {w:World} {t e:TypeId} {cs:List Value}

theorem Rd.of {v:Value} {d:DataW H} {p:List MemPlace} (h:DataW.Trod enc P w 0 (fun _=>true) true t v d p):Rd enc P w t v.cells.toList:=by
 obtain ⟨fuel,hf⟩:=h
 exact ⟨fuel,_,hf⟩
theorem Rd.int {k:IntKind} (ht:P.underlying t = some (.int k)) (h:Rd enc P w t cs):∃ n,cs = [.int k n] /\ k.min <= n /\ n <= k.max:=by
 obtain ⟨fuel,x,hf⟩:=h
 cases fuel with
 | zero=>simp [DataW.trod] at hf
 | succ f=>
  unfold DataW.trod at hf
  rw [ht] at hf
  split at hf <;> simp_all
  rename_i h1
  obtain ⟨⟨rfl,hw⟩,_⟩:=hf
  subst h1
  simpa [Lit.wf] using hw
theorem chunk {elem : α -> List Value} {S:Nat}:∀ (l:List α) (a:Addr),(∀ i x,l[i]? = some x -> (elem x).length = S /\ ∀ j,j < S -> w.cell? (a.add (i * S + j)) = (elem x)[j]?) ->
  ∀ k u,(l.flatMap elem)[k]? = some u -> w.cell? (a.add k) = some u:=by
 intro l
 induction l with
 | nil=>intro a _ k u h;simp at h
 | cons x xs ih=>
  intro a h k u hk
  obtain ⟨h1,h2⟩:=h 0 x rfl
  rw [List.flatMap_cons,List.getElem?_append] at hk
  split at hk <;> rename_i hlt
  ·rw [h1] at hlt
   have:=h2 k hlt
   rw [Nat.zero_mul,Nat.zero_add,hk] at this
   exact this
  ·rw [h1] at hk hlt
   have h3:=ih (a.add S) (fun i y hy=>by
    obtain ⟨g1,g2⟩:=h (i + 1) y (by simpa using hy)
    refine ⟨g1,fun j hj=>?_⟩
    rw [Addr.add_add,<- g2 j hj]
    congr 2
    rw [Nat.succ_mul];omega) (k - S) u hk
   rw [Addr.add_add] at h3
   rwa [show S + (k - S) = k by omega] at h3

theorem Rd.slice {α:Type} {S:Nat} (ht:P.underlying t = some (.slice e)) (hS:P.cellsOf e = S) (elem : α -> List Value) (Pr : α -> Prop)
  (he:∀ cs,Rd enc P w e cs -> ∃ a,cs = elem a /\ Pr a) (h:Rd enc P w t cs) :
  ∃ A c,∃ l:List α,cs = [.slice A l.length c] /\ Lies w A (l.flatMap elem) /\ (A = none -> c = 0 /\ l = []) /\ l.length <= 9223372036854775807 /\ l.length <= c /\ (∀ a ∈ l,Pr a):=by
 obtain ⟨fuel,x,hf⟩:=h
 rcases DataW.trod_slice ht hf with ⟨rfl,_⟩ | ⟨a,len,cap,elems,rest,n,_,rfl,_,_,hl,hm,hlen,hel,_,_⟩
 ·exact ⟨none,0,[],rfl,Lies.nil _ _,fun _=>⟨rfl,rfl⟩,by simp,by simp,by simp⟩
 ·have key:∀ i,i < len -> ∃ y,Pr y /\ (elem y).length = S /\ ∀ j,j < S -> w.cell? (a.add (i * S + j)) = (elem y)[j]?:=by
   intro i hi
   have h1:=hel i hi
   rw [List.getElem?_eq_getElem (by omega)] at h1
   obtain ⟨es,h2,h3⟩:=Option.bind_eq_some_iff.1 h1
   obtain ⟨y,rfl,hy⟩:=he es ⟨n,_,h3⟩
   obtain ⟨_,h4,h5⟩:=World.cells?_some h2
   rw [hS] at h4 h5
   refine ⟨y,hy,h4,fun j hj=>?_⟩
   rw [<- h5 j hj,Addr.add_add]
  have pick:∀ m,m <= len -> ∃ l:List α,l.length = m /\ ∀ i y,l[i]? = some y -> Pr y /\ (elem y).length = S /\ ∀ j,j < S -> w.cell? (a.add (i * S + j)) = (elem y)[j]?:=by
   intro m
   induction m with
   | zero=>intro _;exact ⟨[],rfl,fun i y hy=>by simp at hy⟩
   | succ m ih=>
    intro hm'
    obtain ⟨l,hl1,hl2⟩:=ih (by omega)
    obtain ⟨y,hy⟩:=key m (by omega)
    refine ⟨l ++ [y],by simp [hl1],fun i z hz=>?_⟩
    rw [List.getElem?_append] at hz
    split at hz
    ·exact hl2 i z hz
    ·rename_i hge
     have hi:i = m:=by
      have:=(List.getElem?_eq_some_iff.1 hz).1
      simp at this;omega
     subst hi
     rw [hl1,Nat.sub_self] at hz
     simp at hz
     subst hz
     exact hy
  obtain ⟨l,hll,hg⟩:=pick len (Nat.le_refl _)
  refine ⟨some a,cap,l,by rw [hll],fun h0=>?_,fun h=>by simp at h,?_,by omega,fun y hy=>?_⟩
  ·have hc:=chunk (w:=w) l a (fun i x hx=>(hg i x hx).2)
   obtain ⟨u,hu⟩:∃ u,(l.flatMap elem)[0]? = some u:=⟨_,List.getElem?_eq_getElem h0⟩
   have h1:=hc 0 u hu
   obtain ⟨b,off,sp⟩:=a
   have hsp:sp = none:=by
    cases sp with
    | none=>rfl
    | some q=>
     exfalso
     simp [Addr.add,World.cell?] at h1
     split at h1 <;> simp_all
   subst hsp
   refine ⟨b,off,rfl,?_,fun k u hk=>?_⟩
   ·apply Decidable.byContradiction
    intro hb
    simp [Addr.add,World.cell?,hb] at h1
   ·have:=hc k u hk
    rwa [Addr.add_lit] at this
  ·rw [hll];unfold maxLen at hm;omega
  ·obtain ⟨i,hi,rfl⟩:=List.getElem_of_mem hy
   exact (hg i _ (List.getElem?_eq_getElem hi)).1
theorem Rd.ints (ht:P.underlying t = some (.slice e)) (he:P.underlying e = some (.int .i64)) (hc:P.cellsOf e = 1) (h:Rd enc P w t cs) :
  ∃ A c l,cs = [.slice A l.length c] /\ Lies w A (ics l) /\ (A = none -> c = 0 /\ l = []) /\ l.length <= 9223372036854775807 /\ l.length <= c /\ (∀ x ∈ l,-9223372036854775808 <= x /\ x <= 9223372036854775807):=by
 obtain ⟨A,c,l,h1,h2,h3⟩:=h.slice ht hc (fun n=>[Value.int .i64 n]) (fun n=>-9223372036854775808 <= n /\ n <= 9223372036854775807) (fun cs hcs=>hcs.int he)
 refine ⟨A,c,l,h1,?_,h3⟩
 have:(l.flatMap fun n=>[Value.int .i64 n]) = ics l:=by
  clear h1 h2 h3
  induction l with
  | nil=>rfl
  | cons x xs ih=>rw [List.flatMap_cons,ih];rfl
 rwa [this] at h2
variable {v:Value} {d:DataW H} {p:List MemPlace} {r:Reach} {b0:Nat}
theorem op_intss {e':TypeId} (ht:P.underlying t = some (.slice e)) (he:P.underlying e = some (.slice e')) (he':P.underlying e' = some (.int .i64)) (hc:P.cellsOf e = 1) (hc':P.cellsOf e' = 1) (hv:Value.okWide P w r b0 t v) (h:DataW.Trod enc P w 0 (fun _=>true) true t v d p) :
  ∃ A c l,v = .slice A l.length c /\ Lies w A (lcs l) /\ (A = none -> c = 0 /\ l = []) /\ l.length <= 9223372036854775807 /\ l.length <= c /\ (∀ x ∈ l,InOk w x):=by
 obtain ⟨A',n',c',rfl⟩:=okWide_slice ht hv
 obtain ⟨A,c,l,h1,h2,h3⟩:=(Rd.of h).slice ht hc (fun x:Option Addr × Nat × List Int=>[Value.slice x.1 x.2.2.length x.2.1]) (InOk w) (fun cs hcs=>by
  obtain ⟨A,c,l,rfl,q⟩:=hcs.ints he he' hc'
  exact ⟨(A,c,l),rfl,q⟩)
 have:(l.flatMap fun x:Option Addr × Nat × List Int=>[Value.slice x.1 x.2.2.length x.2.1]) = lcs l:=by
  clear h1 h2 h3
  induction l with
  | nil=>rfl
  | cons x xs ih=>rw [List.flatMap_cons,ih];rfl
 rw [this] at h2
 simp [Value.cells] at h1
 obtain ⟨rfl,rfl,rfl⟩:=h1
 exact ⟨A',c',l,rfl,h2,h3⟩
end
end Go.Proofs.YtcjicjfbippmnaaGreat
