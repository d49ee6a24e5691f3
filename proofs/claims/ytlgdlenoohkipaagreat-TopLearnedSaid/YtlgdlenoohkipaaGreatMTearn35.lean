/- TopLearned -/
import Derived.Test.YtlgdlenoohkipaaGreatMTearn34
set_option maxRecDepth 100000
set_option maxHeartbeats 32000000
namespace Go.Proofs.YtlgdlenoohkipaaGreat
open Go.RowKit Ear

theorem Vf {F:Int} {A:Option Addr} {n c:Nat} {t:TypeId} {W0:World} {b:Nat} (h:W0.heap[b]? = some (.cells #[.int .i64 F,.slice A n c] t (0,0))):∀ u,Below W0.heap.size W0 u -> u.cell? ⟨b,0,none⟩ = some (.int .i64 F) /\ u.cell? ⟨b,1,none⟩ = some (.slice A n c):=fun u hu=>by
 have hh:=(hu.block _ (aE h).1).trans h;exact ⟨(cR 0 hh).trans rfl,(cR 1 hh).trans rfl⟩
def Ab (w:World) (k:Nat) (a:Ar):Prop:=w.heap[k]? = some (.cells (arc a).toArray 91 (0,0))
theorem Ab.below {w w':World} {k:Nat} {a:Ar} (h:Ab w k a) (hb:Below w.heap.size w w'):Ab w' k a:=(hb.block k (aE h).1).trans h
theorem Ab.facts {w:World} {k:Nat} {a:Ar} (h:Ab w k a):w.cell? ⟨k,0,none⟩ = some (.int .i64 a.fr) /\ w.cell? ⟨k,1,none⟩ = some (.int .i64 a.en) /\ w.cell? ⟨k,2,none⟩ = some (.int .i64 a.wd) /\ w.cell? ⟨k,3,none⟩ = some (.int .i64 a.vr) /\ w.cell? ⟨k,4,none⟩ = some (.bool a.x.neg) /\ w.cell? ⟨k,5,none⟩ = some (.slice a.x.A a.x.N.length a.x.c) /\ w.cell? ⟨k,6,none⟩ = some (.slice a.x.B a.x.D.length a.x.d):=
 ⟨(cR 0 h).trans rfl,(cR 1 h).trans rfl,(cR 2 h).trans rfl,(cR 3 h).trans rfl,(cR 4 h).trans rfl,(cR 5 h).trans rfl,(cR 6 h).trans rfl⟩
theorem ZdB (Fm:Int) (A:Option Addr) (c:Nat) (L:List Ar) (w:World) (h:ArL w A L) (hf:∀ a ∈ L,Few a.x 100) (hk:Hid (LatOk Fm L)) :
  Calls Tryz.prog 72 #[.agg #[.int .i64 Fm,.slice A L.length c]] w (VU 0 w):=by
 obtain ⟨W0,hW0⟩:∃ X:World,X = w.alloc (.cells #[.int .i64 Fm,.slice A L.length c] 24):=⟨_,rfl⟩;have HB0:Hid (Below w.heap.size w W0):=zH (by rw [hW0];exact bR.alloc nR _);have HX0:Hid (W0.heap[w.heap.size]? = some (.cells #[.int .i64 Fm,.slice A L.length c] 24 (0,0))):=zH (by rw [hW0];exact heap_alloc_new w _);have HPB:=zH (Vf HX0.out);have HA:=zH (h.below HB0.out);have HF:=zH hf;have hl:=hk.out.len;have hfm:=hk.out.frm;have g1:¬ (20000:Int) < (L.length:Int):=by omega
 have g2:¬ Fm < 0:=by omega
 have g3:¬ (1000:Int) < Fm:=by omega
 obtain ⟨c0,c1⟩:=HPB.out W0 bR;clear h hf HX0;go_enter Tryz.func72,Tryz.ntmps72;go_upto_region 1 with fail;rw [<- hW0];clear hW0;go_upto_region 5 with fail;go_wp2_with fail;clear c0 c1 g1 g2 g3;have HB9:Hid (Below W0.heap.size W0 W0):=zH bR;go_loopw [20] (fun i wr=>∃ k:Nat,k <= L.length /\ i = .int .i64 (k:Int) /\ Hid (Below W0.heap.size W0 wr)) (fun i _=>L.length - (intOf i).toNat)
 case atStart=>exact ⟨0,Nat.zero_le _,rfl,HB9⟩
 case round=>
  obtain ⟨k,hkl,rfl,HB⟩:=hrel;clear HB9;by_cases hlt:k < L.length
  ·have hlt':(k:Int) < (L.length:Int):=by omega
   obtain ⟨b,off,rfl,hb,v0,v1,v2,v3,v4,v5,v6⟩:=(HA.out.below HB.out).at_ hlt;have hok:=hk.out.arc _ (yM hlt);have HFX:=zH (HF.out _ (yM hlt));have HRX:=zH ((HA.out.below HB.out).ok _ (yM hlt));have HPREV:Hid (∀ j,(hj:j + 1 = k) -> arB L[j] L[k] = true):=zH (fun j hj=>by subst hj;exact hk.out.ord j hlt);generalize hLk:L[k] = a at *
   obtain ⟨Wa,hWa⟩:∃ X:World,X = wr.alloc (.cells (arc a).toArray 91):=⟨_,rfl⟩;have HBa:Hid (Below wr.heap.size wr Wa):=zH (by rw [hWa];exact bR.alloc nR _);have HAb:Hid (Ab Wa wr.heap.size a):=zH (by rw [hWa];exact heap_alloc_new wr _);have HXV:=zH (HRX.out.W.fv.below HBa.out);have HBW:Hid (Below W0.heap.size W0 Wa):=zH (HB.out.trans (HBa.out.mono HB.out.size));simp only [arc] at hWa;go_upto_region 8 with fail;rw [<- hWa];clear hWa v0 v1 v2 v3 v4 v5 v6 hLk HRX;obtain ⟨kb,hkb⟩:∃ kb,kb = wr.heap.size:=⟨_,rfl⟩;rw [<- hkb] at HAb ⊢;clear hkb;obtain ⟨h1,h2,h3,h4,h5,h6,h7⟩:=hok;have e1:decide (a.fr < 0) = false:=dF (by omega);have e2:decide (a.en <= a.fr) = false:=dF (by omega);have e3:decide (Fm < a.en) = false:=dF (by omega);have e4:decide (a.wd < 1) = false:=dF (by omega);have e5:decide ((2000:Int) < a.wd) = false:=dF (by omega);have e6:decide (a.vr < 0) = false:=dF (by omega);obtain ⟨z,hz⟩:∃ z,z = Yu (a.x.q + -(((1:Int)):Rat)):=⟨_,rfl⟩;have hz0:z <= 0:=by
    rw [hz];have h9:(a.x.q + -(((1:Int)):Rat)) <= 0:=(by simp;grind);have h8:(a.x.q + -(((1:Int)):Rat)).num <= 0:=by
     apply Classical.byContradiction;intro h4;have h5:=Rat.num_nonneg.1 (show 0 <= (a.x.q + -(((1:Int)):Rat)).num by omega);have h6:(a.x.q + -(((1:Int)):Rat)) = 0:=Rat.le_antisymm h9 h5;rw [h6] at h4;exact h4 (by decide)
    unfold Yu;split
    ·decide
    ·split
     ·decide
     ·omega
   have e7:decide ((0:Int) < z) = false:=dF (by omega);have HSG:Hid (Yu a.x.q = 1):=zH (Zel h6);have HZ:=zH hz.symm;have S1:Hid (Sz (((1:Int)):Rat) 2):=zH (Sz.i64 (by omega) (by omega));clear h1 h2 h3 h4 h5 h6 h7 hz hz0;have HC8:Hid (∀ w',Below Wa.heap.size Wa w' -> w'.cell? ⟨kb,0,none⟩ = some (.int .i64 a.fr) /\ w'.cell? ⟨kb,1,none⟩ = some (.int .i64 a.en) /\ w'.cell? ⟨kb,2,none⟩ = some (.int .i64 a.wd) /\ w'.cell? ⟨kb,3,none⟩ = some (.int .i64 a.vr) /\ w'.cell? ⟨kb,4,none⟩ = some (.bool a.x.neg) /\ w'.cell? ⟨kb,5,none⟩ = some (.slice a.x.A a.x.N.length a.x.c) /\ w'.cell? ⟨kb,6,none⟩ = some (.slice a.x.B a.x.D.length a.x.d) /\ w'.cell? ⟨w.heap.size,0,none⟩ = some (.int .i64 Fm) /\ w'.cell? ⟨w.heap.size,1,none⟩ = some (.slice (some ⟨b,off,none⟩) L.length c)):=zH (fun w' hw=>by
    obtain ⟨d0,d1,d2,d3,d4,d5,d6⟩:=(HAb.out.below hw).facts;obtain ⟨c0,c1⟩:=HPB.out w' (HBW.out.trans (hw.mono HBW.out.size));exact ⟨d0,d1,d2,d3,d4,d5,d6,c0,c1⟩)
   refine Jk (S:=fun w'=>w'.cell? ⟨kb,0,none⟩ = some (.int .i64 a.fr) /\ w'.cell? ⟨kb,1,none⟩ = some (.int .i64 a.en) /\ w'.cell? ⟨kb,2,none⟩ = some (.int .i64 a.wd) /\ w'.cell? ⟨kb,3,none⟩ = some (.int .i64 a.vr) /\ w'.cell? ⟨kb,4,none⟩ = some (.bool a.x.neg) /\ w'.cell? ⟨kb,5,none⟩ = some (.slice a.x.A a.x.N.length a.x.c) /\ w'.cell? ⟨kb,6,none⟩ = some (.slice a.x.B a.x.D.length a.x.d) /\ w'.cell? ⟨w.heap.size,0,none⟩ = some (.int .i64 Fm) /\ w'.cell? ⟨w.heap.size,1,none⟩ = some (.slice (some ⟨b,off,none⟩) L.length c)) 45 rfl (by kernel_rfl) (HC8.out Wa.drew bR.drew) (fun hd=>?_);iterate 35 (((refine Jd (v:=?_) rfl (by kernel_rfl) (fun _ _ _ h=>h) ⟨by rfl,?_⟩ hd ?_;rotate_left;· intro w' sw;obtain ⟨hS1,hS2,hS3,hS4,hS5,hS6,hS7,hS8,hS9⟩:=sw;go_simp;try with_reducible rfl);simp only [zA,zB,zC]))
   refine Jn 35 rfl (by kernel_rfl) (by rfl) (fun K hK=>?_);go_simp;refine (ZU a.x a.x.q Wa.drew (HXV.out.below bR.drew) (JN HFX.out (by decide)) 1 HSG).mono ?_;rintro e U1 ⟨rfl,hb2⟩;have hb3:=JF hb2;have hC9:=HC8.out U1 hb3;have HB1:=zH hb3;clear hb2 hb3;go_simp;refine hK _ _ hC9 (fun hd=>?_);clear hK K;iterate 5 (((refine Jd (v:=?_) rfl (by kernel_rfl) (fun _ _ _ h=>h) ⟨by rfl,?_⟩ hd ?_;rotate_left;· intro w' sw;obtain ⟨hS1,hS2,hS3,hS4,hS5,hS6,hS7,hS8,hS9⟩:=sw;go_simp;try with_reducible rfl);simp only [zA,zB,zC]))
   refine Jn 41 rfl (by kernel_rfl) (by rfl) (fun K hK=>?_);go_simp;refine (Xl 1 U1 (by omega) (by omega)).mono ?_;rintro e U2 ⟨r1,rfl,hr1,hb2⟩;have hb3:=HB1.out.trans (hb2.mono HB1.out.size);have hC9:=HC8.out U2 hb3;have HB2:=zH hb3;have HQ1:=zH hr1;clear hb2 hb3 hr1 HB1;go_simp;refine hK _ _ hC9 (fun hd=>?_);clear hK K;refine Jn 42 rfl (by kernel_rfl) (by rfl) (fun K hK=>?_);go_simp;refine (Q3 a.x r1 a.x.q (((1:Int)):Rat) U2 (HXV.out.below HB2.out) HQ1.out.fv (JN HFX.out (by decide)) (HQ1.out.few (S1.out.mono (by decide))) z HZ).mono ?_;rintro e U3 ⟨rfl,hb2⟩;have hb3:=HB2.out.trans (hb2.mono HB2.out.size);have hC9:=HC8.out U3 hb3;have HB3:=zH hb3;clear hb2 hb3 HB2;go_simp;refine hK _ _ hC9 (fun hd=>?_);clear hK K;iterate 2 (((refine Jd (v:=?_) rfl (by kernel_rfl) (fun _ _ _ h=>h) ⟨by rfl,?_⟩ hd ?_;rotate_left;· intro w' sw;obtain ⟨hS1,hS2,hS3,hS4,hS5,hS6,hS7,hS8,hS9⟩:=sw;go_simp;try with_reducible rfl);simp only [zA,zB,zC]))
   refine wpAnyH_done (by kernel_rfl) ?_ _;go_upto_region 10 with fail;clear e1 e2 e3 e4 e5 e6 e7;have HBU:Hid (Below W0.heap.size W0 U3):=zH (HBW.out.trans (HB3.out.mono HBW.out.size));have HC9:=zH (fun w' (hw:Below U3.heap.size U3 w')=>HC8.out w' (HB3.out.trans (hw.mono HB3.out.size)));by_cases hk0 : 0 < k
   ·obtain ⟨j,hj⟩:∃ j,j + 1 = k:=⟨k - 1,by omega⟩;have g4:decide ((0:Int) < (k:Int)) = true:=decide_eq_true (by omega);have g5:decide (0 < k) = true:=decide_eq_true hk0;have hjl:j < L.length:=(by omega);have p1:IntKind.i64.wrap ((k:Int) - 1) = (j:Int):=(by rw [IntWalk.i64_in _ (by omega)];omega);have hj0:(j:Int) < (L.length:Int):=(by omega);have HOR:=Zgl (HPREV.out j hj);obtain ⟨b',off',he,-,-⟩:=(HA.out.below HBU.out).at_ hjl;injection he with he
    injection he with he1 he2 _
    subst he1 he2;have HPA:Hid (∀ w',Below U3.heap.size U3 w' -> w'.cell? ⟨b,off + j * 7,none⟩ = some (.int .i64 L[j].fr) /\ w'.cell? ⟨b,off + j * 7 + 1,none⟩ = some (.int .i64 L[j].en) /\ w'.cell? ⟨b,off + j * 7 + 2,none⟩ = some (.int .i64 L[j].wd) /\ w'.cell? ⟨b,off + j * 7 + 3,none⟩ = some (.int .i64 L[j].vr) /\ w'.cell? ⟨b,off + j * 7 + 4,none⟩ = some (.bool L[j].x.neg) /\ w'.cell? ⟨b,off + j * 7 + 5,none⟩ = some (.slice L[j].x.A L[j].x.N.length L[j].x.c) /\ w'.cell? ⟨b,off + j * 7 + 6,none⟩ = some (.slice L[j].x.B L[j].x.D.length L[j].x.d)):=zH (fun w' hw=>by
     obtain ⟨b',off',he,-,q⟩:=((HA.out.below HBU.out).below hw).at_ hjl;injection he with he
     injection he with he1 he2 _
     subst he1 he2;exact q)
    have HORD:=zH HOR;generalize L[j] = p at *
    clear HOR;have HC10:Hid (∀ w',Below U3.heap.size U3 w' -> w'.cell? ⟨kb,0,none⟩ = some (.int .i64 a.fr) /\ w'.cell? ⟨kb,1,none⟩ = some (.int .i64 a.en) /\ w'.cell? ⟨kb,2,none⟩ = some (.int .i64 a.wd) /\ w'.cell? ⟨kb,3,none⟩ = some (.int .i64 a.vr) /\ w'.cell? ⟨kb,4,none⟩ = some (.bool a.x.neg) /\ w'.cell? ⟨kb,5,none⟩ = some (.slice a.x.A a.x.N.length a.x.c) /\ w'.cell? ⟨kb,6,none⟩ = some (.slice a.x.B a.x.D.length a.x.d) /\ w'.cell? ⟨w.heap.size,0,none⟩ = some (.int .i64 Fm) /\ w'.cell? ⟨w.heap.size,1,none⟩ = some (.slice (some ⟨b,off,none⟩) L.length c) /\ w'.cell? ⟨b,off + j * 7,none⟩ = some (.int .i64 p.fr) /\ w'.cell? ⟨b,off + j * 7 + 1,none⟩ = some (.int .i64 p.en) /\ w'.cell? ⟨b,off + j * 7 + 2,none⟩ = some (.int .i64 p.wd) /\ w'.cell? ⟨b,off + j * 7 + 3,none⟩ = some (.int .i64 p.vr) /\ w'.cell? ⟨b,off + j * 7 + 4,none⟩ = some (.bool p.x.neg) /\ w'.cell? ⟨b,off + j * 7 + 5,none⟩ = some (.slice p.x.A p.x.N.length p.x.c) /\ w'.cell? ⟨b,off + j * 7 + 6,none⟩ = some (.slice p.x.B p.x.D.length p.x.d)):=zH (fun w' hw=>by
     obtain ⟨d0,d1,d2,d3,d4,d5,d6,c0,c1⟩:=HC9.out w' hw;obtain ⟨q0,q1,q2,q3,q4,q5,q6⟩:=HPA.out w' hw;exact ⟨d0,d1,d2,d3,d4,d5,d6,c0,c1,q0,q1,q2,q3,q4,q5,q6⟩)
    refine Jk (S:=fun w'=>w'.cell? ⟨kb,0,none⟩ = some (.int .i64 a.fr) /\ w'.cell? ⟨kb,1,none⟩ = some (.int .i64 a.en) /\ w'.cell? ⟨kb,2,none⟩ = some (.int .i64 a.wd) /\ w'.cell? ⟨kb,3,none⟩ = some (.int .i64 a.vr) /\ w'.cell? ⟨kb,4,none⟩ = some (.bool a.x.neg) /\ w'.cell? ⟨kb,5,none⟩ = some (.slice a.x.A a.x.N.length a.x.c) /\ w'.cell? ⟨kb,6,none⟩ = some (.slice a.x.B a.x.D.length a.x.d) /\ w'.cell? ⟨w.heap.size,0,none⟩ = some (.int .i64 Fm) /\ w'.cell? ⟨w.heap.size,1,none⟩ = some (.slice (some ⟨b,off,none⟩) L.length c) /\ w'.cell? ⟨b,off + j * 7,none⟩ = some (.int .i64 p.fr) /\ w'.cell? ⟨b,off + j * 7 + 1,none⟩ = some (.int .i64 p.en) /\ w'.cell? ⟨b,off + j * 7 + 2,none⟩ = some (.int .i64 p.wd) /\ w'.cell? ⟨b,off + j * 7 + 3,none⟩ = some (.int .i64 p.vr) /\ w'.cell? ⟨b,off + j * 7 + 4,none⟩ = some (.bool p.x.neg) /\ w'.cell? ⟨b,off + j * 7 + 5,none⟩ = some (.slice p.x.A p.x.N.length p.x.c) /\ w'.cell? ⟨b,off + j * 7 + 6,none⟩ = some (.slice p.x.B p.x.D.length p.x.d)) 13 rfl (by kernel_rfl) (HC10.out U3.drew bR.drew) (fun hd=>?_);iterate 10 (((refine Jd (v:=?_) rfl (by kernel_rfl) (fun _ _ _ h=>h) ⟨by rfl,?_⟩ hd ?_;rotate_left;· intro w' sw;obtain ⟨hS1,hS2,hS3,hS4,hS5,hS6,hS7,hS8,hS9,hS10,hS11,hS12,hS13,hS14,hS15,hS16⟩:=sw;go_simp;try with_reducible rfl);simp only [zA,zB,zC]))
    refine Jn 10 rfl (by kernel_rfl) (by rfl) (fun K hK=>?_);go_simp;refine (Zdx p a U3.drew (-1) HORD).mono ?_;rintro e U4 ⟨rfl,hb2⟩;have hb3:=JF hb2;have hC9:=HC10.out U4 hb3;have HB4:=zH hb3;clear hb2 hb3;go_simp;refine hK _ _ hC9 (fun hd=>?_);clear hK K;iterate 2 (((refine Jd (v:=?_) rfl (by kernel_rfl) (fun _ _ _ h=>h) ⟨by rfl,?_⟩ hd ?_;rotate_left;· intro w' sw;obtain ⟨hS1,hS2,hS3,hS4,hS5,hS6,hS7,hS8,hS9,hS10,hS11,hS12,hS13,hS14,hS15,hS16⟩:=sw;go_simp;try with_reducible rfl);simp only [zA,zB,zC]))
    refine wpAnyH_done (by kernel_rfl) ?_ _;go_wp2_with fail;exact ⟨⟨k + 1,by omega,by go_num,zH (HBU.out.trans (HB4.out.mono HBU.out.size))⟩,by simp [intOf];omega⟩
   ·obtain rfl:k = 0:=(by omega);refine Jk (S:=fun w'=>w'.cell? ⟨kb,0,none⟩ = some (.int .i64 a.fr) /\ w'.cell? ⟨kb,1,none⟩ = some (.int .i64 a.en) /\ w'.cell? ⟨kb,2,none⟩ = some (.int .i64 a.wd) /\ w'.cell? ⟨kb,3,none⟩ = some (.int .i64 a.vr) /\ w'.cell? ⟨kb,4,none⟩ = some (.bool a.x.neg) /\ w'.cell? ⟨kb,5,none⟩ = some (.slice a.x.A a.x.N.length a.x.c) /\ w'.cell? ⟨kb,6,none⟩ = some (.slice a.x.B a.x.D.length a.x.d) /\ w'.cell? ⟨w.heap.size,0,none⟩ = some (.int .i64 Fm) /\ w'.cell? ⟨w.heap.size,1,none⟩ = some (.slice (some ⟨b,off,none⟩) L.length c)) 13 rfl (by kernel_rfl) (HC9.out U3.drew bR.drew) (fun hd=>?_);iterate 13 (first | ((refine Jd (v:=?_) rfl (by kernel_rfl) (fun _ _ _ h=>h) ⟨by rfl,?_⟩ hd ?_;rotate_left;· intro w' sw;obtain ⟨hS1,hS2,hS3,hS4,hS5,hS6,hS7,hS8,hS9⟩:=sw;go_simp;try with_reducible rfl);simp only [zA,zB,zC]) | (refine XP rfl (by kernel_rfl) (fun _ _ _ h=>h) (by rfl) hd ?_;simp only [zA,zB,zC]))
    refine wpAnyH_done (by kernel_rfl) ?_ _;go_wp2_with fail;exact ⟨⟨0 + 1,by omega,by go_num,zH HBU.out.drew⟩,by simp [intOf];omega⟩
  ·obtain rfl:k = L.length:=by omega
   go_wp2_with fail;refine bodyPost_ret (v:=.int .i64 0) (by simp [results,Tryz.results72,go_sem]) rfl ?_;exact ⟨rfl,HB0.out.trans (HB.out.mono HB0.out.size)⟩
open Go.Maps
theorem ZcH:(127:TypeId) < Tryz.prog.types.size:=of_decide_eq_true (by kernel_rfl)
theorem Zex:(match Tryz.prog.underlying 127 with | some (.array _ _) | some (.struct _)=>true | _=>false) = true:=by rw [Tryz.underlying127]
theorem VI:Keyed Tryz.prog 127:=Keyed.of_law (deep_law_laid Zj1 (m:=2) (by omega) ZcH (by kernel_rfl) Zex)
theorem Qz:Tryz.prog.cellsOf 127 = 4:=by kernel_rfl
theorem Zey:Tryz.prog.keyType 127 = true:=by kernel_rfl
theorem ZhW (k:K4) (h:kOk k):∃ l,keyOf Tryz.prog 127 (ek k) = some l:=by
 obtain ⟨d,hd⟩:∃ d,Tryz.prog.types.size + 1 = d + 2:=⟨Tryz.prog.types.size - 1,by have : 127 < Tryz.prog.types.size:=ZcH;omega⟩;obtain ⟨k0,k1,k2,k3⟩:=k;obtain ⟨h0,h1,h2,h3⟩:=h;simp only at h0 h1 h2 h3;have w0:=ZgW k0 h0;have w1:=ZgW k1 h1;have w2:=ZgW k2 h2;have w3:=ZgW k3 h3;unfold keyOf;rw [Tryz.underlying127];simp only [Zey,Bool.true_and,hd];have hf:(ek (k0,k1,k2,k3)).formed Tryz.prog 127 = true:=by simp [ek,Value.formed,Tryz.underlying127,Qz]
 rw [if_pos hf];simp [Program.keyLits,Tryz.underlying127,Tryz.underlying3,Qz,Zba,ek,Value.cells,List.range_succ,w0,w1,w2,w3]
abbrev rwV (V:Nat) (g:Nat):Value:=.slice (some ⟨g,0,none⟩) V V
theorem Dg.kpc {w w':World} {A:Option Addr} {c:Nat} {l:List Int} (h:Dg w A c l) (k:KpC w w'):Dg w' A c l:=⟨k.lies h.lies,h.dig,h.cap,h.nil⟩
theorem FrOk.kpc {w w':World} {x:Fr} (h:FrOk w x) (k:KpC w w'):FrOk w' x:=⟨h.n.kpc k,h.d.kpc k⟩
theorem Fv.kpc {w w':World} {x:Fr} {q:Rat} (h:Fv w x q) (k:KpC w w'):Fv w' x q:=⟨h.n.kpc k,h.d.kpc k,h.val⟩
theorem Fq.kpc {w w':World} {x:Fr} {q:Rat} (h:Fq w x q) (k:KpC w w'):Fq w' x q:=⟨h.ok.kpc k,h.neg,h.num,h.dn⟩
theorem FL.kpc {w w':World} {A:Option Addr} {n:Nat} {X:Nat -> Fr} {Q:Nat -> Rat} (h:FL w A n X Q) (k:KpC w w'):FL w' A n X Q:=fun j hj=>by
 obtain ⟨b,off,e,hlt,h0,h1,h2,h3⟩:=h j hj;exact ⟨b,off,e,Nat.lt_of_lt_of_le hlt k.size,k.cell h0,k.cell h1,k.cell h2,h3.kpc k⟩
theorem ArL.kpc {w w':World} {A:Option Addr} {L:List Ar} (h:ArL w A L) (k:KpC w w'):ArL w' A L:=⟨k.lies h.lies,fun a ha=>by
 obtain ⟨h1,h2,h3,h4,h5,h6,h7⟩:=h.ok a ha;exact ⟨h1,h2,h3,h4,h5.kpc k,h6,h7⟩⟩
theorem LgM.kpc {w w':World} {o v:Int} {A:Option Addr} {L:List Gm} {kd:Int} {x:Fr} {q:Rat} {M:Option Addr} {mn:Nat} {X:Nat -> Fr} {mx:Nat -> Rat} (h:LgM w o v A L kd x q M mn X mx) (k:KpC w w'):LgM w' o v A L kd x q M mn X mx:=
 ⟨h.tb.kpc k,h.tab,h.amt.kpc k,h.few,h.mix.kpc k,h.fmx,h.ok⟩
structure GrP where
 Fm:Int
 A:Option Addr
 c:Nat
 L:List Ar
 o:Nat
 V:Nat
 TA:Option Addr
 tc:Nat
 T:List Gm
 kd:Int
 x:Fr
 q:Rat
 M:Option Addr
 mn:Nat
 mc:Nat
 X:Nat -> Fr
 mx:Nat -> Rat
structure GrOk (w:World) (p:GrP):Prop where
 lg:LgM w p.o ((p.V:Int) - 1) p.TA p.T p.kd p.x p.q p.M p.mn p.X p.mx
 hV : 2 <= p.V /\ p.V <= 100
 ar:ArL w p.A p.L
 fa:∀ a ∈ p.L,Few a.x 100
 lat:LatOk p.Fm p.L
 wd:∀ a ∈ p.L,a.wd <= (p.V:Int) - 1
theorem GrOk.below {w w':World} {p:GrP} (h:GrOk w p) (hb:Below w.heap.size w w'):GrOk w' p:=⟨h.lg.below hb,h.hV,h.ar.below hb,h.fa,h.lat,h.wd⟩
theorem GrOk.kpc {w w':World} {p:GrP} (h:GrOk w p) (k:KpC w w'):GrOk w' p:=⟨h.lg.kpc k,h.hV,h.ar.kpc k,h.fa,h.lat,h.wd⟩
def Zb6 (o:Nat) (k:K4):List Int:=[k.1,k.2.1,k.2.2.1,k.2.2.2].take (o - 1)
def pOk (V:Nat) (k:K4):Prop:=(0 <= k.1 /\ k.1 <= (V:Int) - 1) /\ (0 <= k.2.1 /\ k.2.1 <= (V:Int) - 1) /\ (0 <= k.2.2.1 /\ k.2.2.1 <= (V:Int) - 1) /\ (0 <= k.2.2.2 /\ k.2.2.2 <= (V:Int) - 1)
theorem pOk.kOk {V:Nat} {k:K4} (h:pOk V k) (hV:V <= 100):kOk k:=by
 obtain ⟨h1,h2,h3,h4⟩:=h;exact ⟨by omega,by omega,by omega,by omega⟩
theorem ZgG {o:Nat} (k:K4) (ho : 1 <= o /\ o <= 4):(Zb6 o k).length + 1 = o:=by unfold Zb6;simp;omega
theorem Zid {o V:Nat} {k:K4} (h:pOk V k):XI 0 ((V:Int) - 1) (Zb6 o k) = true:=Zau (fun y hy=>by
 have hy:=List.mem_of_mem_take hy;obtain ⟨h1,h2,h3,h4⟩:=h;simp at hy;rcases hy with rfl | rfl | rfl | rfl
 ·exact h1
 ·exact h2
 ·exact h3
 ·exact h4)
def Zt (p:GrP) (h:K4):Nat -> Rat:=Zg5 p.kd p.o (ctA p.o (Je p.T)) p.V p.q p.mx (Zb6 p.o h)
abbrev grc (p:GrP) (rb fb fn:Nat):Array Value:=#[.int .i64 p.Fm,.slice p.A p.L.length p.c,.int .i64 (p.o:Int),.int .i64 ((p.V:Int) - 1),.slice p.TA p.T.length p.tc,.int .i64 p.kd,.bool p.x.neg,.slice p.x.A p.x.N.length p.x.c,.slice p.x.B p.x.D.length p.x.d,.slice p.M p.mn p.mc,.map (some rb),.slice (some ⟨fb,0,none⟩) fn fn,.bool false,.slice none 0 0,.slice none 0 0]
structure GrI (w:World) (p:GrP) (base gb rb fb fn:Nat):Prop where
 box:w.heap[gb]? = some (.cells (grc p rb fb fn) 152 (0,0))
 map:∃ ms:List (K4 × Nat),MapIs Tryz.prog 127 ek (rwV p.V) w rb ms /\ ∀ e ∈ ms,FRw w base e.2 p.V (Zt p e.1)
 ok:GrOk w p
 le:base <= gb /\ base <= rb
theorem GrI.below {w w':World} {p:GrP} {base gb rb fb fn:Nat} (h:GrI w p base gb rb fb fn) (hb:Below w.heap.size w w'):GrI w' p base gb rb fb fn:=by
 obtain ⟨ms,h1,h2⟩:=h.map;exact ⟨(hb.block _ (aE h.box).1).trans h.box,⟨ms,h1.below hb,fun e he=>(h2 e he).below hb⟩,h.ok.below hb,h.le⟩
theorem GrI.cells {w:World} {p:GrP} {base gb rb fb fn:Nat} (h:GrI w p base gb rb fb fn) :
  w.cell? ⟨gb,0,none⟩ = some (.int .i64 p.Fm) /\ w.cell? ⟨gb,1,none⟩ = some (.slice p.A p.L.length p.c) /\ w.cell? ⟨gb,2,none⟩ = some (.int .i64 (p.o:Int)) /\ w.cell? ⟨gb,3,none⟩ = some (.int .i64 ((p.V:Int) - 1)) /\ w.cell? ⟨gb,4,none⟩ = some (.slice p.TA p.T.length p.tc) /\ w.cell? ⟨gb,5,none⟩ = some (.int .i64 p.kd) /\ w.cell? ⟨gb,6,none⟩ = some (.bool p.x.neg) /\ w.cell? ⟨gb,7,none⟩ = some (.slice p.x.A p.x.N.length p.x.c) /\ w.cell? ⟨gb,8,none⟩ = some (.slice p.x.B p.x.D.length p.x.d) /\ w.cell? ⟨gb,9,none⟩ = some (.slice p.M p.mn p.mc) /\ w.cell? ⟨gb,10,none⟩ = some (.map (some rb)) /\ w.cell? ⟨gb,11,none⟩ = some (.slice (some ⟨fb,0,none⟩) fn fn):=by
 have hh:=h.box;exact ⟨(cR 0 hh).trans rfl,(cR 1 hh).trans rfl,(cR 2 hh).trans rfl,(cR 3 hh).trans rfl,(cR 4 hh).trans rfl,(cR 5 hh).trans rfl,(cR 6 hh).trans rfl,(cR 7 hh).trans rfl,(cR 8 hh).trans rfl,(cR 9 hh).trans rfl,(cR 10 hh).trans rfl,(cR 11 hh).trans rfl⟩
def Zhv (p:GrP) (base gb rb fb fn:Nat) (q:Rat) (w:World) (e:Ending) (w':World):Prop:=∃ r:Fr,e = .returned r.val /\ Fq w' r q /\ GrI w' p base gb rb fb fn /\ KpC w w' /\ Below base w w'
end Go.Proofs.YtlgdlenoohkipaaGreat
