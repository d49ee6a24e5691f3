/- TalkClusters -/
import Derived.Test.YtcjicjfbippmnaaGreatMTClus45
set_option maxRecDepth 100000
set_option maxHeartbeats 32000000
namespace Go.Proofs.YtcjicjfbippmnaaGreat
open Go.RowKit Ear

theorem Zih {a b:Int} (hb : 0 < b):fq (decide (a < 0) != decide (b < 0)) a.natAbs b.natAbs = (a:Rat) * ((b:Int):Rat)⁻¹:=by
 have hb0:¬ b < 0:=by omega
 rw [dF hb0,Bool.bne_false,Zdl (by omega)];have e1:sg (decide (a < 0)) a.natAbs = a:=by
  unfold sg;by_cases h:a < 0
  ·rw [decide_eq_true h];simp;omega
  ·rw [dF h];simp;omega
 rw [e1,Rat.mkRat_eq_div,Rat.div_def];have e2:((b.natAbs:Nat):Int) = b:=by omega
 congr 2;rw [<- e2];rfl
theorem Ze9 {a b:Int} (h1 : -9223372036854775808 <= a) (h2:a <= 9223372036854775807) (h3 : 0 < b) (h4:b <= 9223372036854775807):Sz ((a:Rat) * ((b:Int):Rat)⁻¹) 2:=by
 rw [<- Zih h3];exact Sz.fq (by omega) (JO (by simp;omega)) (JO (by simp;omega))
theorem Zid {va vb:List (List Int)} (ha:∀ x ∈ va,YC (-1048576) 1048576 x = true) (hb:∀ x ∈ vb,YC (-1048576) 1048576 x = true) (h1 : 0 < va.length) (h2:va.length <= 10000) (h3 : 0 < vb.length) (h4:vb.length <= 10000) (c:Nat):Sz (gM va vb c) 5:=by
 have b1:=Y0 ha c va.length;have b2:=Y0 hb c vb.length;unfold gM;refine (Sz.add (k:=2) (l:=2) (Ze9 (by omega) (by omega) (by omega) (by omega)) ?_);exact (Ze9 (by omega) (by omega) (by omega) (by omega)).neg
theorem ZiK {va vb:List (List Int)} (ha:∀ x ∈ va,YC (-1048576) 1048576 x = true) (hb:∀ x ∈ vb,YC (-1048576) 1048576 x = true) (h1 : 0 < va.length) (h2:va.length <= 10000) (h3 : 0 < vb.length) (h4:vb.length <= 10000) (c:Nat):Sz (gR va vb c) (2 + 11 * c):=by
 induction c with
 | zero=>exact Sz.i64 (by omega) (by omega)
 | succ c ih=>
  have hm:=Zid ha hb h1 h2 h3 h4 c;refine (Sz.add ih (hm.mul hm)).mono ?_;omega

theorem Zfj (A B:Option Addr) (c d:Nat) (L M:List Inn) (w:World) (hA:LL w A L) (hB:LL w B M) (h1 : 0 < L.length) (h2:L.length <= 10000) (h3 : 0 < M.length) (h4:M.length <= 10000)
  (hl:Hid (∀ x ∈ L,x.2.2.length = len0 (Jk L))) (hm:Hid (∀ x ∈ M,x.2.2.length = len0 (Jk L))) (hn:len0 (Jk L) <= 64)
  (ha:Hid (∀ x ∈ Jk L,YC (-1048576) 1048576 x = true)) (hb:Hid (∀ x ∈ Jk M,YC (-1048576) 1048576 x = true)) :
  Calls Tryz.prog 18 #[.slice A L.length c,.slice B M.length d] w (Yr (Zbq (Jk L) (Jk M)) w):=by
 have HVL:Hid ((Jk L).length = L.length):=zH (by simp);have HVM:Hid ((Jk M).length = M.length):=zH (by simp);have HSM:Hid (∀ k,Sz (gM (Jk L) (Jk M) k) 5):=zH (fun k=>Zid ha.out hb.out (by rw [HVL.out];omega) (by rw [HVL.out];omega) (by rw [HVM.out];omega) (by rw [HVM.out];omega) k);have HSR:Hid (∀ k,Sz (gR (Jk L) (Jk M) k) (2 + 11 * k)):=zH (fun k=>ZiK ha.out hb.out (by rw [HVL.out];omega) (by rw [HVL.out];omega) (by rw [HVM.out];omega) (by rw [HVM.out];omega) k);obtain ⟨n,hnE⟩:∃ n,n = len0 (Jk L):=⟨_,rfl⟩;obtain ⟨Q1,hQ1⟩:∃ q:Nat,q = L.length * M.length:=⟨_,rfl⟩;obtain ⟨Q2,hQ2⟩:∃ q:Nat,q = L.length + M.length:=⟨_,rfl⟩;have hq1:Q1 <= 100000000:=by rw [hQ1];exact Nat.mul_le_mul h2 h4
 have HMN:Hid (gR (Jk L) (Jk M) n * (((Q1:Int):Rat) * ((Q2:Int):Rat)⁻¹) = Zbq (Jk L) (Jk M)):=zH (by
  have h:=Zep (va:=Jk L) (vb:=Jk M) (by rw [HVL.out];omega) (by rw [HVM.out];omega);rw [HVL.out,HVM.out,<- hQ1,<- hQ2,<- hnE] at h;exact h)
 have hq2 : 0 < Q2:=by omega
 have hq3:Q2 <= 20000:=by omega
 have HP1:Hid (IntKind.i64.wrap ((L.length:Int) * (M.length:Int)) = (Q1:Int)):=zH (by
  have:((L.length:Int) * (M.length:Int)) = (Q1:Int):=by rw [hQ1];simp
  rw [this];exact IntWalk.i64_in _ (by omega))
 have HP2:Hid (IntKind.i64.wrap ((L.length:Int) + (M.length:Int)) = (Q2:Int)):=zH (by
  have:((L.length:Int) + (M.length:Int)) = (Q2:Int):=by rw [hQ2];simp
  rw [this];exact IntWalk.i64_in _ (by omega))
 rw [<- hnE] at hl hm hn;clear hnE hQ1 hQ2;have HCA:=zH (Y0 ha.out);have HCB:=zH (Y0 hb.out);have HA:=zH hA;have HB:=zH hB;clear hA hB;obtain ⟨W,hW⟩:∃ W:World,W = w.alloc (.cells #[.bool false,.slice none 0 0,.slice none 0 0] 28):=⟨_,rfl⟩;have HB0:Hid (Below w.heap.size w W):=zH (by rw [hW];exact bR.alloc nR _);have HBX:Hid (Bt 28 W w.heap.size):=zH (by rw [hW];exact Bt.new _ w);have hWs:W.heap.size = w.heap.size + 1:=by rw [hW];simp
 have C0:=zH (Zq 0 W (by decide) (by decide));go_enter Tryz.func18,Tryz.ntmps18;go_wp2_with fail;rw [<- hW];clear hW;refine C0.out.mono ?_;rintro e w1 ⟨r0,rfl,HR0',hb1⟩;obtain ⟨rn,rA,rc,rN,rB,rd,rD⟩:=r0;have HR0:=zH HR0';clear HR0' C0;go_wp2_with fail;have HW1:=zH (HB0.out.trans (hb1.mono HB0.out.size));have HX1:=zH (HBX.out.below hb1);have hw1:w.heap.size < w1.heap.size:=HX1.out.lt;clear HB0 HBX hb1 hWs;go_loopw [8] (fun i wr=>∃ k:Nat,k <= n /\ i = .int .i64 k /\ ∃ a:Fr,Hid (Fq wr a (gR (Jk L) (Jk M) k)) /\ Hid (Fb wr w1.heap.size a) /\ Hid (Bt 28 wr w.heap.size) /\ Hid (Below w.heap.size w wr)) (fun i _=>n - (intOf i).toNat)
 case atStart=>
  exact ⟨0,by omega,rfl,⟨rn,rA,rc,rN,rB,rd,rD⟩,zH (HR0.out.below (bR.alloc nR _)),zH (Fb.new w1 ⟨rn,rA,rc,rN,rB,rd,rD⟩),zH (HX1.out.alloc _),zH (HW1.out.alloc (by omega) _)⟩
 case round=>
  obtain ⟨k,hk,rfl,a,HN,HRB,HRX,HRW⟩:=hrel;clear HR0 HW1 HX1;have HAW:=zH (HA.out.below HRW.out);have HBW:=zH (HB.out.below HRW.out);obtain ⟨b0,o0,rfl,hb0,hc0⟩:=HAW.out.lies.lat (k:=0) h1;rw [Nat.add_zero,hl.out _ (yM h1)] at hc0;generalize L[0] = X0 at *
  obtain ⟨ZA,Zc,zl⟩:=X0;simp only at hc0;by_cases hlt:k < n
  ·go_wp2_with fail;go_loop [9,11] (fun s i=>∃ j:Nat,j <= L.length /\ i = .int .i64 j /\ s = .int .i64 (YR (Jk L) k j)) (fun _ i=>L.length - (intOf i).toNat)
   case atStart=>exact ⟨0,by omega,rfl,rfl⟩
   case round=>
    obtain ⟨j,hj,rfl,rfl⟩:=hrel;by_cases hjl:j < L.length
    ·obtain ⟨bx,ox,e,hbx,hcx⟩:=HAW.out.lies.lat hjl;cases e;have hx:=HAW.out.inn _ (yM hjl);have hxl:=hl.out _ (yM hjl);have HCS:Hid (YR (Jk L) k (j + 1) = YR (Jk L) k j + (L[j].2.2)[k]?.getD 0):=zH (by simp [YR,gE hjl]);have bj:=HCA.out k j;have bj2:=HCA.out k (j + 1);rw [HCS.out] at bj2;generalize L[j] = X at *
     obtain ⟨XA,Xc,xl⟩:=X;simp only at *
     have HXL:=zH hxl;clear hxl;have hkx:k < xl.length:=(by rw [HXL.out];exact hlt);obtain ⟨by0,oy,rfl,hby,hcy⟩:=hx.1.at_ hkx;generalize YR (Jk L) k j = s at *
     generalize xl[k]?.getD 0 = x at *
     have p1:IntKind.i64.wrap (s + x) = s + x:=IntWalk.i64_in _ (by omega);clear bj bj2;go_wp2_with fail;exact ⟨⟨j + 1,by omega,by go_num,by rw [HCS.out]⟩,by simp [intOf];omega⟩
    ·obtain rfl:j = L.length:=(by omega);go_wp2_with fail;go_loop [10,12] (fun s i=>∃ j:Nat,j <= M.length /\ i = .int .i64 j /\ s = .int .i64 (YR (Jk M) k j)) (fun _ i=>M.length - (intOf i).toNat)
     case atStart=>exact ⟨0,by omega,rfl,rfl⟩
     case round=>
      obtain ⟨j,hj,rfl,rfl⟩:=hrel;by_cases hjl:j < M.length
      ·obtain ⟨bx,ox,rfl,hbx,hcx⟩:=HBW.out.lies.lat hjl;have hx:=HBW.out.inn _ (yM hjl);have hxl:=hm.out _ (yM hjl);have HCS:Hid (YR (Jk M) k (j + 1) = YR (Jk M) k j + (M[j].2.2)[k]?.getD 0):=zH (by simp [YR,gE hjl]);have bj:=HCB.out k j;have bj2:=HCB.out k (j + 1);rw [HCS.out] at bj2;generalize M[j] = X at *
       obtain ⟨XA,Xc,xl⟩:=X;simp only at *
       have HXL:=zH hxl;clear hxl;have hkx:k < xl.length:=(by rw [HXL.out];exact hlt);obtain ⟨by0,oy,rfl,hby,hcy⟩:=hx.1.at_ hkx;generalize YR (Jk M) k j = s at *
       generalize xl[k]?.getD 0 = x at *
       have p1:IntKind.i64.wrap (s + x) = s + x:=IntWalk.i64_in _ (by omega);clear bj bj2;go_wp2_with fail;exact ⟨⟨j + 1,by omega,by go_num,by rw [HCS.out]⟩,by simp [intOf];omega⟩
      ·obtain rfl:j = M.length:=(by omega);have bA:=HCA.out k L.length;have bB:=HCB.out k M.length;have HGM:Hid (gM (Jk L) (Jk M) k = (YR (Jk L) k L.length:Rat) * ((L.length:Int):Rat)⁻¹ + -((YR (Jk M) k M.length:Rat) * ((M.length:Int):Rat)⁻¹)):=zH (by unfold gM;rw [HVL.out,HVM.out]);have HSMk:=zH (HSM.out k);have HSRk:=zH ((HSR.out k).mono (show 2 + 11 * k <= 1000 by omega));have HGS:Hid (gR (Jk L) (Jk M) (k + 1) = gR (Jk L) (Jk M) k + gM (Jk L) (Jk M) k * gM (Jk L) (Jk M) k):=zH rfl;generalize YR (Jk L) k L.length = s at *
       generalize YR (Jk M) k M.length = t at *
       have S1:=zH (Ze9 (a:=s) (b:=(L.length:Int)) (by omega) (by omega) (by omega) (by omega));have S2:=zH (Ze9 (a:=t) (b:=(M.length:Int)) (by omega) (by omega) (by omega) (by omega));have C1:=zH (X8 s L.length wr (by omega) (by omega) (by omega) (by omega));have C2:=zH (fun u=>X8 t M.length u (by omega) (by omega) (by omega) (by omega));rw [Zih (by omega)] at C1 C2;clear bA bB;go_wp2_with fail;refine C1.out.mono ?_;rintro e u1 ⟨r1,rfl,q1,hb1⟩;have Q1':=zH q1;have B1:=zH hb1;clear q1 hb1 C1;go_wp2_with fail;refine (C2.out u1).mono ?_;rintro e u2 ⟨r2,rfl,q2,hb2⟩;have Q1'':=zH (Q1'.out.below hb2);have Q2':=zH q2;have B2:=zH (B1.out.trans (hb2.mono B1.out.size));clear q2 hb2 C2 Q1' B1;go_wp2_with fail;refine (ZaO r1 r2 _ _ u2 Q1''.out.fv Q2'.out.fv (Q1''.out.few (S1.out.mono (by decide))) (Q2'.out.few (S2.out.mono (by decide)))).mono ?_;rintro e u3 ⟨m,rfl,q3,hb3⟩;rw [<- HGM.out] at q3;have B3:=zH (B2.out.trans (hb3.mono B2.out.size));have QM:=zH q3;obtain ⟨mn,mA,mc,mN,mB,md,mD⟩:=m;clear q3 hb3 Q1'' Q2' B2 S1 S2 HGM;obtain ⟨V,hV⟩:∃ V:World,V = u3.alloc (.cells #[.bool mn,.slice mA mN.length mc,.slice mB mD.length md] 28):=⟨_,rfl⟩;have BV:Hid (Below u3.heap.size u3 V):=zH (by rw [hV];exact bR.alloc nR _);have FM:Hid (Fb V u3.heap.size ⟨mn,mA,mc,mN,mB,md,mD⟩):=zH (by rw [hV];exact Fb.new u3 ⟨mn,mA,mc,mN,mB,md,mD⟩);have BVW:=zH (B3.out.trans (BV.out.mono B3.out.size));have QMV:=zH (QM.out.below BV.out);have QAV:=zH (HN.out.below BVW.out);have FAV:=zH (HRB.out.below BVW.out);have FXV:=zH (HRX.out.below BVW.out);have BWV:=zH (HRW.out.trans (BVW.out.mono HRW.out.size));have HC:Hid (∀ u,Below V.heap.size V u -> u.cell? ⟨w1.heap.size,0,none⟩ = some (.bool a.neg) /\ u.cell? ⟨w1.heap.size,1,none⟩ = some (.slice a.A a.N.length a.c) /\ u.cell? ⟨w1.heap.size,2,none⟩ = some (.slice a.B a.D.length a.d) /\ u.cell? ⟨u3.heap.size,0,none⟩ = some (.bool mn) /\ u.cell? ⟨u3.heap.size,1,none⟩ = some (.slice mA mN.length mc) /\ u.cell? ⟨u3.heap.size,2,none⟩ = some (.slice mB mD.length md)):=zH (fun u hu=>by
        obtain ⟨a0,a1,a2,-,-,-⟩:=(FAV.out.below hu).facts;obtain ⟨d0,d1,d2,-,-,-⟩:=(FM.out.below hu).facts;exact ⟨a0,a1,a2,d0,d1,d2⟩)
       have FEA:=zH (QAV.out.few (HSRk.out.mono (show 1000 <= 90000 by decide)));have FEM:=zH (QMV.out.few (HSMk.out.mono (show 5 <= 90000 by decide)));have SMM:=zH ((HSMk.out.mul HSMk.out).mono (show 5 + 5 <= 90000 by decide));clear HN HRB HRX HRW BV BVW QM B3;go_wp2_with fail;rw [<- hV];clear hV;refine Jd 5 78 rfl (by kernel_rfl) (by kernel_rfl) (by kernel_rfl) (by kernel_rfl) (fun u=>Below V.heap.size V u) (fun u u'=>Below u.heap.size u u') (Gl [isV (a.val),isV ((Fr.mk mn mA mc mN mB md mD).val),isV ((Fr.mk mn mA mc mN mB md mD).val),isFq (gM (Jk L) (Jk M) k * gM (Jk L) (Jk M) k),isFq (gR (Jk L) (Jk M) k + gM (Jk L) (Jk M) k * gM (Jk L) (Jk M) k)]) (Gl.keep (by
         intro p hp;simp only [List.mem_cons,List.not_mem_nil,or_false] at hp;rcases hp with rfl | rfl | rfl | rfl | rfl
         ·exact Keeps.isV _
         ·exact Keeps.isV _
         ·exact Keeps.isV _
         ·exact Keeps.isFq _
         ·exact Keeps.isFq _)) ?_ ?_ ?_
       ·exact (Below.refl _ V).drew
       ·simp only [List.pop_toArray,List.dropLast,Jm];refine ⟨?_,?_,?_,?_,?_,trivial⟩
        ·intro bb u su dp kp K hK;have e5:gT bb 5 = .pointer (some ⟨w1.heap.size,0,none⟩):=kp 5 (by kernel_rfl);obtain ⟨cc0,cc1,cc2,cc3,cc4,cc5⟩:=HC.out u su;go_simp;exact hK _ _ su bR rfl
        ·intro bb u su dp kp K hK;have e13:gT bb 13 = .pointer (some ⟨u3.heap.size,0,none⟩):=kp 13 (by kernel_rfl);obtain ⟨cc0,cc1,cc2,cc3,cc4,cc5⟩:=HC.out u su;go_simp;exact hK _ _ su bR rfl
        ·intro bb u su dp kp K hK;have e13:gT bb 13 = .pointer (some ⟨u3.heap.size,0,none⟩):=kp 13 (by kernel_rfl);obtain ⟨cc0,cc1,cc2,cc3,cc4,cc5⟩:=HC.out u su;go_simp;exact hK _ _ su bR rfl
        ·intro bb u su dp kp K hK;have e63:gT bb 63 = (Fr.mk mn mA mc mN mB md mD).val:=dp 1 _ rfl (by kernel_rfl);have e64:gT bb 64 = (Fr.mk mn mA mc mN mB md mD).val:=dp 2 _ rfl (by kernel_rfl);go_simp;refine (Uv (Fr.mk mn mA mc mN mB md mD) (Fr.mk mn mA mc mN mB md mD) (gM (Jk L) (Jk M) k) (gM (Jk L) (Jk M) k) u (QMV.out.below su).fv (QMV.out.below su).fv FEM.out FEM.out).mono ?_;rintro e w' ⟨r,rfl,hr,h4⟩;go_simp;exact hK _ _ (su.trans (h4.mono su.size)) h4 ⟨r,rfl,zH hr⟩
        ·intro bb u su dp kp K hK;have e62:gT bb 62 = a.val:=dp 0 _ rfl (by kernel_rfl);obtain ⟨r65,e65,D65⟩:∃ r:Fr,gT bb 65 = r.val /\ Hid (Fq u r (gM (Jk L) (Jk M) k * gM (Jk L) (Jk M) k)):=dp 3 _ rfl (by kernel_rfl);go_simp;refine (ZaQ a r65 (gR (Jk L) (Jk M) k) (gM (Jk L) (Jk M) k * gM (Jk L) (Jk M) k) u (QAV.out.below su).fv D65.out.fv FEA.out (D65.out.few SMM.out)).mono ?_;rintro e w' ⟨r,rfl,hr,h4⟩;go_simp;exact hK _ _ (su.trans (h4.mono su.size)) h4 ⟨r,rfl,zH hr⟩
       ·intro bb u hN hdf su hG sm;obtain ⟨r,e66,hr⟩:∃ r:Fr,gT bb 66 = r.val /\ Fq u r (gR (Jk L) (Jk M) k + gM (Jk L) (Jk M) k * gM (Jk L) (Jk M) k):=(by obtain ⟨r,h8,h9⟩:=hG 4 _ rfl;exact ⟨r,h8,h9.out⟩);rw [JV bb _ [false,false,false,false,false,false,false,false,false,false,false,false,false,false,false,false,false,false,false,false,false,false,false,false,false,false,false,false,false,false,false,false,false,false,false,false,false,false,false,false,false,false,false,false,false,false,false,false,false,false,false,false,false,false,false,false,false,false,false,false,false,false,true,true,true,true,true,false,false,false,false,false,false,false,false,false,false,false] _ rfl hN rfl (by kernel_rfl) hdf sm];simp only [Uh,Nat.reduceAdd,e66];clear e66 hG sm hN hdf;generalize gT bb 62 = z62,gT bb 63 = z63,gT bb 64 = z64,gT bb 65 = z65;obtain ⟨sn,sA,sc,sN,sB,sd,sD⟩:=r;have RB:=zH (FAV.out.below su);have RX:=zH (FXV.out.below su);have RW:=zH (BWV.out.trans (su.mono BWV.out.size));have HR:=zH hr;obtain ⟨c0,c1,c2,f0,f1,f2⟩:=RB.out.facts;clear su hr FAV FXV BWV QAV QMV FM FEA FEM SMM HC;refine PopQ.last rfl rfl (fun K hK=>?_);go_simp;refine hK _ _ ?_;clear hK K;go_wp2_with fail;exact ⟨⟨k + 1,by omega,by go_num,⟨sn,sA,sc,sN,sB,sd,sD⟩,zH (by rw [HGS.out];exact HR.out.rowed RB.out _ _ _),zH (Fb.put (r:=⟨sn,sA,sc,sN,sB,sd,sD⟩) RB.out),zH (RX.out.rowed (by omega) _ _ _),zH (Je RW.out (by omega) _ _ _)⟩,by simp [intOf];omega⟩
  ·obtain rfl:k = n:=by omega
   have HSRk:=zH ((HSR.out k).mono (show 2 + 11 * k <= 1000 by omega));have FEA:=zH (HN.out.few (HSRk.out.mono (show 1000 <= 90000 by decide)));have C1:=zH (fun u=>Zq (Q1:Int) u (by omega) (by omega));have C2:=zH (fun u=>Zq (Q2:Int) u (by omega) (by omega));have S1:Hid (Sz ((Q1:Int):Rat) 2):=zH (Sz.i64 (by omega) (by omega));have S2:Hid (Sz ((Q2:Int):Rat) 2):=zH (Sz.i64 (by omega) (by omega));have NZ:Hid (((Q2:Int):Rat) ≠ 0):=zH (by
    have:(Q2:Int) ≠ 0:=by omega
    exact_mod_cast this)
   have SI:=zH (S1.out.mul (Zgf S2.out NZ.out));have HC:Hid (∀ u,Below wr.heap.size wr u -> u.cell? ⟨w1.heap.size,0,none⟩ = some (.bool a.neg) /\ u.cell? ⟨w1.heap.size,1,none⟩ = some (.slice a.A a.N.length a.c) /\ u.cell? ⟨w1.heap.size,2,none⟩ = some (.slice a.B a.D.length a.d)):=zH (fun u hu=>by
    obtain ⟨a0,a1,a2,-,-,-⟩:=(HRB.out.below hu).facts;exact ⟨a0,a1,a2⟩)
   go_wp2_with fail;refine Jd 11 78 rfl (by kernel_rfl) (by kernel_rfl) (by kernel_rfl) (by kernel_rfl) (fun u=>Below wr.heap.size wr u) (fun u u'=>Below u.heap.size u u') (Gl [isV (a.val),isV (.int .i64 L.length),isV (.int .i64 M.length),isV (.int .i64 (Q1:Int)),isFq (((Q1:Int):Rat)),isV (.int .i64 L.length),isV (.int .i64 M.length),isV (.int .i64 (Q2:Int)),isFq (((Q2:Int):Rat)),isFq (((Q1:Int):Rat) * ((Q2:Int):Rat)⁻¹),isFq (gR (Jk L) (Jk M) k * (((Q1:Int):Rat) * ((Q2:Int):Rat)⁻¹))]) (Gl.keep (by
     intro p hp;simp only [List.mem_cons,List.not_mem_nil,or_false] at hp;rcases hp with rfl | rfl | rfl | rfl | rfl | rfl | rfl | rfl | rfl | rfl | rfl
     ·exact Keeps.isV _
     ·exact Keeps.isV _
     ·exact Keeps.isV _
     ·exact Keeps.isV _
     ·exact Keeps.isFq _
     ·exact Keeps.isV _
     ·exact Keeps.isV _
     ·exact Keeps.isV _
     ·exact Keeps.isFq _
     ·exact Keeps.isFq _
     ·exact Keeps.isFq _)) ?_ ?_ ?_
   ·exact (Below.refl _ wr).drew
   ·simp only [List.pop_toArray,List.dropLast,Jm];refine ⟨?_,?_,?_,?_,?_,?_,?_,?_,?_,?_,?_,trivial⟩
    ·intro bb u su dp kp K hK;have e5:gT bb 5 = .pointer (some ⟨w1.heap.size,0,none⟩):=kp 5 (by kernel_rfl);obtain ⟨cc0,cc1,cc2⟩:=HC.out u su;go_simp;exact hK _ _ su bR rfl
    ·intro bb u su dp kp K hK;have e6:gT bb 6 = .int .i64 L.length:=kp 6 (by kernel_rfl);go_simp;exact hK _ _ su bR rfl
    ·intro bb u su dp kp K hK;have e7:gT bb 7 = .int .i64 M.length:=kp 7 (by kernel_rfl);go_simp;exact hK _ _ su bR rfl
    ·intro bb u su dp kp K hK;have e68:gT bb 68 = .int .i64 L.length:=dp 1 _ rfl (by kernel_rfl);have e69:gT bb 69 = .int .i64 M.length:=dp 2 _ rfl (by kernel_rfl);have p1:=HP1.out;go_simp;exact hK _ _ su bR rfl
    ·intro bb u su dp kp K hK;have e70:gT bb 70 = .int .i64 (Q1:Int):=dp 3 _ rfl (by kernel_rfl);go_simp;refine (C1.out u).mono ?_;rintro e w' ⟨r,rfl,hr,h4⟩;go_simp;exact hK _ _ (su.trans (h4.mono su.size)) h4 ⟨r,rfl,zH hr⟩
    ·intro bb u su dp kp K hK;have e6:gT bb 6 = .int .i64 L.length:=kp 6 (by kernel_rfl);go_simp;exact hK _ _ su bR rfl
    ·intro bb u su dp kp K hK;have e7:gT bb 7 = .int .i64 M.length:=kp 7 (by kernel_rfl);go_simp;exact hK _ _ su bR rfl
    ·intro bb u su dp kp K hK;have e72:gT bb 72 = .int .i64 L.length:=dp 5 _ rfl (by kernel_rfl);have e73:gT bb 73 = .int .i64 M.length:=dp 6 _ rfl (by kernel_rfl);have p1:=HP2.out;go_simp;exact hK _ _ su bR rfl
    ·intro bb u su dp kp K hK;have e74:gT bb 74 = .int .i64 (Q2:Int):=dp 7 _ rfl (by kernel_rfl);go_simp;refine (C2.out u).mono ?_;rintro e w' ⟨r,rfl,hr,h4⟩;go_simp;exact hK _ _ (su.trans (h4.mono su.size)) h4 ⟨r,rfl,zH hr⟩
    ·intro bb u su dp kp K hK;obtain ⟨r71,e71,D71⟩:∃ r:Fr,gT bb 71 = r.val /\ Hid (Fq u r (((Q1:Int):Rat))):=dp 4 _ rfl (by kernel_rfl);obtain ⟨r75,e75,D75⟩:∃ r:Fr,gT bb 75 = r.val /\ Hid (Fq u r (((Q2:Int):Rat))):=dp 8 _ rfl (by kernel_rfl);go_simp;refine (ZdJ r71 r75 (((Q1:Int):Rat)) (((Q2:Int):Rat)) u D71.out.fv D75.out.fv (D71.out.few (S1.out.mono (by decide))) (D75.out.few (S2.out.mono (by decide))) NZ.out).mono ?_;rintro e w' ⟨r,rfl,hr,h4⟩;go_simp;exact hK _ _ (su.trans (h4.mono su.size)) h4 ⟨r,rfl,zH hr⟩
    ·intro bb u su dp kp K hK;have e67:gT bb 67 = a.val:=dp 0 _ rfl (by kernel_rfl);obtain ⟨r76,e76,D76⟩:∃ r:Fr,gT bb 76 = r.val /\ Hid (Fq u r (((Q1:Int):Rat) * ((Q2:Int):Rat)⁻¹)):=dp 9 _ rfl (by kernel_rfl);go_simp;refine (Uv a r76 (gR (Jk L) (Jk M) k) (((Q1:Int):Rat) * ((Q2:Int):Rat)⁻¹) u (HN.out.below su).fv D76.out.fv FEA.out (D76.out.few (SI.out.mono (by decide)))).mono ?_;rintro e w' ⟨r,rfl,hr,h4⟩;go_simp;exact hK _ _ (su.trans (h4.mono su.size)) h4 ⟨r,rfl,zH hr⟩
   ·intro bb u hN hdf su hG sm;obtain ⟨r,e77,hr⟩:∃ r:Fr,gT bb 77 = r.val /\ Fq u r (gR (Jk L) (Jk M) k * (((Q1:Int):Rat) * ((Q2:Int):Rat)⁻¹)):=(by obtain ⟨r,h8,h9⟩:=hG 10 _ rfl;exact ⟨r,h8,h9.out⟩);rw [JV bb _ [false,false,false,false,false,false,false,false,false,false,false,false,false,false,false,false,false,false,false,false,false,false,false,false,false,false,false,false,false,false,false,false,false,false,false,false,false,false,false,false,false,false,false,false,false,false,false,false,false,false,false,false,false,false,false,false,false,false,false,false,false,false,false,false,false,false,false,true,true,true,true,true,true,true,true,true,true,true] _ rfl hN rfl (by kernel_rfl) hdf sm];simp only [Uh,Nat.reduceAdd,e77];clear e77 hG sm hN hdf;generalize gT bb 67 = z67,gT bb 68 = z68,gT bb 69 = z69,gT bb 70 = z70,gT bb 71 = z71,gT bb 72 = z72,gT bb 73 = z73,gT bb 74 = z74,gT bb 75 = z75,gT bb 76 = z76;obtain ⟨sn,sA,sc,sN,sB,sd,sD⟩:=r;have RX:=zH (HRX.out.below su);have RW:=zH (HRW.out.trans (su.mono HRW.out.size));have HR:=zH hr;obtain ⟨c0,c1,c2,f0,f1,f2⟩:=RX.out.facts;clear su hr HRB HRX HRW HN HC;refine PopQ.last rfl rfl (fun K hK=>?_);go_simp;refine hK _ _ ?_;clear hK K;go_wp2_with fail;obtain ⟨g0,g1,g2⟩:=Y1 (.bool sn) (.slice sA sN.length sc) (.slice sB sD.length sd) c0 c1 c2;refine bodyPost_ret (v:=.agg #[.bool sn,.slice sA sN.length sc,.slice sB sD.length sd]) (by simp [results,Tryz.results18,go_sem,g0,g1,g2]) rfl ?_;exact ⟨⟨sn,sA,sc,sN,sB,sd,sD⟩,rfl,JI (by rw [<- HMN.out];exact HR.out) RX.out _ _ _,Je RW.out (by omega) _ _ _⟩
end Go.Proofs.YtcjicjfbippmnaaGreat
