/- TalkLearns -/
import Derived.Test.YtcjicjfbippmnaaGreatMTLear46
import Derived.OpenShut
import Derived.ProofKit
set_option maxRecDepth 100000
set_option maxHeartbeats 32000000
namespace Go.Proofs.YtcjicjfbippmnaaGreat
open Go.RowKit Ear

theorem RfL.bel {w0 w:World} {p on c:Nat} {v:Int} {A:Option Addr} {L:List Gm} {cs:List (List Int × Int)} (h:RfL w0 w p on v A c L cs):RowKit.Below w0.heap.size w0 w:=by
 obtain ⟨SA,sc,S,NA,nc,Ns,h1,-⟩:=h.ex;exact h1.bel
theorem QG (o v:Int) (A:Option Addr) (c:Nat) (L:List Gm) (SA:Option Addr) (Sc:Nat) (St:List Stp) (w:World) (h:Tb w A L) (hA:A = none -> c = 0 /\ L = []) (hn:L.length <= 9223372036854775807) (hS:Lies w SA (ZdB St)) (hSi:∀ s ∈ St,InOk w s.2.1) (hSl:St.length <= 9223372036854775807) :
  Calls Tryz.prog 10 #[.agg #[.int .i64 o,.int .i64 v,.slice A L.length c],.slice SA St.length Sc] w (ZcY true w):=by
 obtain ⟨W,hW⟩:∃ W:World,W = w.alloc (.cells #[.int .i64 o,.int .i64 v,.slice A L.length c] 84):=⟨_,rfl⟩;have HB0:Hid (Below w.heap.size w W):=zH (by rw [hW];exact bR.alloc nR _);have HBX0:Hid (W.heap[w.heap.size]? = some (.cells #[.int .i64 o,.int .i64 v,.slice A L.length c] 84 (0,0))):=zH (by rw [hW];exact heap_alloc_new w _);have HBX:Hid (∀ u,Below W.heap.size W u -> u.cell? ⟨w.heap.size,0,none⟩ = some (.int .i64 o) /\ u.cell? ⟨w.heap.size,1,none⟩ = some (.int .i64 v) /\ u.cell? ⟨w.heap.size,2,none⟩ = some (.slice A L.length c)):=zH (fun u hu=>Xe ((hu.block _ (aE HBX0.out).1).trans HBX0.out));have HT:=zH (h.below HB0.out);have HS:=zH (hS.below HB0.out);have HSI:Hid (∀ s ∈ St,InOk W s.2.1):=zH (fun s hs=>(hSi s hs).below HB0.out);obtain ⟨sm,hsm⟩:∃ sm,sm = QS L.length (St.map fun s=>s.2.1.2.2.length) 8:=⟨_,rfl⟩;have HSM:=zH (ZdW o v A SA c L.length Sc St 8 W HS.out hSl hn (zH (fun s hs=>(HSI.out s hs).2.2.1)) sm (zH hsm.symm));have HAN:=zH hA;clear h hS hSi hA HBX0;obtain ⟨c0,c1,c2⟩:=HBX.out W bR;cases sm with
 | false=>
  clear hsm;go_enter Tryz.func10,Tryz.ntmps10;go_upto_region 1 with fail;rw [<- hW];clear hW;go_wp2_with fail;refine HSM.out.mono ?_;rintro e w1 ⟨rfl,hb1⟩;have HB1:=zH (HB0.out.trans (hb1.mono HB0.out.size));clear hb1 c0 c1 c2;go_wp2_with fail;refine (Z3 w1).mono ?_;rintro e w2 ⟨rfl,hb2⟩;go_wp2_with fail;go_ret;exact ⟨rfl,HB1.out.trans (hb2.mono HB1.out.size)⟩
 | true=>
  have hsm2:=hsm.symm;unfold QS at hsm2;simp only [Bool.and_eq_true,decide_eq_true_eq,List.length_map] at hsm2;have hl60:L.length <= 60:=hsm2.1.1;have hst8:St.length <= 8:=by have:=hsm2.1.2;omega
  clear hsm hsm2;obtain ⟨r,hr⟩:∃ r,r = XH o v (Jf L):=⟨_,rfl⟩;have HR:=zH hr.symm;clear hr;by_cases h0:r = 0
  ·subst h0;have hzz:=JL.1 (JP.1 HR.out).2.1;obtain ⟨on,rfl⟩:∃ on:Nat,o = (on:Int):=⟨o.toNat,by omega⟩;clear hzz;go_enter Tryz.func10,Tryz.ntmps10;go_upto_region 1 with fail;rw [<- hW];clear hW;go_wp2_with fail;refine HSM.out.mono ?_;rintro e w1 ⟨rfl,hb1⟩;have HB1:=zH hb1;have HT1:=zH (HT.out.below hb1);clear hb1 c0 c1 c2 HSM;obtain ⟨c0,c1,c2⟩:=HBX.out w1 HB1.out;go_wp2_with fail;refine (Qj on v A c L w1 HT1.out HAN.out (by omega) 0 HR).mono ?_;rintro e w2 ⟨hb2,hr2⟩;rw [if_pos rfl] at hr2;obtain ⟨p1,B1,t1,rfl,hL1,ho1,hv1,ht1,hp1⟩:=hr2;have HB2:=zH (HB1.out.trans (hb2.mono HB1.out.size));have HT2:=zH (HT1.out.below hb2);have HB12:=zH hb2;have HPG:Hid (PgL w2 w1.heap.size p1 on v (Jf L) []):=zH ⟨⟨B1,1,[],t1,hL1,fun x hx=>by
    have:x = t1:=(by simpa using hx);subst this;exact ⟨ho1,hv1⟩,by simp [Zc9,Zp,ht1]⟩,hp1⟩
   clear hb2 hL1 ho1 hv1 ht1 c0 c1 c2;obtain ⟨c0,c1,c2⟩:=HBX.out w2 HB2.out;go_wp2_with fail;refine (Yn on v A c L w2 HT2.out hn 0 HR).mono ?_;rintro e w3 ⟨rfl,hb3⟩;have HB3:=zH (HB2.out.trans (hb3.mono HB2.out.size));have HB13:=zH (HB12.out.trans (hb3.mono HB12.out.size));have HPG3:=zH (HPG.out.below hb3);clear hb3 c0 c1 c2 HPG HT2 HB12;obtain ⟨c0,c1,c2⟩:=HBX.out w3 HB3.out;go_wp2_with fail;obtain ⟨V,hV⟩:∃ V:World,V = w3.alloc (.cells #[.int .i64 (on:Int),.int .i64 v,.slice A L.length c,.slice none 0 0,.slice none 0 0] 93):=⟨_,rfl⟩;have HBV:Hid (Below w3.heap.size w3 V):=zH (by rw [hV];exact bR.alloc nR _);have HB1V:=zH (HB13.out.trans (HBV.out.mono HB13.out.size));have HPV:=zH (HPG3.out.below HBV.out);obtain ⟨p2,hp2⟩:∃ p2,p2 = w3.heap.size:=⟨_,rfl⟩;have HRV:Hid (RfL w1 V p2 on v A c L []):=zH ⟨⟨none,0,[],none,0,[],⟨HB1V.out,by rw [hp2];exact HB13.out.size,HT1.out,by rw [hV,hp2];exact heap_alloc_new w3 _,(fun h=>absurd h (by simp)),(fun b off e=>(by cases e)),(fun x hx=>absurd hx (by simp)),(fun h=>absurd h (by simp)),(fun b off e=>(by cases e)),fun _=>rfl,fun _=>rfl,Nat.le_refl _,Nat.le_refl _,rfl⟩,rfl,fun x hx=>absurd hx (by simp),fun x hx=>absurd hx (by simp)⟩⟩;rw [<- hV,<- hp2];clear hV hp2 HBV HPG3 HB13 HB3 HB2 c0 c1 c2 HB1V;have HTB:=HR;have HSR:Hid (Lies w1 SA (ZdB St)):=zH (HS.out.below HB1.out);have HSJ:Hid (∀ s ∈ St,InOk w1 s.2.1):=zH (fun s hs=>(HSI.out s hs).below HB1.out);go_loopw [9] (fun i wr=>∃ j:Nat,j <= St.length /\ i = .int .i64 j /\ ∃ cs:List (List Int × Int),cs.length <= j /\ Hid (PgL wr w1.heap.size p1 on v (Jf L) cs) /\ Hid (RfL w1 wr p2 on v A c L cs)) (fun i _=>St.length - (intOf i).toNat)
   case atStart=>exact ⟨0,by omega,rfl,[],by simp,HPV,HRV⟩
   case round=>
    obtain ⟨j,hj,rfl,cs,hcl,HP,HF⟩:=hrel;obtain ⟨Wr,rfl⟩:∃ X,X = wr:=⟨_,rfl⟩;clear HPV HRV;have HBR:=zH HF.out.bel;by_cases hjl:j < St.length
    ·have hjl':(j:Int) < (St.length:Int):=(by omega);obtain ⟨sb,so,rfl,hsb,s0,s1,s2⟩:=HSR.out.stp hjl;have HXI:=zH (HSJ.out _ (yM hjl));have HSC:Hid (∀ u,Below w1.heap.size w1 u -> u.cell? ⟨sb,so + j * 3,none⟩ = some (.int .i64 St[j].1) /\ u.cell? ⟨sb,so + j * 3 + 1,none⟩ = some (.slice St[j].2.1.1 St[j].2.1.2.2.length St[j].2.1.2.1) /\ u.cell? ⟨sb,so + j * 3 + 2,none⟩ = some (.int .i64 St[j].2.2)):=zH (fun u hu=>⟨(hu.cell (p:=⟨sb,so + j * 3,none⟩) hsb).trans s0,(hu.cell (p:=⟨sb,so + j * 3 + 1,none⟩) hsb).trans s1,(hu.cell (p:=⟨sb,so + j * 3 + 2,none⟩) hsb).trans s2⟩);clear s0 s1 s2;generalize St[j] = X at *
     obtain ⟨kind,⟨XA,Xc,xs⟩,n⟩:=X;simp only at *
     obtain ⟨d0,d1,d2⟩:=HSC.out Wr HBR.out;have hOK:=zH HP.out.ok;have hcl2:cs.length < 200:=(by omega);have hle1:w1.heap.size <= Wr.heap.size:=HBR.out.size;go_upto_block 2 with fail;go_cut [10,11] from 60 to 92 (fun t10 t11 wx=>∃ (r:Int) (cs':List (List Int × Int)),t10 = .int .i64 r /\ t11 = .int .i64 r /\ cs'.length <= j + 1 /\ Hid (PgL wx w1.heap.size p1 on v (Jf L) cs') /\ Hid (RfL w1 wx p2 on v A c L cs'))
     case first=>
      by_cases k1:kind = 1
      ·subst k1;obtain ⟨R,hR⟩:∃ R,R = Zdl on v (Zp on (Jf L) cs) xs n:=⟨_,rfl⟩;have HR2:=zH hR.symm;clear hR;have HXI1:=zH (HXI.out.below HBR.out.drew);have HPd:=zH (HP.out.below (Below.refl _ Wr).drew);have HFd:=zH (HF.out.below (Below.refl _ Wr).drew);have HC1:=zH (HPd.out.cor hle1 hcl2 (XA:=XA) (Xc:=Xc) (s:=xs) HXI1.out n R HR2);go_upto_region 16 with fail;refine Jo (S:=fun w'=>w'.cell? ⟨sb,so + j * 3 + 1,none⟩ = some (.slice XA xs.length Xc) /\ w'.cell? ⟨sb,so + j * 3 + 2,none⟩ = some (.int .i64 n)) 26 rfl (by kernel_rfl) ⟨d1,d2⟩ (fun hd=>?_);iterate 11 (((refine Je (v:=?_) rfl (by kernel_rfl) (fun _ _ _ h=>h) ⟨by rfl,?_⟩ hd ?_;rotate_left;· intro w' sw;obtain ⟨s1,s2⟩:=sw;go_simp;try with_reducible rfl);simp only [zA,zB,zC]))
       refine Jg (i:=12) 74 (v:=?_) rfl rfl (by kernel_rfl) (by kernel_rfl) (by kernel_rfl) (fun _ _ _ h=>h) ⟨by rfl,?_⟩ hd ?_;rotate_left
       ·intro w' sw;obtain ⟨s1,s2⟩:=sw;go_simp;try with_reducible rfl
       simp only [zA,zB,zC];refine Jg (i:=13) 75 (v:=?_) rfl rfl (by kernel_rfl) (by kernel_rfl) (by kernel_rfl) (fun _ _ _ h=>h) ⟨by rfl,?_⟩ hd ?_;rotate_left
       ·intro w' sw;obtain ⟨s1,s2⟩:=sw;go_simp;try with_reducible rfl
       simp only [zA,zB,zC];refine Jg (i:=14) 76 (v:=?_) rfl rfl (by kernel_rfl) (by kernel_rfl) (by kernel_rfl) (fun _ _ _ h=>h) ⟨by rfl,?_⟩ hd ?_;rotate_left
       ·intro w' sw;obtain ⟨s1,s2⟩:=sw;go_simp;try with_reducible rfl
       simp only [zA,zB,zC];refine Jg (i:=15) 77 (v:=?_) rfl rfl (by kernel_rfl) (by kernel_rfl) (by kernel_rfl) (fun _ _ _ h=>h) ⟨by rfl,?_⟩ hd ?_;rotate_left
       ·intro w' sw;obtain ⟨s1,s2⟩:=sw;go_simp;try with_reducible rfl
       simp only [zA,zB,zC];refine Jg (i:=16) 78 (v:=?_) rfl rfl (by kernel_rfl) (by kernel_rfl) (by kernel_rfl) (fun _ _ _ h=>h) ⟨by rfl,?_⟩ hd ?_;rotate_left
       ·intro w' sw;obtain ⟨s1,s2⟩:=sw;go_simp;try with_reducible rfl
       simp only [zA,zB,zC];refine Jg (i:=17) 79 (v:=?_) rfl rfl (by kernel_rfl) (by kernel_rfl) (by kernel_rfl) (fun _ _ _ h=>h) ⟨by rfl,?_⟩ hd ?_;rotate_left
       ·intro w' sw;obtain ⟨s1,s2⟩:=sw;go_simp;try with_reducible rfl
       simp only [zA,zB,zC];refine Jg (i:=18) 80 (v:=?_) rfl rfl (by kernel_rfl) (by kernel_rfl) (by kernel_rfl) (fun _ _ _ h=>h) ⟨by rfl,?_⟩ hd ?_;rotate_left
       ·intro w' sw;obtain ⟨s1,s2⟩:=sw;go_simp;try with_reducible rfl
       simp only [zA,zB,zC];refine Jg (i:=19) 81 (v:=?_) rfl rfl (by kernel_rfl) (by kernel_rfl) (by kernel_rfl) (fun _ _ _ h=>h) ⟨by rfl,?_⟩ hd ?_;rotate_left
       ·intro w' sw;obtain ⟨s1,s2⟩:=sw;go_simp;try with_reducible rfl
       simp only [zA,zB,zC];refine Jg (i:=20) 82 (v:=?_) rfl rfl (by kernel_rfl) (by kernel_rfl) (by kernel_rfl) (fun _ _ _ h=>h) ⟨by rfl,?_⟩ hd ?_;rotate_left
       ·intro w' sw;obtain ⟨s1,s2⟩:=sw;go_simp;try with_reducible rfl
       simp only [zA,zB,zC];refine Jg (i:=21) 83 (v:=?_) rfl rfl (by kernel_rfl) (by kernel_rfl) (by kernel_rfl) (fun _ _ _ h=>h) ⟨by rfl,?_⟩ hd ?_;rotate_left
       ·intro w' sw;obtain ⟨s1,s2⟩:=sw;go_simp;try with_reducible rfl
       simp only [zA,zB,zC];refine Jg (i:=22) 84 (v:=?_) rfl rfl (by kernel_rfl) (by kernel_rfl) (by kernel_rfl) (fun _ _ _ h=>h) ⟨by rfl,?_⟩ hd ?_;rotate_left
       ·intro w' sw;obtain ⟨s1,s2⟩:=sw;go_simp;try with_reducible rfl
       simp only [zA,zB,zC];refine Jd 11 rfl (by kernel_rfl) rfl (fun K hK=>?_);go_simp;refine HC1.out.mono ?_;rintro e U1 ⟨rfl,hp1',ht1'⟩;have HP1:=zH hp1';have HF1:=zH (HFd.out.two ht1' nR HPd.out.le);have hC1:=(HSC.out U1 HF1.out.bel).2;have HXI2:=zH (HXI.out.below HF1.out.bel);clear hp1' ht1' HC1;go_simp;refine hK _ _ hC1 (fun hd=>?_);clear hK K;refine Jd 23 rfl (by kernel_rfl) rfl (fun K hK=>?_);go_simp;refine (HF1.out.cor HTB.out hcl2 hOK.out (XA:=XA) (Xc:=Xc) (s:=xs) HXI2.out n R HR2).mono ?_;rintro e U2 ⟨rfl,hf2,hg2⟩;have HF2:=zH hf2;have HP2:=zH (HP1.out.turn hg2 HF1.out.bt);have hC2:=(HSC.out U2 HF2.out.bel).2;clear hf2 hg2;go_simp;refine hK _ _ hC2 (fun hd=>?_);clear hK K;iterate 2 (((refine Je (v:=?_) rfl (by kernel_rfl) (fun _ _ _ h=>h) ⟨by rfl,?_⟩ hd ?_;rotate_left;· intro w' sw;obtain ⟨s1,s2⟩:=sw;go_simp;try with_reducible rfl);simp only [zA,zB,zC]))
       refine wpAnyH_done (by kernel_rfl) ?_ _;go_wp2_with fail;go_meet;exact ⟨R,if R = 0 then cs ++ [(xs,n)] else cs,rfl,rfl,by split <;> (try simp) <;> omega,HP2,HF2⟩
      ·by_cases k2:kind = 2
       ·subst k2;obtain ⟨R,hR⟩:∃ R:Int,R = if cs.length = 0 then 7 else 0:=⟨_,rfl⟩;have HR2:=zH hR.symm;clear hR k1;have HC1:=zH (HP.out.undo hcl2 R HR2);go_wp2_with fail;refine HC1.out.mono ?_;rintro e U1 ⟨rfl,hp1',ht1'⟩;have HP1:=zH hp1';have HF1:=zH (HF.out.two ht1' nR HP.out.le);clear hp1' ht1' HC1;go_wp2_with fail;refine (HF1.out.undo hcl2 R HR2).mono ?_;rintro e U2 ⟨rfl,hf2,hg2⟩;have HF2:=zH hf2;have HP2:=zH (HP1.out.turn hg2 HF1.out.bt);clear hf2 hg2;go_wp2_with fail;go_meet;exact ⟨R,cs.dropLast,rfl,rfl,by rw [List.length_dropLast];omega,HP2,HF2⟩
       ·have q1:(kind == 1) = false:=(by simpa using k1);have q2:(kind == 2) = false:=(by simpa using k2);clear k1 k2;go_wp2_with fail;go_meet;exact ⟨0,cs,rfl,rfl,by omega,HP,HF⟩
     case rest=>
      obtain ⟨R,cs',rfl,rfl,hcl',HP',HF'⟩:=hcut;clear HP HF hOK d0 d1 d2 HSC HXI HBR;have hcl3:cs'.length < 200:=(by omega);have hOK:=zH HP'.out.ok;go_wp2_with fail;refine (HP'.out.tab hcl3).mono ?_;rintro e w4 ⟨A4,c4,L4,rfl,hg4,ht4,hb4⟩;have HG4:=zH hg4;have HT4:=zH ht4;have HP4:=zH (HP'.out.below hb4);have HF4:=zH (HF'.out.below hb4);clear hg4 ht4 hb4 HP' HF';go_wp2_with fail;obtain ⟨V4,hV4⟩:∃ V4:World,V4 = w4.alloc (.cells #[.int .i64 (on:Int),.int .i64 v,.slice A4 L4.length c4] 84):=⟨_,rfl⟩;have HBV4:Hid (Below w4.heap.size w4 V4):=zH (by rw [hV4];exact bR.alloc nR _);have HX4:Hid (V4.heap[w4.heap.size]? = some (.cells #[.int .i64 (on:Int),.int .i64 v,.slice A4 L4.length c4] 84 (0,0))):=zH (by rw [hV4];exact heap_alloc_new w4 _);have HP5:=zH (HP4.out.below HBV4.out);have HF5:=zH (HF4.out.below HBV4.out);have HG5:=zH (HG4.out.below HBV4.out);rw [<- hV4];clear hV4 HP4 HF4 HG4 HBV4;refine (HF5.out.tab HTB.out hcl3 hOK.out).mono ?_;rintro e w6 ⟨A6,c6,L6,rfl,hg6,ht6,hb6⟩;have HG6:=zH hg6;have HT6:=zH ht6;have HP6:=zH (HP5.out.below hb6);have HF6:=zH (HF5.out.below hb6);have HG46:=zH (HG5.out.below hb6);have HX46:Hid (w6.heap[w4.heap.size]? = some (.cells #[.int .i64 (on:Int),.int .i64 v,.slice A4 L4.length c4] 84 (0,0))):=zH ((hb6.block _ (aE HX4.out).1).trans HX4.out);have hlt46:w4.heap.size < w6.heap.size:=(aE HX46.out).1;clear hg6 ht6 hb6 HP5 HF5 HG5 HX4;go_upto_region 21 with fail;obtain ⟨V6,hV6⟩:∃ V6:World,V6 = w6.alloc (.cells #[.int .i64 (on:Int),.int .i64 v,.slice A6 L6.length c6] 84):=⟨_,rfl⟩;have HBV6:Hid (Below w6.heap.size w6 V6):=zH (by rw [hV6];exact bR.alloc nR _);have HX6:Hid (V6.heap[w6.heap.size]? = some (.cells #[.int .i64 (on:Int),.int .i64 v,.slice A6 L6.length c6] 84 (0,0))):=zH (by rw [hV6];exact heap_alloc_new w6 _);have HX4:Hid (V6.heap[w4.heap.size]? = some (.cells #[.int .i64 (on:Int),.int .i64 v,.slice A4 L4.length c4] 84 (0,0))):=zH ((HBV6.out.block _ hlt46).trans HX46.out);have HP7:=zH (HP6.out.below HBV6.out);have HF7:=zH (HF6.out.below HBV6.out);have HG7:=zH (HG6.out.below HBV6.out);have HG47:=zH (HG46.out.below HBV6.out);rw [<- hV6];clear hV6 HP6 HF6 HG6 HG46 HX46 HBV6;have hl4:L4.length <= 20000:=by
       have h9:=(JP.1 (hOK.out cs'.length nR)).1;rw [List.take_length,<- HT4.out] at h9;simpa using h9
      have hl6:L6.length <= 20000:=by
       have h9:=(JP.1 (hOK.out cs'.length nR)).1;rw [List.take_length,<- HT6.out] at h9;simpa using h9
      have CSM:=zH (fun u (hu:Below V6.heap.size V6 u)=>ZaO on v on v A4 A6 c4 c6 L4 L6 u (HG47.out.tb.below hu) (HG7.out.tb.below hu) (by omega) (by omega) true (zH (by rw [HT4.out,HT6.out];simp)));obtain ⟨TA,tc,hcell⟩:=HF7.out.cell;have hp2l:p2 < V6.heap.size:=HF7.out.bt.lt;have HCC:Hid (∀ u,Below V6.heap.size V6 u -> u.cell? ⟨w4.heap.size,0,none⟩ = some (.int .i64 (on:Int)) /\ u.cell? ⟨w4.heap.size,1,none⟩ = some (.int .i64 v) /\ u.cell? ⟨w4.heap.size,2,none⟩ = some (.slice A4 L4.length c4) /\ u.cell? ⟨w6.heap.size,0,none⟩ = some (.int .i64 (on:Int)) /\ u.cell? ⟨w6.heap.size,1,none⟩ = some (.int .i64 v) /\ u.cell? ⟨w6.heap.size,2,none⟩ = some (.slice A6 L6.length c6) /\ u.cell? ⟨p2,3,none⟩ = some (.slice TA cs'.length tc)):=zH (fun u hu=>by
       obtain ⟨a0,a1,a2⟩:=Xe ((hu.block _ (aE HX4.out).1).trans HX4.out);obtain ⟨b0,b1,b2⟩:=Xe ((hu.block _ (aE HX6.out).1).trans HX6.out);exact ⟨a0,a1,a2,b0,b1,b2,(hu.cell (p:=⟨p2,3,none⟩) hp2l).trans hcell⟩)
      have hRR:(R != R) = false:=(by simp);have hCC:(((cs'.length:Nat):Int) != (cs'.length:Int)) = false:=(by simp);clear hcell HX4 HX6 HG7 HG47;refine Jo (S:=fun w'=>w'.cell? ⟨w4.heap.size,0,none⟩ = some (.int .i64 (on:Int)) /\ w'.cell? ⟨w4.heap.size,1,none⟩ = some (.int .i64 v) /\ w'.cell? ⟨w4.heap.size,2,none⟩ = some (.slice A4 L4.length c4) /\ w'.cell? ⟨w6.heap.size,0,none⟩ = some (.int .i64 (on:Int)) /\ w'.cell? ⟨w6.heap.size,1,none⟩ = some (.int .i64 v) /\ w'.cell? ⟨w6.heap.size,2,none⟩ = some (.slice A6 L6.length c6) /\ w'.cell? ⟨p2,3,none⟩ = some (.slice TA cs'.length tc)) 27 rfl (by kernel_rfl) (HCC.out _ bR.drew) (fun hd=>?_);iterate 14 (((refine Je (v:=?_) rfl (by kernel_rfl) (fun _ _ _ h=>h) ⟨by rfl,?_⟩ hd ?_;rotate_left;· intro w' sw;obtain ⟨s1,s2,s3,s4,s5,s6,s7⟩:=sw;go_simp;try with_reducible rfl);simp only [zA,zB,zC]))
      refine JH 14 rfl (by kernel_rfl) (by rfl) (fun K hK=>?_);go_simp;refine (CSM.out V6.drew bR.drew).mono ?_;rintro e U1 ⟨rfl,hb1⟩;have HBU:Hid (Below V6.heap.size V6 U1):=zH (JE hb1);have hC1:=HCC.out U1 HBU.out;have HP8:=zH (HP7.out.below HBU.out);have HF8:=zH (HF7.out.below HBU.out);clear hb1 HP7 HF7;go_simp;refine hK _ _ hC1 (fun hd=>?_);clear hK K;iterate 4 (((refine Je (v:=?_) rfl (by kernel_rfl) (fun _ _ _ h=>h) ⟨by rfl,?_⟩ hd ?_;rotate_left;· intro w' sw;obtain ⟨s1,s2,s3,s4,s5,s6,s7⟩:=sw;go_simp;try with_reducible rfl);simp only [zA,zB,zC]))
      refine Jg (i:=20) 122 (v:=?_) rfl rfl (by kernel_rfl) (by kernel_rfl) (by kernel_rfl) (fun _ _ _ h=>h) ⟨by rfl,?_⟩ hd ?_;rotate_left
      ·intro w' sw;obtain ⟨s1,s2,s3,s4,s5,s6,s7⟩:=sw;go_simp;try with_reducible rfl
      simp only [zA,zB,zC];refine Jg (i:=21) 123 (v:=?_) rfl rfl (by kernel_rfl) (by kernel_rfl) (by kernel_rfl) (fun _ _ _ h=>h) ⟨by rfl,?_⟩ hd ?_;rotate_left
      ·intro w' sw;obtain ⟨s1,s2,s3,s4,s5,s6,s7⟩:=sw;go_simp;try with_reducible rfl
      simp only [zA,zB,zC];refine Jg (i:=22) 124 (v:=?_) rfl rfl (by kernel_rfl) (by kernel_rfl) (by kernel_rfl) (fun _ _ _ h=>h) ⟨by rfl,?_⟩ hd ?_;rotate_left
      ·intro w' sw;obtain ⟨s1,s2,s3,s4,s5,s6,s7⟩:=sw;go_simp;try with_reducible rfl
      simp only [zA,zB,zC];refine Jg (i:=23) 125 (v:=?_) rfl rfl (by kernel_rfl) (by kernel_rfl) (by kernel_rfl) (fun _ _ _ h=>h) ⟨by rfl,?_⟩ hd ?_;rotate_left
      ·intro w' sw;obtain ⟨s1,s2,s3,s4,s5,s6,s7⟩:=sw;go_simp;try with_reducible rfl
      simp only [zA,zB,zC];refine Jg (i:=24) 126 (v:=?_) rfl rfl (by kernel_rfl) (by kernel_rfl) (by kernel_rfl) (fun _ _ _ h=>h) ⟨by rfl,?_⟩ hd ?_;rotate_left
      ·intro w' sw;obtain ⟨s1,s2,s3,s4,s5,s6,s7⟩:=sw;go_simp;try with_reducible rfl
      simp only [zA,zB,zC];refine JH 19 rfl (by kernel_rfl) (by rfl) (fun K hK=>?_);go_simp;refine (HP8.out.cnt hcl3).mono ?_;rintro e U2 ⟨rfl,rfl⟩;have HP9:=HP8;have HF9:=HF8;go_simp;refine hK _ _ hC1 (fun hd=>?_);clear hK K;iterate 2 (((refine Je (v:=?_) rfl (by kernel_rfl) (fun _ _ _ h=>h) ⟨by rfl,?_⟩ hd ?_;rotate_left;· intro w' sw;obtain ⟨s1,s2,s3,s4,s5,s6,s7⟩:=sw;go_simp;try with_reducible rfl);simp only [zA,zB,zC]))
      refine wpAnyH_done (by kernel_rfl) ?_ _;go_wp2_with fail;exact ⟨⟨j + 1,by omega,by go_num,cs',hcl',HP9,HF9⟩,by simp [intOf];omega⟩
    ·obtain rfl:j = St.length:=(by omega);go_wp2_with fail;refine (Z3 Wr).mono ?_;rintro e w9 ⟨rfl,hb9⟩;go_wp2_with fail;go_ret;have h1:=HB0.out.trans (HB1.out.mono HB0.out.size);have h2:=h1.trans (HBR.out.mono h1.size);exact ⟨rfl,h2.trans (hb9.mono h2.size)⟩
  ·have q0:(r != 0) = true:=by simpa using h0
   go_enter Tryz.func10,Tryz.ntmps10;go_upto_region 1 with fail;rw [<- hW];clear hW;go_wp2_with fail;refine HSM.out.mono ?_;rintro e w1 ⟨rfl,hb1⟩;have HB1:=zH hb1;have HT1:=zH (HT.out.below hb1);clear hb1 c0 c1 c2 HSM;obtain ⟨c0,c1,c2⟩:=HBX.out w1 HB1.out;go_wp2_with fail;refine (Qj o v A c L w1 HT1.out HAN.out (by omega) r HR).mono ?_;rintro e w2 ⟨hb2,hr2⟩;rw [if_neg h0] at hr2;subst hr2;have HB2:=zH (HB1.out.trans (hb2.mono HB1.out.size));have HT2:=zH (HT1.out.below hb2);clear hb2 c0 c1 c2;obtain ⟨c0,c1,c2⟩:=HBX.out w2 HB2.out;go_wp2_with fail;refine (Yn o v A c L w2 HT2.out hn r HR).mono ?_;rintro e w3 ⟨rfl,hb3⟩;have HB3:=zH (HB2.out.trans (hb3.mono HB2.out.size));clear hb3 c0 c1 c2 h0;go_wp2_with fail;refine (Z3 w3).mono ?_;rintro e w4 ⟨rfl,hb4⟩;go_wp2_with fail;go_ret;have h2:=HB0.out.trans (HB3.out.mono HB0.out.size);exact ⟨rfl,h2.trans (hb4.mono h2.size)⟩
end Go.Proofs.YtcjicjfbippmnaaGreat
namespace Go.Proofs.YtcjicjfbippmnaaGreat
open Go.RowKit Go.WideShapes

def Rd {H:Type} (enc:TypeId × Value -> H) (P:Program) (w:World) (t:TypeId) (cs:List Value):Prop:=
 ∃ fuel x,DataW.trod enc P w 0 (fun _=>true) true fuel t cs = some x

section
variable {α:Type} {H:Type} {enc:TypeId × Value -> H} {P:Program} {w:World} {t e:TypeId} {cs:List Value}

theorem Rd.of {v:Value} {d:DataW H} {p:List MemPlace} (h:DataW.Trod enc P w 0 (fun _=>true) true t v d p):Rd enc P w t v.cells.toList:=by
 obtain ⟨fuel,hf⟩:=h;exact ⟨fuel,_,hf⟩
theorem Rd.int {k:IntKind} (ht:P.underlying t = some (.int k)) (h:Rd enc P w t cs):∃ n,cs = [.int k n] /\ k.min <= n /\ n <= k.max:=by
 obtain ⟨fuel,x,hf⟩:=h;cases fuel with
 | zero=>simp [DataW.trod] at hf
 | succ f=>
  unfold DataW.trod at hf;rw [ht] at hf;split at hf <;> simp_all;rename_i h1;obtain ⟨⟨rfl,hw⟩,_⟩:=hf;subst h1;simpa [Lit.wf] using hw
theorem Rd.struct {fs:Array Field} (ht:P.underlying t = some (.struct fs)) (h:Rd enc P w t cs) :
  cs.length = P.cellsOf t /\ ∀ (i:Nat) (f:Field),fs[i]? = some f -> Rd enc P w f.type ((cs.drop f.offset).take (P.cellsOf f.type)):=by
 obtain ⟨fuel,x,hf⟩:=h;obtain ⟨xs,n,_,_,hl,hlen,hall⟩:=DataW.trod_struct ht hf;refine ⟨hl,fun i f hi=>?_⟩;have h1:i < xs.length:=by rw [hlen];exact (aE hi).1
 exact ⟨n,xs[i],(hall i f hi).trans (gE h1)⟩
theorem ZiW {elem : α -> List Value} {S:Nat}:∀ (l:List α) (a:Addr),(∀ i x,l[i]? = some x -> (elem x).length = S /\ ∀ j,j < S -> w.cell? (a.add (i * S + j)) = (elem x)[j]?) ->
  ∀ k u,(l.flatMap elem)[k]? = some u -> w.cell? (a.add k) = some u:=by
 intro l
 induction l with
 | nil=>intro a _ k u h;simp at h
 | cons x xs ih=>
  intro a h k u hk;obtain ⟨h1,h2⟩:=h 0 x rfl;rw [List.flatMap_cons,List.getElem?_append] at hk;split at hk <;> rename_i hlt
  ·rw [h1] at hlt;have:=h2 k hlt;rw [Nat.zero_mul,Nat.zero_add,hk] at this;exact this
  ·rw [h1] at hk hlt;have h3:=ih (a.add S) (fun i y hy=>by
    obtain ⟨g1,g2⟩:=h (i + 1) y (by simpa using hy);refine ⟨g1,fun j hj=>?_⟩;rw [Addr.add_add,<- g2 j hj];congr 2;rw [Nat.succ_mul];omega) (k - S) u hk
   rw [Addr.add_add] at h3
   rwa [show S + (k - S) = k by omega] at h3

theorem Rd.slice {α:Type} {S:Nat} (ht:P.underlying t = some (.slice e)) (hS:P.cellsOf e = S) (elem : α -> List Value) (Pr : α -> Prop)
  (he:∀ cs,Rd enc P w e cs -> ∃ a,cs = elem a /\ Pr a) (h:Rd enc P w t cs) :
  ∃ A c,∃ l:List α,cs = [.slice A l.length c] /\ Lies w A (l.flatMap elem) /\ (A = none -> c = 0 /\ l = []) /\ l.length <= 9223372036854775807 /\ l.length <= c /\ (∀ a ∈ l,Pr a):=by
 obtain ⟨fuel,x,hf⟩:=h;rcases DataW.trod_slice ht hf with ⟨rfl,_⟩ | ⟨a,len,cap,elems,rest,n,_,rfl,_,_,hl,hm,hlen,hel,_,_⟩
 ·exact ⟨none,0,[],rfl,Lies.nil _ _,fun _=>⟨rfl,rfl⟩,by simp,by simp,by simp⟩
 ·have key:∀ i,i < len -> ∃ y,Pr y /\ (elem y).length = S /\ ∀ j,j < S -> w.cell? (a.add (i * S + j)) = (elem y)[j]?:=by
   intro i hi;have h1:=hel i hi;rw [gE (by omega)] at h1;obtain ⟨es,h2,h3⟩:=Option.bind_eq_some_iff.1 h1;obtain ⟨y,rfl,hy⟩:=he es ⟨n,_,h3⟩;obtain ⟨_,h4,h5⟩:=World.cells?_some h2;rw [hS] at h4 h5;refine ⟨y,hy,h4,fun j hj=>?_⟩;rw [<- h5 j hj,Addr.add_add]
  have pick:∀ m,m <= len -> ∃ l:List α,l.length = m /\ ∀ i y,l[i]? = some y -> Pr y /\ (elem y).length = S /\ ∀ j,j < S -> w.cell? (a.add (i * S + j)) = (elem y)[j]?:=by
   intro m
   induction m with
   | zero=>intro _;exact ⟨[],rfl,fun i y hy=>by simp at hy⟩
   | succ m ih=>
    intro hm';obtain ⟨l,hl1,hl2⟩:=ih (by omega);obtain ⟨y,hy⟩:=key m (by omega);refine ⟨l ++ [y],by simp [hl1],fun i z hz=>?_⟩;rw [List.getElem?_append] at hz;split at hz
    ·exact hl2 i z hz
    ·rename_i hge;have hi:i = m:=by
      have:=(List.getElem?_eq_some_iff.1 hz).1;simp at this;omega
     subst hi;rw [hl1,Nat.sub_self] at hz;simp at hz;subst hz;exact hy
  obtain ⟨l,hll,hg⟩:=pick len nR;refine ⟨some a,cap,l,by rw [hll],fun h0=>?_,fun h=>by simp at h,?_,by omega,fun y hy=>?_⟩
  ·have hc:=ZiW (w:=w) l a (fun i x hx=>(hg i x hx).2);obtain ⟨u,hu⟩:∃ u,(l.flatMap elem)[0]? = some u:=⟨_,gE h0⟩;have h1:=hc 0 u hu;obtain ⟨b,off,sp⟩:=a;have hsp:sp = none:=by
    cases sp with
    | none=>rfl
    | some q=>
     exfalso;simp [Addr.add,World.cell?] at h1;split at h1 <;> simp_all
   subst hsp;refine ⟨b,off,rfl,?_,fun k u hk=>?_⟩
   ·apply Decidable.byContradiction;intro hb;simp [Addr.add,World.cell?,hb] at h1
   ·have:=hc k u hk
    rwa [Addr.add_lit] at this
  ·rw [hll];unfold maxLen at hm;omega
  ·obtain ⟨i,hi,rfl⟩:=List.getElem_of_mem hy;exact (hg i _ (gE hi)).1
theorem Rd.ints (ht:P.underlying t = some (.slice e)) (he:P.underlying e = some (.int .i64)) (hc:P.cellsOf e = 1) (h:Rd enc P w t cs) :
  ∃ A c l,cs = [.slice A l.length c] /\ Lies w A (ics l) /\ (A = none -> c = 0 /\ l = []) /\ l.length <= 9223372036854775807 /\ l.length <= c /\ (∀ x ∈ l,-9223372036854775808 <= x /\ x <= 9223372036854775807):=by
 obtain ⟨A,c,l,h1,h2,h3⟩:=h.slice ht hc (fun n=>[Value.int .i64 n]) (fun n=>-9223372036854775808 <= n /\ n <= 9223372036854775807) (fun cs hcs=>hcs.int he);refine ⟨A,c,l,h1,?_,h3⟩;have:(l.flatMap fun n=>[Value.int .i64 n]) = ics l:=by
  clear h1 h2 h3
  induction l with
  | nil=>rfl
  | cons x xs ih=>rw [List.flatMap_cons,ih];rfl
 rwa [this] at h2
variable {v:Value} {d:DataW H} {p:List MemPlace} {r:Reach} {b0:Nat}
theorem Zd9 {fs:Array Field} {n:Nat} (ht:P.underlying t = some (.struct fs)) (hC:P.cellsOf t = n) (hv:Value.okWide P w r b0 t v) (h:DataW.Trod enc P w 0 (fun _=>true) true t v d p) :
  ∃ cs:List Value,v = .agg cs.toArray /\ cs.length = n /\ ∀ (i:Nat) (f:Field),fs[i]? = some f -> Rd enc P w f.type ((cs.drop f.offset).take (P.cellsOf f.type)):=by
 obtain ⟨cs,rfl,hs⟩:=okWide_struct ht hv;have h1:=(Rd.of h).struct ht;refine ⟨cs.toList,by simp,by rw [<- hC,<- hs];simp,?_⟩;simpa [Value.cells] using h1.2
end
end Go.Proofs.YtcjicjfbippmnaaGreat
namespace Go.Proofs.YtcjicjfbippmnaaGreat
open Go.RowKit Go.WideShapes Ear

section
variable {H:Type} {enc:TypeId × Value -> H} {P:Program} {w:World} {t e eg:TypeId} {cs:List Value} {v:Value} {d:DataW H} {p:List MemPlace} {r:Reach} {b0:Nat}
theorem Rd.gm {f0 f1:Field} (ht:P.underlying t = some (.struct #[f0,f1])) (hC:P.cellsOf t = 2) (o0:f0.offset = 0) (o1:f1.offset = 1) (u0:P.underlying f0.type = some (.slice e)) (k0:P.cellsOf f0.type = 1) (he:P.underlying e = some (.int .i64)) (ke:P.cellsOf e = 1)
  (u1:P.underlying f1.type = some (.int .i64)) (k1:P.cellsOf f1.type = 1) (h:Rd enc P w t cs) :
  ∃ g:Gm,cs = [Value.slice g.1.1 g.1.2.2.length g.1.2.1,Value.int .i64 g.2] /\ (InOk w g.1 /\ -9223372036854775808 <= g.2 /\ g.2 <= 9223372036854775807):=by
 obtain ⟨hl,hf⟩:=h.struct ht;rw [hC] at hl
 match cs,hl with
 | [a,b],_=>
  have g0:=hf 0 f0 rfl;have g1:=hf 1 f1 rfl;rw [o0,k0] at g0;rw [o1,k1] at g1;obtain ⟨A,c,l,e0,hr⟩:=g0.ints u0 he ke;obtain ⟨n,e1,hn⟩:=g1.int u1;simp at e0 e1;subst e0 e1;exact ⟨((A,c,l),n),rfl,hr,hn⟩
theorem Zh7 {f0 f1 f2 g0 g1:Field} (ht:P.underlying t = some (.struct #[f0,f1,f2])) (hC:P.cellsOf t = 3) (o0:f0.offset = 0) (o1:f1.offset = 1) (o2:f2.offset = 2) (u0:P.underlying f0.type = some (.int .i64)) (k0:P.cellsOf f0.type = 1)
  (u1:P.underlying f1.type = some (.int .i64)) (k1:P.cellsOf f1.type = 1) (u2:P.underlying f2.type = some (.slice eg)) (k2:P.cellsOf f2.type = 1)
  (hg:P.underlying eg = some (.struct #[g0,g1])) (gC:P.cellsOf eg = 2) (p0:g0.offset = 0) (p1:g1.offset = 1) (v0:P.underlying g0.type = some (.slice e)) (l0:P.cellsOf g0.type = 1) (he:P.underlying e = some (.int .i64)) (ke:P.cellsOf e = 1)
  (v1:P.underlying g1.type = some (.int .i64)) (l1:P.cellsOf g1.type = 1) (hv:Value.okWide P w r b0 t v) (h:DataW.Trod enc P w 0 (fun _=>true) true t v d p) :
  ∃ o n A c,∃ L:List Gm,v = .agg #[.int .i64 o,.int .i64 n,.slice A L.length c] /\ (-9223372036854775808 <= o /\ o <= 9223372036854775807) /\ (-9223372036854775808 <= n /\ n <= 9223372036854775807) /\ Tb w A L /\ (A = none -> c = 0 /\ L = []) /\ L.length <= 9223372036854775807:=by
 obtain ⟨cs,rfl,hl,hf⟩:=Zd9 ht hC hv h
 match cs,hl with
 | [a,b,c],_=>
  have q0:=hf 0 f0 rfl;have q1:=hf 1 f1 rfl;have q2:=hf 2 f2 rfl;rw [o0,k0] at q0;rw [o1,k1] at q1;rw [o2,k2] at q2;obtain ⟨o,e0,ho⟩:=q0.int u0;obtain ⟨n,e1,hn⟩:=q1.int u1;obtain ⟨A,c',L,e2,hL,hA,hm,_,hx⟩:=q2.slice u2 gC (fun g:Gm=>[Value.slice g.1.1 g.1.2.2.length g.1.2.1,Value.int .i64 g.2]) (fun g=>InOk w g.1 /\ -9223372036854775808 <= g.2 /\ g.2 <= 9223372036854775807) (fun cs hcs=>hcs.gm hg gC p0 p1 v0 l0 he ke v1 l1);simp at e0 e1 e2;subst e0 e1 e2;exact ⟨o,n,A,c',L,rfl,ho,hn,⟨hL,fun g hg=>(hx g hg).1,fun g hg=>(hx g hg).2⟩,hA,hm⟩
end
end Go.Proofs.YtcjicjfbippmnaaGreat
namespace Go.Proofs.YtcjicjfbippmnaaGreat
open Go.RowKit Go.WideShapes Ear

section
variable {H:Type} {enc:TypeId × Value -> H} {P:Program} {w:World} {t e ts:TypeId} {cs:List Value} {v:Value} {d:DataW H} {p:List MemPlace} {r:Reach} {b0:Nat}
theorem Rd.stp {f0 f1 f2:Field} (ht:P.underlying t = some (.struct #[f0,f1,f2])) (hC:P.cellsOf t = 3) (o0:f0.offset = 0) (o1:f1.offset = 1) (o2:f2.offset = 2) (u0:P.underlying f0.type = some (.int .i64)) (k0:P.cellsOf f0.type = 1)
  (u1:P.underlying f1.type = some (.slice e)) (k1:P.cellsOf f1.type = 1) (he:P.underlying e = some (.int .i64)) (ke:P.cellsOf e = 1) (u2:P.underlying f2.type = some (.int .i64)) (k2:P.cellsOf f2.type = 1) (h:Rd enc P w t cs) :
  ∃ s:Stp,cs = [Value.int .i64 s.1,Value.slice s.2.1.1 s.2.1.2.2.length s.2.1.2.1,Value.int .i64 s.2.2] /\ InOk w s.2.1:=by
 obtain ⟨hl,hf⟩:=h.struct ht;rw [hC] at hl
 match cs,hl with
 | [a,b,c],_=>
  have q0:=hf 0 f0 rfl;have q1:=hf 1 f1 rfl;have q2:=hf 2 f2 rfl;rw [o0,k0] at q0;rw [o1,k1] at q1;rw [o2,k2] at q2;obtain ⟨k,e0,_⟩:=q0.int u0;obtain ⟨A,c',s,e1,hr⟩:=q1.ints u1 he ke;obtain ⟨n,e2,hn⟩:=q2.int u2;simp at e0 e1 e2;subst e0 e1 e2;exact ⟨(k,(A,c',s),n),rfl,hr⟩
theorem ZfP {f0 f1 f2:Field} (hs:P.underlying ts = some (.slice t)) (ht:P.underlying t = some (.struct #[f0,f1,f2])) (hC:P.cellsOf t = 3) (o0:f0.offset = 0) (o1:f1.offset = 1) (o2:f2.offset = 2) (u0:P.underlying f0.type = some (.int .i64)) (k0:P.cellsOf f0.type = 1)
  (u1:P.underlying f1.type = some (.slice e)) (k1:P.cellsOf f1.type = 1) (he:P.underlying e = some (.int .i64)) (ke:P.cellsOf e = 1) (u2:P.underlying f2.type = some (.int .i64)) (k2:P.cellsOf f2.type = 1)
  (hv:Value.okWide P w r b0 ts v) (h:DataW.Trod enc P w 0 (fun _=>true) true ts v d p) :
  ∃ A c,∃ L:List Stp,v = .slice A L.length c /\ Lies w A (ZdB L) /\ (∀ s ∈ L,InOk w s.2.1) /\ L.length <= 9223372036854775807:=by
 obtain ⟨A',n',c',rfl⟩:=okWide_slice hs hv;obtain ⟨A,c,L,h1,h2,h3,h4,h5,h6⟩:=(Rd.of h).slice hs hC (fun s:Stp=>[Value.int .i64 s.1,Value.slice s.2.1.1 s.2.1.2.2.length s.2.1.2.1,Value.int .i64 s.2.2]) (fun s=>InOk w s.2.1) (fun cs hcs=>hcs.stp ht hC o0 o1 o2 u0 k0 u1 k1 he ke u2 k2);simp [Value.cells] at h1;obtain ⟨rfl,rfl,rfl⟩:=h1;exact ⟨A',c',L,rfl,h2,h6,h4⟩
end
end Go.Proofs.YtcjicjfbippmnaaGreat
