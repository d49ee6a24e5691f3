/- TalkHears -/
import Derived.Test.YtcjicjfbippmnaaGreatMTHear33
import Derived.Test.YtcjicjfbippmnaaGreatMTHear34
import Derived.OpenShut
import Derived.ProofKit
set_option maxRecDepth 100000
set_option maxHeartbeats 32000000
namespace Go.Proofs.YtcjicjfbippmnaaGreat
open Go.RowKit Ear

theorem Few.mono {x:Fr} {k l:Nat} (h:Few x k) (hl:k <= l):Few x l:=⟨tR h.n hl,tR h.d hl⟩
theorem ZiH:DlK 0 kD0:=⟨by decide +kernel,by decide +kernel,by decide +kernel,by decide +kernel,by decide +kernel,by decide +kernel,by decide +kernel,by decide +kernel,by decide +kernel,by decide +kernel,by decide +kernel⟩
theorem kh1:XD kD0 ⟨4,Zav,mkRat 1 2,2⟩ = (0,kD1):=Prod.ext (by decide +kernel) rfl
theorem kh2:XD kD1 ⟨2,⟨#[]⟩,((1:Int):Rat),4⟩ = (0,kD2):=Prod.ext (by decide +kernel) rfl
theorem kh3:XD kD2 ⟨2,⟨#[]⟩,((1:Int):Rat),9⟩ = (0,kD3):=Prod.ext (by decide +kernel) rfl
theorem kb1:¬ ZdH kD0 ⟨4,Zav,mkRat 1 2,2⟩:=by decide +kernel
theorem kb2:¬ ZdH kD1 ⟨2,⟨#[]⟩,((1:Int):Rat),4⟩:=by decide +kernel
theorem kb3:¬ ZdH kD2 ⟨2,⟨#[]⟩,((1:Int):Rat),9⟩:=by decide +kernel
theorem ks0:kD0.stand = 0:=by decide +kernel
theorem ks1:kD1.stand = 0:=by decide +kernel
theorem ks2:kD2.stand = 0:=by decide +kernel
theorem ZhC:DlK 1 kD1:=ZaB ZiH _
theorem ZiG:DlK 2 kD2:=ZaB ZhC _
theorem Zji:DlK 3 kD3:=ZaB ZiG _
theorem DlM.few {n:Int} {w:World} {bs:Nat} {a:DlA} {D:PDl} (h:DlM w bs a D) (hK:DlK n D) (hn:n <= 1000000):a.Fm.length <= 1000000 /\ ∀ f ∈ a.Fm,f.ref.length <= 1000000:=by
 have hfw:=hK.few;refine ⟨by rw [h.lens.1];omega,fun f hf=>?_⟩;have h1:f.pure ∈ D.F:=by rw [<- h.pure];exact WV hf
 have:=hK.ref _ h1;have e:f.pure.ref = f.ref:=rfl;rw [e] at this;omega
theorem Chg.bel {w w':World} {bs b0:Nat} {a a':DlA} {D:PDl} (h:Chg w w' a a') (hd:DlM w bs a D) (h0:b0 <= w.heap.size) (h1:b0 <= a.q) (h2:b0 <= a.gF) (h3:b0 <= bs):Below b0 w w':=
 ⟨h.os,h.tape,h.output,h.size,fun k hk=>h.block k (by omega) (by omega) (by omega) (fun f hf e=>by
  have:=((hd.ref f hf).lt k (by rw [Jm];exact e)).1;omega)⟩
theorem DlM.alien {w:World} {bs:Nat} {a:DlA} {D:PDl} {e:TypeId} (h:DlM w bs a D) {b:Nat} (hbt:BT w b e) (h1:e ≠ 133) (h2:e ≠ 76) (h3:e ≠ 9):b ≠ a.q /\ b ≠ a.gF /\ ∀ f ∈ a.Fm,blk f.A ≠ some b:=
 ⟨hbt.ne ⟨_,_,h.cell⟩ h1,hbt.ne (BT.of_own h.row rfl) h2,fun f hf e=>(BT.of_own (h.ref f hf) (by rw [Jm];exact e)).ne hbt h3.symm rfl⟩
theorem LrI.plain {w:World} {base p:Nat} {B:Option Addr} {t:TT} (h:LrI w base p B 1 [t]):∃ g,B = some ⟨g,0,none⟩ /\ w.heap[g]? = some (.cells #[.int .i64 t.o,.int .i64 t.v,.slice t.A t.L.length t.c] 84 (0,0)):=by
 obtain ⟨q1,q2⟩:=h.row;rcases q2 with ⟨e,h0⟩ | ⟨g,cap,cur,e,hg,hgg,h1,h2,h3,h4⟩
 ·simp at h0
 ·injection e with e1 e2 e3
  subst e3;refine ⟨g,e1,?_⟩;rw [hgg];have e5:cur = #[.int .i64 t.o,.int .i64 t.v,.slice t.A t.L.length t.c]:=by
   apply Array.ext';simp only [ZbS,List.flatMap_cons,List.flatMap_nil,List.append_nil] at h4
   first
    | exact h4
    | (rw [Wm (by simp [h3])] at h4;exact h4)
    | (have h5:=WaF List.length h4;simp at h5;rw [<- h4];simp)
  rw [e5]
theorem Y9 (w:World):Calls Tryz.prog 14 #[] w (Qp true w):=by
 have D0:=zH (ZM (ZM (ZM (ZM (ZM (Led.nil w) #[.int .i64 0] 3 w.heap.size rfl) #[.int .i64 0] 3 (w.heap.size + 1) (by simp)) #[.slice (some ⟨w.heap.size,0,none⟩) 1 1,.slice (some ⟨w.heap.size + 1,0,none⟩) 1 1] 40 (w.heap.size + 2) (by simp)) #[.int .i64 3] 3 (w.heap.size + 3) (by simp)) #[.slice (some ⟨w.heap.size + 3,0,none⟩) 1 1] 40 (w.heap.size + 4) (by simp));go_enter Tryz.func14,Tryz.ntmps14;go_wp2_with fail;refine (Zje w.heap.size (w.heap.size + 1) (w.heap.size + 2) (w.heap.size + 3) (w.heap.size + 4) _ (D0.out.lies 0 _ _ rfl) (D0.out.lies 1 _ _ rfl) (D0.out.lies 2 _ _ rfl) (D0.out.lies 3 _ _ rfl) (D0.out.lies 4 _ _ rfl)).mono ?_;rintro e w1 ⟨x,rfl,hx,hb1,-⟩;obtain ⟨V1,hV1⟩:∃ V1:World,V1 = w1.alloc (.cells #[.bool x.neg,.slice x.A x.N.length x.c,.slice x.B x.D.length x.d] 28):=⟨_,rfl⟩;have HB0:=zH (D0.out.bel.trans (hb1.mono D0.out.bel.size));have HB1:Hid (Below w.heap.size w V1):=zH (by rw [hV1];exact HB0.out.alloc HB0.out.size _);have HX1:Hid (V1.heap[w1.heap.size]? = some (.cells #[.bool x.neg,.slice x.A x.N.length x.c,.slice x.B x.D.length x.d] 28 (0,0))):=zH (by rw [hV1];exact Wg w1 _);have HF1:Hid (Fq V1 x ((6:Int):Rat)):=zH (by rw [hV1];exact hx.below (bR.alloc nR _));clear hx hb1 D0 HB0;go_upto_region 2 with fail;rw [<- hV1];clear hV1;have D1:=zH (ZM (ZM (ZM (ZM (ZM (ZM (ZM (Led.nil V1) #[.int .i64 0] 3 V1.heap.size rfl) #[.slice (some ⟨V1.heap.size,0,none⟩) 1 1] 40 (V1.heap.size + 1) (by simp)) #[.int .i64 9] 3 (V1.heap.size + 2) (by simp)) #[.slice (some ⟨V1.heap.size + 2,0,none⟩) 1 1] 40 (V1.heap.size + 3) (by simp)) #[.int .i64 1] 3 (V1.heap.size + 4) (by simp)) #[.slice (some ⟨V1.heap.size + 4,0,none⟩) 1 1] 40 (V1.heap.size + 5) (by simp)) #[.slice (some ⟨V1.heap.size + 1,0,none⟩) 1 1,.slice (some ⟨V1.heap.size + 3,0,none⟩) 1 1,.slice (some ⟨V1.heap.size + 5,0,none⟩) 1 1] 22 (V1.heap.size + 6) (by simp));go_wp2_with fail;refine (ZC 1 2 _ (by decide) (by decide) (by decide) (by decide)).mono ?_;rintro e w2 ⟨h,rfl,hh,hb2⟩;rw [ZeQ] at hh;have D2:=zH (D1.out.below hb2);have HH:=zH hh;clear hh hb2 D1;go_wp2_with fail;refine (Zjh V1.heap.size (V1.heap.size + 1) (V1.heap.size + 2) (V1.heap.size + 3) (V1.heap.size + 4) (V1.heap.size + 5) (V1.heap.size + 6) h w2 (D2.out.lies 0 _ _ rfl) (D2.out.lies 1 _ _ rfl) (D2.out.lies 2 _ _ rfl) (D2.out.lies 3 _ _ rfl) (D2.out.lies 4 _ _ rfl) (D2.out.lies 5 _ _ rfl) (D2.out.lies 6 _ _ rfl) HH.out).mono ?_;rintro e w3 ⟨A3,c3,rfl,ho3,hb3⟩;have HO3:Hid (Lies w3 A3 (ics [0,1,0])):=zH (Lies.of_own ho3);have HB3:Hid (Below V1.heap.size V1 w3):=zH (D2.out.bel.trans (hb3.mono D2.out.bel.size));have HX3:Hid (w3.heap[w1.heap.size]? = some (.cells #[.bool x.neg,.slice x.A x.N.length x.c,.slice x.B x.D.length x.d] 28 (0,0))):=zH ((HB3.out.block _ (aE HX1.out).1).trans HX1.out);have HF3:=zH (HF1.out.below HB3.out);have HW3:=zH (HB1.out.trans (HB3.out.mono HB1.out.size));simp only [List.length_cons,List.length_nil,Nat.zero_add,Nat.reduceAdd];clear ho3 hb3 D2 HH HX1 HF1 HB1 HB3;have D3:=zH (ZM (ZM (Led.nil w3) #[.int .i64 1] 3 w3.heap.size rfl) #[.slice (some ⟨w3.heap.size,0,none⟩) 1 1] 40 (w3.heap.size + 1) (by simp));go_wp2_with fail;refine (Zjg w3.heap.size (w3.heap.size + 1) _ (D3.out.lies 0 _ _ rfl) (D3.out.lies 1 _ _ rfl)).mono ?_;rintro e w4 ⟨CA,Cc,CL,rfl,hgl,htb,hb4⟩;have HB4:=zH (D3.out.bel.trans (hb4.mono D3.out.bel.size));have HGL:=zH hgl;have HTB:=zH htb;clear hgl htb hb4 D3;go_wp2_with fail;refine (Zjd CA Cc CL w4 _ HGL.out HTB.out).mono ?_;rintro e w5 ⟨hb5,p,B,t,rfl,hL,ho,hv,ht,hpg⟩;have HB5:Hid (Below w3.heap.size w3 w5):=zH (HB4.out.trans (hb5.mono HB4.out.size));have HL5:=zH hL;have HT:=zH (show t.o = 1 /\ t.v = 1 /\ Jp t.L = [([0],1),([1],1)] from ⟨ho,hv,ht⟩);have HPG:=zH (show w4.heap.size <= p /\ w4.heap.size <= w5.heap.size /\ w.heap.size <= w4.heap.size from ⟨hpg,hb5.size,tR HW3.out.size HB4.out.size⟩);clear hb5 hL ho hv ht hpg HGL HTB HB4;go_wp2_with fail;refine (ZeH w5).mono ?_;rintro e w6 ⟨PA,s,rfl,hpl,hnm,hvs,hb6⟩;have HPL:=zH hpl;have HB6:=zH (HB5.out.trans (hb6.mono HB5.out.size));have HL6:=zH (HL5.out.below hb6);have HSZ:Hid (∀ s' ∈ [s],s'.nm.size <= 1000000 /\ ∀ v ∈ s'.vs,v.size <= 1000000):=zH (fun s' hs'=>by
  rw [WS] at hs';subst hs';rw [hnm,hvs];exact ⟨by decide,fun v hv=>by
   simp at hv;rcases hv with rfl | rfl <;> decide⟩)
 have HVL:Hid (∀ s' ∈ [s],s'.vs.length <= 1000000):=zH (fun s' hs'=>by
  rw [WS] at hs';subst hs';rw [hvs];decide)
 have hs56:=hb6.size;clear hpl hnm hvs hb6 HB5 HL5;go_wp2_with fail;refine (Zfl PA 1 [s] kPs 1 10 4 w6 HPL.out HSZ HVL (zH Zhv)).mono ?_;rintro e w7 ⟨a,rfl,hD,hq1,hq2,hb7⟩;have HB7:=zH (HB6.out.trans (hb7.mono HB6.out.size));have HX7:Hid (w7.heap[w1.heap.size]? = some (.cells #[.bool x.neg,.slice x.A x.N.length x.c,.slice x.B x.D.length x.d] 28 (0,0))):=zH ((HB7.out.block _ (aE HX3.out).1).trans HX3.out);have HF7:=zH (HF3.out.below HB7.out);have HO7:=zH (HO3.out.below HB7.out);have HW7:=zH (HW3.out.trans (HB7.out.mono HW3.out.size));have HL7:=zH (HL6.out.below hb7);have HD7:Hid (DlM w7 w7.heap.size a kD0):=zH hD;have HPG7:=zH (show w4.heap.size <= p /\ w4.heap.size <= w7.heap.size /\ w.heap.size <= w4.heap.size from ⟨HPG.out.1,tR HPG.out.2.1 (tR hs56 hb7.size),HPG.out.2.2⟩);have HAQ:=zH (show w.heap.size <= a.q /\ w.heap.size <= a.gF from ⟨tR (tR (tR HPG.out.2.2 HPG.out.2.1) hs56) hq1,tR (tR (tR HPG.out.2.2 HPG.out.2.1) hs56) hq2⟩);have HBXS:Hid (∀ u,Below w7.heap.size w7 u -> u.cell? ⟨w1.heap.size,0,none⟩ = some (.bool x.neg) /\ u.cell? ⟨w1.heap.size,1,none⟩ = some (.slice x.A x.N.length x.c) /\ u.cell? ⟨w1.heap.size,2,none⟩ = some (.slice x.B x.D.length x.d)):=zH (fun u hu=>by
  have hh:=(hu.block _ (aE HX7.out).1).trans HX7.out;exact ⟨(cR 0 hh).trans rfl,(cR 1 hh).trans rfl,(cR 2 hh).trans rfl⟩)
 clear hD hq1 hq2 hb7 hs56 HB7 HX3 HF3 HO3 HW3 HL6 HB6 HPL HSZ HVL HPG;go_upto_region 5 with fail;refine Jd (S:=fun w'=>w'.cell? ⟨w1.heap.size,0,none⟩ = some (.bool x.neg) /\ w'.cell? ⟨w1.heap.size,1,none⟩ = some (.slice x.A x.N.length x.c) /\ w'.cell? ⟨w1.heap.size,2,none⟩ = some (.slice x.B x.D.length x.d)) 34 rfl (by kernel_rfl) (HBXS.out _ bR.drew) (fun hHeld=>?_);iterate 24 (((refine Ja (v:=?_) rfl (by kernel_rfl) (fun _ _ _ h=>h) ⟨by rfl,?_⟩ hHeld ?_;rotate_left;· intro w' sw;obtain ⟨s1,s2,s3⟩:=sw;go_simp;try with_reducible rfl);simp only [zA,zB,zC]))
 refine Jk 24 rfl (by kernel_rfl) (by rfl) (fun K hK=>?_);go_simp;refine (Uz 6 w7.drew (by decide) (by decide)).mono ?_;rintro e w8 ⟨y,rfl,hy,hb8⟩;have HY8:=zH hy;have HB8:Hid (Below w7.heap.size w7 w8):=zH (Jg hb8);clear hy hb8;go_simp;refine hK _ _ (HBXS.out w8 HB8.out) (fun hHeld=>?_);clear hK K;refine Jk 25 rfl (by kernel_rfl) (by rfl) (fun K hK=>?_);go_simp;refine (Zdr x y ((6:Int):Rat) ((6:Int):Rat) w8 (HF7.out.below HB8.out) HY8.out (((HF7.out.below HB8.out).few (UM (by decide +kernel) (by decide +kernel))).mono (by decide)) true (zH (by decide))).mono ?_;rintro e w9 ⟨rfl,hb9⟩;have HB9:=zH (HB8.out.trans (hb9.mono HB8.out.size));clear hb9 HY8 HB8;go_simp;refine hK _ _ (HBXS.out w9 HB9.out) (fun hHeld=>?_);clear hK K;iterate 4 (((refine Ja (v:=?_) rfl (by kernel_rfl) (fun _ _ _ h=>h) ⟨by rfl,?_⟩ hHeld ?_;rotate_left;· intro w' sw;obtain ⟨s1,s2,s3⟩:=sw;go_simp;try with_reducible rfl);simp only [zA,zB,zC]))
 refine Jk 30 rfl (by kernel_rfl) (by rfl) (fun K hK=>?_);go_simp;obtain ⟨w10,hw10⟩:∃ w10:World,w10 = w9.alloc (.cells #[.int .i64 0,.int .i64 1,.int .i64 0] 3):=⟨_,rfl⟩;have HB10:Hid (Below w7.heap.size w7 w10):=zH (by rw [hw10];exact HB9.out.alloc HB9.out.size _);have HL10:Hid (Lies w10 (some ⟨w9.heap.size,0,none⟩) [.int .i64 0,.int .i64 1,.int .i64 0]):=zH (by rw [hw10];exact (((ZM (Led.nil w9) _ _ _ rfl).lies 0 _ _ rfl)));rw [<- hw10];clear hw10;go_simp;refine hK _ _ (HBXS.out w10 HB10.out) (fun hHeld=>?_);clear hK K;refine Jk 31 rfl (by kernel_rfl) (by rfl) (fun K hK=>?_);go_simp;refine (ZgM A3 (some ⟨w9.heap.size,0,none⟩) c3 3 [0,1,0] [0,1,0] w10 (HO7.out.below HB10.out) HL10.out (by decide) (by decide) true (zH (by decide))).mono ?_;rintro e w11 ⟨rfl,n11,hw11⟩;have HB11:Hid (Below w7.heap.size w7 w11):=zH (by rw [hw11];exact HB10.out.drw n11);clear hw11 HB10 HL10 HB9;go_simp;refine hK _ _ (HBXS.out w11 HB11.out) (fun hHeld=>?_);clear hK K;iterate 2 (((refine Ja (v:=?_) rfl (by kernel_rfl) (fun _ _ _ h=>h) ⟨by rfl,?_⟩ hHeld ?_;rotate_left;· intro w' sw;obtain ⟨s1,s2,s3⟩:=sw;go_simp;try with_reducible rfl);simp only [zA,zB,zC]))
 refine WC (by kernel_rfl) ?_ _;have HL11:=zH (HL7.out.below HB11.out);have HD11:=zH (HD7.out.below HB11.out);have HW11:=zH (HW7.out.trans (HB11.out.mono HW7.out.size));have HS11:=zH (show w7.heap.size <= w11.heap.size from HB11.out.size);clear HX7 HF7 HO7 HW7 HL7 HD7 HBXS HB11 hHeld;obtain ⟨V11,hV11⟩:∃ V11:World,V11 = w11.alloc (.cells #[.int .i64 1,.int .i64 1] 3):=⟨_,rfl⟩;have HBV:Hid (Below w11.heap.size w11 V11):=zH (by rw [hV11];exact bR.alloc nR _);have HIN:Hid (InOk V11 (some ⟨w11.heap.size,0,none⟩,2,[1,1])):=zH (by rw [hV11];exact ZgY (l:=[1,1]) ((ZM (Led.nil w11) #[.int .i64 1,.int .i64 1] 3 _ rfl).lies 0 _ _ rfl) (by decide) (by decide));have HLV:=zH (HL11.out.below HBV.out);have HDV:=zH (HD11.out.below HBV.out);have HWV:=zH (HW11.out.trans (HBV.out.mono HW11.out.size));have HSV:=zH (show w7.heap.size <= V11.heap.size from tR HS11.out HBV.out.size);have HK:=zH (Zjf w4.heap.size p B t (some ⟨w11.heap.size,0,none⟩) 2 V11 HLV.out (tR HPG7.out.2.1 HSV.out) HPG7.out.1 HT.out.1 HT.out.2.1 HT.out.2.2 HIN.out);clear HL11 HD11 HW11 HS11 HBV HIN;go_upto_region 7 with fail;go_wp2_with fail;rw [<- hV11];clear hV11;refine HK.out.mono ?_;rintro e w12 ⟨rfl,B',cap',t2,hL2,ho2,hv2,ht2,hTwo⟩;obtain ⟨g,hBg,hgc⟩:=HLV.out.plain;have HD12:Hid (DlM w12 w7.heap.size a kD0):=zH (HDV.out.off (p:=p) (q:=g) hTwo.size ⟨_,_,HLV.out.cell,by simp [Zr,ZaT]⟩ ⟨_,_,hgc,by simp [Zr,ZaT]⟩ (fun k h1 h2 h3=>hTwo.block k h1 h2 (by rw [hBg];intro e;injection e with e;exact h3 e)) ⟨_,HLV.out.btp,by decide,by decide,by decide⟩ ⟨_,⟨_,_,hgc⟩,by decide,by decide,by decide⟩);have HW12:Hid (Below w.heap.size w w12):=zH (HWV.out.trans (hTwo.below HWV.out.size (tR HPG7.out.2.2 HPG7.out.1) (fun k hk=>tR HPG7.out.2.2 (HLV.out.geB (by simp) k hk))));have HS12:Hid (w7.heap.size <= w12.heap.size):=zH (tR HSV.out hTwo.size);have HL12:Hid (LrI w12 w4.heap.size p B' cap' ([t] ++ [t2])):=zH hL2;have HT2:=zH (show t2.o = 1 /\ t2.v = 1 /\ Jp t2.L = [([0],3),([1],5)] from ⟨ho2,hv2,ht2⟩);clear hL2 ho2 hv2 ht2 hTwo hBg hgc HK HLV HDV HWV HSV HT;go_wp2_with fail;refine (QR p 2 cap' B' w12 HL12.out.at_ (by decide) (by decide)).mono ?_;rintro e w12' ⟨rfl,rfl⟩;go_wp2_with fail;refine (Zdl w4.heap.size p cap' B' [t] t2 w12' HL12.out (by simp)).mono ?_;rintro e w13 ⟨TA,Tc,TL,rfl,hgl,htb,hb13⟩;have htl:Jp TL = [([0],3),([1],5)]:=htb.trans HT2.out.2.2;have hlen:TL.length = 2:=by have:=WaF List.length htl;simpa using this
 obtain ⟨g0,g1,rfl⟩:∃ g0 g1,TL = [g0,g1]:=by
  match TL,hlen with
  | [a,b],_=>exact ⟨a,b,rfl⟩
 have hg0:g0.2 = 3:=by simp at htl;exact htl.1.2
 have hg1:g1.2 = 5:=by simp at htl;exact htl.2.2
 have HD13:=zH (HD12.out.below hb13);have HW13:=zH (HW12.out.trans (hb13.mono HW12.out.size));have HS13:Hid (w7.heap.size <= w13.heap.size):=zH (tR HS12.out hb13.size);obtain ⟨V13,hV13⟩:∃ V13:World,V13 = w13.alloc (.cells #[.int .i64 t2.o,.int .i64 t2.v,.slice TA 2 Tc] 84):=⟨_,rfl⟩;have HBV:Hid (Below w13.heap.size w13 V13):=zH (by rw [hV13];exact bR.alloc nR _);have hx13:V13.heap[w13.heap.size]? = some (.cells #[.int .i64 t2.o,.int .i64 t2.v,.slice TA 2 Tc] 84 (0,0)):=by rw [hV13];exact Wg w13 _
 obtain ⟨tb,toff,rfl,htbl,-,hc0⟩:=(hgl.tb.below HBV.out).at_ (k:=0) (by simp);obtain ⟨tb',toff',e1,-,-,hc1⟩:=(hgl.tb.below HBV.out).at_ (k:=1) (by simp);cases e1;simp only [List.getElem_cons_zero,List.getElem_cons_succ,hg0,hg1,Nat.zero_mul,Nat.add_zero,Nat.one_mul] at hc0 hc1;have b2:V13.cell? ⟨w13.heap.size,2,none⟩ = some (.slice (some ⟨tb,toff,none⟩) 2 Tc):=(cR 2 hx13).trans rfl;have HDV:=zH (HD13.out.below HBV.out);have HWV:=zH (HW13.out.trans (HBV.out.mono HW13.out.size));have HSV:Hid (w7.heap.size <= V13.heap.size):=zH (tR HS13.out HBV.out.size);clear hgl htb htl hlen hg0 hg1 hb13 HD12 HW12 HS12 HL12 HT2 HD13 HW13 HS13 hx13;simp only [List.length_cons,List.length_nil,Nat.zero_add,Nat.reduceAdd];go_upto_region 10 with fail;rw [<- hV13];clear hV13 HBV;go_upto_region 12 with fail;clear hc0 hc1 b2;go_wp2_with fail;refine (ZC 1 2 V13 (by decide) (by decide) (by decide) (by decide)).mono ?_;rintro e w14 ⟨h,rfl,hh,hb14⟩;rw [ZeQ] at hh;have hH1:=Qr 0 w7.heap.size a kD0 ⟨4,Zav,h,2⟩ (mkRat 1 2) w14 (HDV.out.below hb14) ZiH (by decide) hh.fv (hh.few (UM (by decide +kernel) (by decide +kernel))) (show (Lit.int .i64 4).wf = true by decide) (.inr rfl) kb1 ks0 (0,kD1) (zH kh1);have HH1:=zH hH1;have HD14:=zH (HDV.out.below hb14);have HW14:=zH (HWV.out.trans (hb14.mono HWV.out.size));have HS14:Hid (w7.heap.size <= w14.heap.size):=zH (tR HSV.out hb14.size);clear hH1 hh hb14 HDV HWV HSV;go_wp2_with fail;refine HH1.out.mono ?_;rintro e w15 ⟨a1,rfl,hD1,hc1⟩;have HD15:=zH hD1;have HW15:Hid (Below w.heap.size w w15):=zH (HW14.out.trans (hc1.bel HD14.out HW14.out.size HAQ.out.1 HAQ.out.2 (tR HPG7.out.2.2 HPG7.out.2.1)));have HA1:=zH (show w.heap.size <= a1.q /\ w.heap.size <= a1.gF from ⟨by rw [hc1.same.1];exact HAQ.out.1,by rw [hc1.same.2];exact HAQ.out.2⟩);have HQ:=zH (Zfs 1 w7.heap.size a1 kD1 w15 HD15.out ZhC);have HAS:Hid (a1.q = a.q):=zH hc1.same.1;rw [ZiE,HAS.out] at HQ;clear hD1 hc1 HD14 HW14 HS14 HH1;go_wp2_with fail;refine HQ.out.mono ?_;rintro e w16 ⟨rfl,hb16⟩;obtain ⟨V16,hV16⟩:∃ V16:World,V16 = w16.alloc (.cells #[.int .i64 0,.bool true,.string Zav,.int .i64 2] 69):=⟨_,rfl⟩;have HBV:Hid (Below w16.heap.size w16 V16):=zH (by rw [hV16];exact bR.alloc nR _);have HX16:Hid (V16.heap[w16.heap.size]? = some (.cells #[.int .i64 0,.bool true,.string Zav,.int .i64 2] 69 (0,0))):=zH (by rw [hV16];exact Wg w16 _);have HDV:=zH ((HD15.out.below hb16).below HBV.out);have HWV:=zH (HW15.out.trans ((hb16.trans (HBV.out.mono hb16.size)).mono HW15.out.size));clear hb16 HBV HD15 HW15 HQ;go_upto_region 14 with fail;rw [<- hV16];clear hV16;go_wp2_with fail;refine (Uz 1 V16 (by decide) (by decide)).mono ?_;rintro e w17 ⟨h2,rfl,hh,hb17⟩;have hx17:w17.heap[w16.heap.size]? = some (.cells #[.int .i64 0,.bool true,.string Zav,.int .i64 2] 69 (0,0)):=(hb17.block _ (aE HX16.out).1).trans HX16.out;have HX17:=zH hx17;have HD17:=zH (HDV.out.below hb17);have HW17:=zH (HWV.out.trans (hb17.mono HWV.out.size));have HH2:=zH (Qr 1 w7.heap.size a1 kD1 ⟨2,⟨#[]⟩,h2,4⟩ ((1:Int):Rat) w17 HD17.out ZhC (by decide) hh.fv (hh.few (UM (by decide +kernel) (by decide +kernel))) (show (Lit.int .i64 2).wf = true by decide) (.inl rfl) kb2 ks1 (0,kD2) (zH kh2));rw [HAS.out] at HH2;clear hh hb17 hx17 HX16 HDV HWV;go_wp2_with fail;refine HH2.out.mono ?_;rintro e w18 ⟨a2,rfl,hD2,hc2⟩;have HD18:=zH hD2;have HW18:Hid (Below w.heap.size w w18):=zH (HW17.out.trans (hc2.bel HD17.out HW17.out.size HA1.out.1 HA1.out.2 (tR HPG7.out.2.2 HPG7.out.2.1)));have HA2:=zH (show w.heap.size <= a2.q /\ w.heap.size <= a2.gF from ⟨by rw [hc2.same.1];exact HA1.out.1,by rw [hc2.same.2];exact HA1.out.2⟩);have HAS2:Hid (a2.q = a.q):=zH (hc2.same.1.trans HAS.out);have HX18:Hid (w18.heap[w16.heap.size]? = some (.cells #[.int .i64 0,.bool true,.string Zav,.int .i64 2] 69 (0,0))):=zH (by
  obtain ⟨n1,n2,n3⟩:=HD17.out.alien (b:=w16.heap.size) ⟨_,_,HX17.out⟩ (by decide) (by decide) (by decide);exact (hc2.block _ (aE HX17.out).1 n1 n2 n3).trans HX17.out)
 clear hD2 hc2 HX17 HD17 HW17 HH2 HA1;go_wp2_with fail;refine (Uz 1 w18 (by decide) (by decide)).mono ?_;rintro e w19 ⟨h3,rfl,hh,hb19⟩;have HX19:Hid (w19.heap[w16.heap.size]? = some (.cells #[.int .i64 0,.bool true,.string Zav,.int .i64 2] 69 (0,0))):=zH ((hb19.block _ (aE HX18.out).1).trans HX18.out);have HD19:=zH (HD18.out.below hb19);have HW19:=zH (HW18.out.trans (hb19.mono HW18.out.size));have HH3:=zH (Qr 2 w7.heap.size a2 kD2 ⟨2,⟨#[]⟩,h3,9⟩ ((1:Int):Rat) w19 HD19.out ZiG (by decide) hh.fv (hh.few (UM (by decide +kernel) (by decide +kernel))) (show (Lit.int .i64 2).wf = true by decide) (.inl rfl) kb3 ks2 (0,kD3) (zH kh3));rw [HAS2.out] at HH3;clear hh hb19 HX18 HD18 HW18;go_wp2_with fail;refine HH3.out.mono ?_;rintro e w20 ⟨a3,rfl,hD3,hc3⟩;have HD20:=zH hD3;have HW20:Hid (Below w.heap.size w w20):=zH (HW19.out.trans (hc3.bel HD19.out HW19.out.size HA2.out.1 HA2.out.2 (tR HPG7.out.2.2 HPG7.out.2.1)));have HAS3:Hid (a3.q = a.q):=zH (hc3.same.1.trans HAS2.out);have HX20:Hid (w20.heap[w16.heap.size]? = some (.cells #[.int .i64 0,.bool true,.string Zav,.int .i64 2] 69 (0,0))):=zH (by
  obtain ⟨n1,n2,n3⟩:=HD19.out.alien (b:=w16.heap.size) ⟨_,_,HX19.out⟩ (by decide) (by decide) (by decide);exact (hc3.block _ (aE HX19.out).1 n1 n2 n3).trans HX19.out)
 have HFW:=zH (HD20.out.few Zji (by decide));have HST:=zH (ZbN w7.heap.size a3 kD3 w20 HD20.out HFW.out.1 (zH HFW.out.2));rw [HAS3.out] at HST;clear hD3 hc3 HX19 HD19 HW19 HH3 HA2;go_wp2_with fail;refine HST.out.mono ?_;rintro e w21 ⟨SA,Sc,Fm,rfl,-,-,-,hb21⟩;have hq:w21.heap[w16.heap.size]? = some (.cells #[.int .i64 0,.bool true,.string Zav,.int .i64 2] 69 (0,0)):=(hb21.block _ (aE HX20.out).1).trans HX20.out;have HW21:=zH (HW20.out.trans (hb21.mono HW20.out.size));obtain ⟨V21,hV21⟩:∃ V21:World,V21 = w21.alloc (.cells #[.slice SA Fm.length Sc,.int .i64 0,.bool true,.bool false,.int .i64 3] 65):=⟨_,rfl⟩;have HBV:Hid (Below w21.heap.size w21 V21):=zH (by rw [hV21];exact bR.alloc nR _);have hx21:V21.heap[w21.heap.size]? = some (.cells #[.slice SA Fm.length Sc,.int .i64 0,.bool true,.bool false,.int .i64 3] 65 (0,0)):=by rw [hV21];exact Wg w21 _
 have hq2:=(HBV.out.block _ (aE hq).1).trans hq;have q1:=(cR 1 hq2).trans rfl;have q2:=(cR 2 hq2).trans rfl;have q3:=(cR 3 hq2).trans rfl;have s1:=(cR 1 hx21).trans rfl;have s2:=(cR 2 hx21).trans rfl;have s4:=(cR 4 hx21).trans rfl;have HF:=zH (HW21.out.trans (HBV.out.mono HW21.out.size));clear hq hq2 hx21 hb21 HX20 HD20 HW20 HST HW21 HBV HFW;have hrb:ByteArray.toList Zav = [114,101,100]:=by rw [Wa2];rfl
 rw [ZeP.1,ZeP.2.1,ZeP.2.2];go_upto_region 17 with fail;rw [<- hV21];clear hV21;go_wp2_with fail;go_ret;exact ⟨JB (by first | rfl | decide | (simp [Zav])),HF.out⟩
theorem Xn (x:Fr) (q:Rat) (w:World) (hx:Fv w x q) (fx:Few x 40000) (r:Bool) (hr:Hid (Xp q = r)):Calls Tryz.prog 80 #[x.val] w (Qp r w):=by
 obtain ⟨W0,hW0⟩:∃ W0:World,W0 = w.alloc (.cells #[.bool x.neg,.slice x.A x.N.length x.c,.slice x.B x.D.length x.d] 28):=⟨_,rfl⟩;have HB0:Hid (Below w.heap.size w W0):=zH (by rw [hW0];exact bR.alloc nR _);have HX0:Hid (Fb W0 w.heap.size x):=zH (by rw [hW0];exact Fb.new w x);have HV0:=zH (hx.below HB0.out);obtain ⟨c0,c1,c2,-,-,-⟩:=HX0.out.facts;obtain ⟨R,hR⟩:∃ R,R = XH q:=⟨_,rfl⟩;obtain ⟨R2,hR2⟩:∃ R2,R2 = XH (q + -((1:Int):Rat)):=⟨_,rfl⟩;have HR:=zH hR.symm;have HR2:=zH hR2.symm;have hrr:r = (decide (0 <= R) && decide (R2 <= 0)):=by rw [<- hr.out,hR,hR2];rfl
 have HRR:=zH hrr;clear hx hR hR2 hrr hr;by_cases h0 : 0 <= R
 ·go_enter Tryz.func80,Tryz.ntmps80;go_wp2_with fail;rw [<- hW0];clear hW0;have g0:decide (0 <= R) = true:=Wi h0;refine Jd (S:=fun w'=>w'.cell? ⟨w.heap.size,0,none⟩ = some (.bool x.neg) /\ w'.cell? ⟨w.heap.size,1,none⟩ = some (.slice x.A x.N.length x.c) /\ w'.cell? ⟨w.heap.size,2,none⟩ = some (.slice x.B x.D.length x.d) /\ Hid (Fb w' w.heap.size x) /\ Hid (Below w.heap.size w w') /\ Hid (Fv w' x q)) 10 rfl (by kernel_rfl) ⟨c0,c1,c2,zH HX0.out,zH HB0.out.drew,zH (HV0.out.below bR.drew)⟩ (fun hd=>?_)
  ((refine Ja (v:=?_) rfl (by kernel_rfl) (fun _ _ _ h=>h) ⟨by rfl,?_⟩ hd ?_;rotate_left;· intro w' sw;obtain ⟨hS1,hS2,hS3,-,-,-⟩:=sw;go_simp;try with_reducible rfl);simp only [zA,zB,zC])
  refine Je 1 rfl (by kernel_rfl) rfl (fun K hK=>?_);go_simp;refine (V8 x q _ hd.2.2.2.2.2.out (by exact ⟨tR fx.n (by decide),tR fx.d (by decide)⟩) R HR).mono ?_;rintro e u1 ⟨rfl,hb1⟩;go_simp;refine hK _ _ (by have h9:=hd.2.2.2.1.out.below hb1;have h8:=h9.facts;exact ⟨h8.1,h8.2.1,h8.2.2.1,zH h9,zH (hd.2.2.2.2.1.out.trans (hb1.mono hd.2.2.2.2.1.out.size)),zH (hd.2.2.2.2.2.out.below hb1)⟩) (fun hd=>?_);clear hK K;iterate 3 (((refine Ja (v:=?_) rfl (by kernel_rfl) (fun _ _ _ h=>h) ⟨by rfl,?_⟩ hd ?_;rotate_left;· intro w' sw;obtain ⟨hS1,hS2,hS3,-,-,-⟩:=sw;go_simp;try with_reducible rfl);simp only [zA,zB,zC]))
  refine Jk 5 rfl (by kernel_rfl) (by rfl) (fun K hK=>?_);go_simp;refine (Uz 1 _ (by omega) (by omega)).mono ?_;rintro e u2 ⟨y,rfl,hy,hb2⟩;have HY:=zH hy;go_simp;refine hK _ _ (by have h9:=hd.2.2.2.1.out.below hb2;have h8:=h9.facts;exact ⟨h8.1,h8.2.1,h8.2.2.1,zH h9,zH (hd.2.2.2.2.1.out.trans (hb2.mono hd.2.2.2.2.1.out.size)),zH (hd.2.2.2.2.2.out.below hb2)⟩) (fun hd=>?_);clear hK K;refine Jk 6 rfl (by kernel_rfl) (by rfl) (fun K hK=>?_);go_simp;refine (Zp x y q ((1:Int):Rat) _ hd.2.2.2.2.2.out HY.out.fv fx (HY.out.few ((Sz.i64 (z:=1) (by omega) (by omega)).mono (by decide))) R2 HR2).mono ?_;rintro e u3 ⟨rfl,hb3⟩;go_simp;refine hK _ _ (by have h9:=hd.2.2.2.1.out.below hb3;have h8:=h9.facts;exact ⟨h8.1,h8.2.1,h8.2.2.1,zH h9,zH (hd.2.2.2.2.1.out.trans (hb3.mono hd.2.2.2.2.1.out.size)),zH (hd.2.2.2.2.2.out.below hb3)⟩) (fun hd=>?_);clear hK K;iterate 3 (((refine Ja (v:=?_) rfl (by kernel_rfl) (fun _ _ _ h=>h) ⟨by rfl,?_⟩ hd ?_;rotate_left;· intro w' sw;obtain ⟨hS1,hS2,hS3,-,-,-⟩:=sw;go_simp;try with_reducible rfl);simp only [zA,zB,zC]))
  refine WC (by kernel_rfl) ?_ _;go_wp2_with fail;go_ret;exact ⟨by rw [HRR.out,Wi h0];rfl,hd.2.2.2.2.1.out⟩
 ·have HN:=zH h0;have g0:decide (0 <= R) = false:=dF h0;go_enter Tryz.func80,Tryz.ntmps80;go_wp2_with fail;rw [<- hW0];clear hW0;refine Jd (S:=fun w'=>w'.cell? ⟨w.heap.size,0,none⟩ = some (.bool x.neg) /\ w'.cell? ⟨w.heap.size,1,none⟩ = some (.slice x.A x.N.length x.c) /\ w'.cell? ⟨w.heap.size,2,none⟩ = some (.slice x.B x.D.length x.d) /\ Hid (Fb w' w.heap.size x) /\ Hid (Below w.heap.size w w') /\ Hid (Fv w' x q)) 10 rfl (by kernel_rfl) ⟨c0,c1,c2,zH HX0.out,zH HB0.out.drew,zH (HV0.out.below bR.drew)⟩ (fun hd=>?_)
  ((refine Ja (v:=?_) rfl (by kernel_rfl) (fun _ _ _ h=>h) ⟨by rfl,?_⟩ hd ?_;rotate_left;· intro w' sw;obtain ⟨hS1,hS2,hS3,-,-,-⟩:=sw;go_simp;try with_reducible rfl);simp only [zA,zB,zC])
  refine Je 1 rfl (by kernel_rfl) rfl (fun K hK=>?_);go_simp;refine (V8 x q _ hd.2.2.2.2.2.out (by exact ⟨tR fx.n (by decide),tR fx.d (by decide)⟩) R HR).mono ?_;rintro e u1 ⟨rfl,hb1⟩;go_simp;refine hK _ _ (by have h9:=hd.2.2.2.1.out.below hb1;have h8:=h9.facts;exact ⟨h8.1,h8.2.1,h8.2.2.1,zH h9,zH (hd.2.2.2.2.1.out.trans (hb1.mono hd.2.2.2.2.1.out.size)),zH (hd.2.2.2.2.2.out.below hb1)⟩) (fun hd=>?_);clear hK K;iterate 8 (first | ((refine Ja (v:=?_) rfl (by kernel_rfl) (fun _ _ _ h=>h) ⟨by rfl,?_⟩ hd ?_;rotate_left;· intro w' sw;obtain ⟨hS1,hS2,hS3,-,-,-⟩:=sw;go_simp;try with_reducible rfl);simp only [zA,zB,zC]) | (refine Jn rfl (by kernel_rfl) (fun _ _ _ h=>h) (by rfl) hd ?_;simp only [zA,zB,zC]))
  refine WC (by kernel_rfl) ?_ _;go_wp2_with fail;go_ret;exact ⟨by rw [HRR.out,dF (Int.not_le.2 HN.out)];rfl,hd.2.2.2.2.1.out⟩
theorem Y7 (A:Option Addr) (c:Nat) (l:List BA) (x:BA) (w:World) (h:Lies w A (sbs l)) (hn:l.length <= 9223372036854775807) (r:Bool) (hr:Hid (decide (x ∈ l) = r)) :
  Calls Tryz.prog 79 #[.slice A l.length c,.string x] w fun e w'=>e = .returned (.bool r) /\ w = w':=by
 go_enter Tryz.func79,Tryz.ntmps79;go_wp2_with fail;go_loop [5] (fun i=>∃ k:Nat,k <= l.length /\ i = .int .i64 k /\ Hid (x ∉ l.take k)) (fun i=>l.length - (intOf i).toNat)
 case atStart=>exact ⟨0,WaU _,rfl,zH (by simp)⟩
 case round=>
  obtain ⟨k,hk,rfl,HP⟩:=hrel;by_cases hlt:k < l.length
  ·obtain ⟨bk,off,rfl,hb,hc⟩:=h
    (by simpa using Wa9 (WaU k) hlt)
   have hc0:=hc k (.string l[k]) (by simp [gE hlt]);clear hc;by_cases hx:x = l[k]
   ·have hz:r = true:=(by rw [<- hr.out];exact Wi (by rw [hx];exact gM hlt));subst hz;clear hr HP;rw [<- hx] at hc0;clear hx;go_wp2_with fail;go_ret;exact ⟨rfl,rfl⟩
   ·have HX:=zH hx;have hxx:(ByteArray.toList l[k] == ByteArray.toList x) = false:=(by rw [Wz];rw [Wa2,Wa2];exact fun e=>hx (by cases hq:l[k];cases x;rw [hq] at e;simpa using e.symm));clear hx;have HN:=zH (Zaq hlt HP.out HX.out);clear HP HX;go_wp2_with fail;exact ⟨⟨k + 1,by omega,by go_num,HN⟩,by simp [intOf];omega⟩
  ·have hz:r = false:=by rw [<- hr.out];exact dF (by have hh:=HP.out;rw [Wm (by omega)] at hh;exact hh)
   subst hz;clear hr HP;go_wp2_with fail;go_ret;exact ⟨rfl,rfl⟩
theorem Zbh (s:ByteArray) (w:World) (hs:s.size <= 1000000) (r:Bool) (hr:Hid (Xd s = r)):Calls Tryz.prog 78 #[.string s] w fun e w'=>e = .returned (.bool r) /\ w' = w:=by
 go_enter Tryz.func78,Tryz.ntmps78;go_wp2_with fail;go_loopw [3] (fun i wr=>∃ k:Nat,k <= s.size /\ i = .int .i64 k /\ Hid (ZN s k = true) /\ wr = w) (fun i _=>s.size - (intOf i).toNat)
 case atStart=>exact ⟨0,by omega,rfl,zH rfl,rfl⟩
 case round=>
  obtain ⟨k,hk,rfl,HT,rfl⟩:=hrel;by_cases hlt:k < s.size
  ·have hix:=fun W=>QV s hlt W;have hbd:=ZbK s k;have HBAD:=zH (Za3 hlt);have HSC:=zH (UG s k);generalize Y2 s k = z at *
   have hlt':(k:Int) < (s.size:Int):=(by omega);by_cases h1:z < 33
   ·have HF:Hid (r = false):=zH (by rw [<- hr.out];exact HBAD.out (by omega));clear HBAD;go_wp2_with fail;go_ret;exact ⟨by rw [HF.out];rfl,rfl⟩
   ·by_cases h2 : 126 < z
    ·have HF:Hid (r = false):=zH (by rw [<- hr.out];exact HBAD.out (by omega));clear HBAD;go_wp2_with fail;go_ret;exact ⟨by rw [HF.out];rfl,rfl⟩
    ·have HN:Hid (ZN s (k + 1) = true):=zH (by rw [HSC.out,HT.out];simp;omega);clear HBAD HSC HT;go_wp2_with fail;exact ⟨⟨k + 1,by omega,by go_num,HN,trivial⟩,by simp [intOf];omega⟩
  ·have hkn:k = s.size:=by omega
   have hlt':¬ (k:Int) < (s.size:Int):=(by omega);have hrr:r = (decide (1 <= s.size) && decide (s.size <= 40)):=by
    rw [<- hr.out];unfold Xd;rw [<- hkn,HT.out];simp
   have HR:=zH hrr;clear hrr;by_cases h1 : 1 <= s.size
   ·by_cases h2:s.size <= 40
    ·have g1:(1:Int) <= (s.size:Int):=(by omega);have g2:(s.size:Int) <= 40:=(by omega);go_wp2_with fail;go_ret;exact ⟨by rw [HR.out];simp [h1,h2],rfl⟩
    ·have g1:(1:Int) <= (s.size:Int):=(by omega);have g2:¬ (s.size:Int) <= 40:=(by omega);go_wp2_with fail;go_ret;exact ⟨by rw [HR.out];simp [h1,h2],rfl⟩
   ·have g1:¬ (1:Int) <= (s.size:Int):=(by omega);go_wp2_with fail;go_ret;exact ⟨by rw [HR.out];simp [h1],rfl⟩
end Go.Proofs.YtcjicjfbippmnaaGreat
namespace Go.Proofs.YtcjicjfbippmnaaGreat
open Go.RowKit Go.WideShapes

def Rd {H:Type} (enc:TypeId × Value -> H) (P:Program) (w:World) (t:TypeId) (cs:List Value):Prop:=
 ∃ fuel x,DataW.trod enc P w 0 (fun _=>true) true fuel t cs = some x

section
variable {α:Type} {H:Type} {enc:TypeId × Value -> H} {P:Program} {w:World} {t e:TypeId} {cs:List Value}

theorem Rd.of {v:Value} {d:DataW H} {p:List MemPlace} (h:DataW.Trod enc P w 0 (fun _=>true) true t v d p):Rd enc P w t v.cells.toList:=by
 obtain ⟨fuel,hf⟩:=h;exact ⟨fuel,_,hf⟩
theorem Rd.int {k:IntKind} (ht:P.underlying t = some (.int k)) (h:Rd enc P w t cs):∃ n,cs = [.int k n] /\ k.min <= n /\ n <= k.max:=by
 obtain ⟨fuel,x,hf⟩:=h;cases fuel with
 | zero=>simp [DataW.trod] at hf
 | succ f=>
  unfold DataW.trod at hf;rw [ht] at hf;split at hf <;> simp_all;rename_i h1;obtain ⟨⟨rfl,hw⟩,_⟩:=hf;subst h1;simpa [Lit.wf] using hw
theorem Rd.bool (ht:P.underlying t = some .bool) (h:Rd enc P w t cs):∃ b,cs = [.bool b]:=by
 obtain ⟨fuel,x,hf⟩:=h;cases fuel with
 | zero=>simp [DataW.trod] at hf
 | succ f=>
  unfold DataW.trod at hf;rw [ht] at hf;split at hf <;> simp_all
theorem Rd.string (ht:P.underlying t = some .string) (h:Rd enc P w t cs):∃ s,cs = [.string s] /\ s.size <= maxLen:=by
 obtain ⟨fuel,x,hf⟩:=h;cases fuel with
 | zero=>simp [DataW.trod] at hf
 | succ f=>
  unfold DataW.trod at hf;rw [ht] at hf;split at hf <;> simp_all
theorem Rd.struct {fs:Array Field} (ht:P.underlying t = some (.struct fs)) (h:Rd enc P w t cs) :
  cs.length = P.cellsOf t /\ ∀ (i:Nat) (f:Field),fs[i]? = some f -> Rd enc P w f.type ((cs.drop f.offset).take (P.cellsOf f.type)):=by
 obtain ⟨fuel,x,hf⟩:=h;obtain ⟨xs,n,_,_,hl,hlen,hall⟩:=DataW.trod_struct ht hf;refine ⟨hl,fun i f hi=>?_⟩;have h1:i < xs.length:=by rw [hlen];exact (aE hi).1
 exact ⟨n,xs[i],(hall i f hi).trans (gE h1)⟩
theorem Zjl {elem : α -> List Value} {S:Nat}:∀ (l:List α) (a:Addr),(∀ i x,l[i]? = some x -> (elem x).length = S /\ ∀ j,j < S -> w.cell? (a.add (i * S + j)) = (elem x)[j]?) ->
  ∀ k u,(l.flatMap elem)[k]? = some u -> w.cell? (a.add k) = some u:=by
 intro l
 induction l with
 | nil=>intro a _ k u h;simp at h
 | cons x xs ih=>
  intro a h k u hk;obtain ⟨h1,h2⟩:=h 0 x rfl;rw [WaX,Wd1] at hk;split at hk <;> rename_i hlt
  ·rw [h1] at hlt;have:=h2 k hlt;rw [WdR,WH,hk] at this;exact this
  ·rw [h1] at hk hlt;have h3:=ih (a.add S) (fun i y hy=>by
    obtain ⟨g1,g2⟩:=h (i + 1) y (by simpa using hy);refine ⟨g1,fun j hj=>?_⟩;rw [Addr.add_add,<- g2 j hj];congr 2;rw [Nat.succ_mul];omega) (k - S) u hk
   rw [Addr.add_add] at h3
   rwa [show S + (k - S) = k by omega] at h3

theorem Rd.slice {α:Type} {S:Nat} (ht:P.underlying t = some (.slice e)) (hS:P.cellsOf e = S) (elem : α -> List Value) (Pr : α -> Prop)
  (he:∀ cs,Rd enc P w e cs -> ∃ a,cs = elem a /\ Pr a) (h:Rd enc P w t cs) :
  ∃ A c,∃ l:List α,cs = [.slice A l.length c] /\ Lies w A (l.flatMap elem) /\ (A = none -> c = 0 /\ l = []) /\ l.length <= 9223372036854775807 /\ l.length <= c /\ (∀ a ∈ l,Pr a):=by
 obtain ⟨fuel,x,hf⟩:=h;rcases DataW.trod_slice ht hf with ⟨rfl,_⟩ | ⟨a,len,cap,elems,rest,n,_,rfl,_,_,hl,hm,hlen,hel,_,_⟩
 ·exact ⟨none,0,[],rfl,Lies.nil _ _,fun _=>⟨rfl,rfl⟩,by simp,by simp,by simp⟩
 ·have key:∀ i,i < len -> ∃ y,Pr y /\ (elem y).length = S /\ ∀ j,j < S -> w.cell? (a.add (i * S + j)) = (elem y)[j]?:=by
   intro i hi;have h1:=hel i hi;rw [gE (by omega)] at h1;obtain ⟨es,h2,h3⟩:=Option.bind_eq_some_iff.1 h1;obtain ⟨y,rfl,hy⟩:=he es ⟨n,_,h3⟩;obtain ⟨_,h4,h5⟩:=World.cells?_some h2;rw [hS] at h4 h5;refine ⟨y,hy,h4,fun j hj=>?_⟩;rw [<- h5 j hj,Addr.add_add]
  have pick:∀ m,m <= len -> ∃ l:List α,l.length = m /\ ∀ i y,l[i]? = some y -> Pr y /\ (elem y).length = S /\ ∀ j,j < S -> w.cell? (a.add (i * S + j)) = (elem y)[j]?:=by
   intro m
   induction m with
   | zero=>intro _;exact ⟨[],rfl,fun i y hy=>by simp at hy⟩
   | succ m ih=>
    intro hm';obtain ⟨l,hl1,hl2⟩:=ih (by omega);obtain ⟨y,hy⟩:=key m (by omega);refine ⟨l ++ [y],by simp [hl1],fun i z hz=>?_⟩;rw [Wd1] at hz;split at hz
    ·exact hl2 i z hz
    ·rename_i hge;have hi:i = m:=by
      have:=(Wl.1 hz).1;simp at this;omega
     subst hi;rw [hl1,WcO] at hz;simp at hz;subst hz;exact hy
  obtain ⟨l,hll,hg⟩:=pick len nR;refine ⟨some a,cap,l,by rw [hll],fun h0=>?_,fun h=>by simp at h,?_,by omega,fun y hy=>?_⟩
  ·have hc:=Zjl (w:=w) l a (fun i x hx=>(hg i x hx).2);obtain ⟨u,hu⟩:∃ u,(l.flatMap elem)[0]? = some u:=⟨_,gE h0⟩;have h1:=hc 0 u hu;obtain ⟨b,off,sp⟩:=a;have hsp:sp = none:=by
    cases sp with
    | none=>rfl
    | some q=>
     exfalso;simp [Addr.add,World.cell?] at h1;split at h1 <;> simp_all
   subst hsp;refine ⟨b,off,rfl,?_,fun k u hk=>?_⟩
   ·apply WeC;intro hb;simp [Addr.add,World.cell?,hb] at h1
   ·have:=hc k u hk
    rwa [WdV] at this
  ·rw [hll];unfold maxLen at hm;omega
  ·obtain ⟨i,hi,rfl⟩:=Wb0 hy;exact (hg i _ (gE hi)).1
variable {v:Value} {d:DataW H} {p:List MemPlace} {r:Reach} {b0:Nat}
theorem Zgx {k:IntKind} (l:List Int):(l.flatMap fun n=>[Value.int k n]) = l.map (Value.int k):=by
 induction l with
 | nil=>rfl
 | cons x xs ih=>rw [WaX,ih];rfl
theorem Zew {fs:Array Field} {n:Nat} (ht:P.underlying t = some (.struct fs)) (hC:P.cellsOf t = n) (hv:Value.okWide P w r b0 t v) (h:DataW.Trod enc P w 0 (fun _=>true) true t v d p) :
  ∃ cs:List Value,v = .agg cs.toArray /\ cs.length = n /\ ∀ (i:Nat) (f:Field),fs[i]? = some f -> Rd enc P w f.type ((cs.drop f.offset).take (P.cellsOf f.type)):=by
 obtain ⟨cs,rfl,hs⟩:=okWide_struct ht hv;have h1:=(Rd.of h).struct ht;refine ⟨cs.toList,by simp,by rw [<- hC,<- hs];simp,?_⟩;simpa [Value.cells] using h1.2
end
end Go.Proofs.YtcjicjfbippmnaaGreat
namespace Go.Proofs.YtcjicjfbippmnaaGreat
open Go.RowKit Go.WideShapes Ear

section
variable {H:Type} {enc:TypeId × Value -> H} {P:Program} {w:World} {t e:TypeId} {cs:List Value} {v:Value} {d:DataW H} {p:List MemPlace} {r:Reach} {b0:Nat}
theorem Rd.dg (ht:P.underlying t = some (.slice e)) (he:P.underlying e = some (.int .u32)) (hc:P.cellsOf e = 1) (h:Rd enc P w t cs) :
  ∃ A c,∃ l:List Int,cs = [.slice A l.length c] /\ Dg w A c l /\ l.length <= 9223372036854775807:=by
 obtain ⟨A,c,l,h1,h2,h3,h4,h5,h6⟩:=h.slice ht hc (fun n=>[Value.int .u32 n]) (fun n=>0 <= n /\ n <= 4294967295) (fun cs hcs=>hcs.int he);rw [Zgx] at h2;exact ⟨A,c,l,h1,⟨h2,h6,h5,fun hA=>(h3 hA).1⟩,h4⟩
end
end Go.Proofs.YtcjicjfbippmnaaGreat
