/- TalkNil -/
import Derived.Test.YtfbdihpllmhcnaaGreatDoorMTNil42
import Derived.SevenTiedAt
set_option maxRecDepth 100000
set_option maxHeartbeats 32000000
namespace Go.Proofs.YtfbdihpllmhcnaaGreatDoor
open Go.RowKit Ear

theorem Few.mono {x:Fr} {k l:Nat} (h:Few x k) (hl:k <= l):Few x l:=⟨tR h.n hl,tR h.d hl⟩
theorem ZhF:DlK 0 kD0:=⟨by decide +kernel,by decide +kernel,by decide +kernel,by decide +kernel,by decide +kernel,by decide +kernel,by decide +kernel,by decide +kernel,by decide +kernel,by decide +kernel,by decide +kernel⟩
theorem kh1:UK kD0 ⟨4,QC,mkRat 1 2,2⟩ = (0,kD1):=Prod.ext (by decide +kernel) rfl
theorem kh2:UK kD1 ⟨2,⟨#[]⟩,((1:Int):Rat),4⟩ = (0,kD2):=Prod.ext (by decide +kernel) rfl
theorem kh3:UK kD2 ⟨2,⟨#[]⟩,((1:Int):Rat),9⟩ = (0,kD3):=Prod.ext (by decide +kernel) rfl
theorem kb1:¬ ZfC kD0 ⟨4,QC,mkRat 1 2,2⟩:=by decide +kernel
theorem kb2:¬ ZfC kD1 ⟨2,⟨#[]⟩,((1:Int):Rat),4⟩:=by decide +kernel
theorem kb3:¬ ZfC kD2 ⟨2,⟨#[]⟩,((1:Int):Rat),9⟩:=by decide +kernel
theorem ks0:kD0.stand = 0:=by decide +kernel
theorem ks1:kD1.stand = 0:=by decide +kernel
theorem ks2:kD2.stand = 0:=by decide +kernel
theorem Zgz:DlK 1 kD1:=Zbl ZhF _
theorem ZhE:DlK 2 kD2:=Zbl Zgz _
theorem Zih:DlK 3 kD3:=Zbl ZhE _
theorem DlM.few {n:Int} {w:World} {bs:Nat} {a:DlA} {D:PDl} (h:DlM w bs a D) (hK:DlK n D) (hn:n <= 1000000):a.Fm.length <= 1000000 /\ ∀ f ∈ a.Fm,f.ref.length <= 1000000:=by
 have hfw:=hK.few
 refine ⟨by rw [h.lens.1];omega,fun f hf=>?_⟩
 have h1:f.pure ∈ D.F:=by rw [<- h.pure];exact List.mem_map_of_mem hf
 have:=hK.ref _ h1
 have e:f.pure.ref = f.ref:=rfl
 rw [e] at this
 omega
theorem Chg.bel {w w':World} {bs b0:Nat} {a a':DlA} {D:PDl} (h:Chg w w' a a') (hd:DlM w bs a D) (h0:b0 <= w.heap.size) (h1:b0 <= a.q) (h2:b0 <= a.gF) (h3:b0 <= bs):Below b0 w w':=
 ⟨h.os,h.tape,h.output,h.size,fun k hk=>h.block k (by omega) (by omega) (by omega) (fun f hf e=>by
  have:=((hd.ref f hf).lt k (by rw [Jm];exact e)).1
  omega)⟩
theorem DlM.alien {w:World} {bs:Nat} {a:DlA} {D:PDl} {e:TypeId} (h:DlM w bs a D) {b:Nat} (hbt:BT w b e) (h1:e ≠ 44) (h2:e ≠ 136) (h3:e ≠ 9):b ≠ a.q /\ b ≠ a.gF /\ ∀ f ∈ a.Fm,blk f.A ≠ some b:=
 ⟨hbt.ne ⟨_,_,h.cell⟩ h1,hbt.ne (BT.of_own h.row rfl) h2,fun f hf e=>(BT.of_own (h.ref f hf) (by rw [Jm];exact e)).ne hbt h3.symm rfl⟩
theorem LrI.plain {w:World} {base p:Nat} {B:Option Addr} {t:TT} (h:LrI w base p B 1 [t]):∃ g,B = some ⟨g,0,none⟩ /\ w.heap[g]? = some (.cells #[.int .i64 t.o,.int .i64 t.v,.slice t.A t.L.length t.c] 57 (0,0)):=by
 obtain ⟨q1,q2⟩:=h.row
 rcases q2 with ⟨e,h0⟩ | ⟨g,cap,cur,e,hg,hgg,h1,h2,h3,h4⟩
 ·simp at h0
 ·injection e with e1 e2 e3
  subst e3
  refine ⟨g,e1,?_⟩
  rw [hgg]
  have e5:cur = #[.int .i64 t.o,.int .i64 t.v,.slice t.A t.L.length t.c]:=by
   apply Array.ext'
   simp only [ZaR,List.flatMap_cons,List.flatMap_nil,List.append_nil] at h4
   first
    | exact h4
    | (rw [List.take_of_length_le (by simp [h3])] at h4;exact h4)
    | (have h5:=congrArg List.length h4;simp at h5;rw [<- h4];simp)
  rw [e5]
theorem Zt (w:World):Calls Tryz.prog 5 #[] w (QZ true w):=by
 have D0:=zH (Ze (Ze (Ze (Ze (Ze (Led.nil w) #[.int .i64 0] 3 w.heap.size rfl) #[.int .i64 0] 3 (w.heap.size + 1) (by simp)) #[.slice (some ⟨w.heap.size,0,none⟩) 1 1,.slice (some ⟨w.heap.size + 1,0,none⟩) 1 1] 22 (w.heap.size + 2) (by simp)) #[.int .i64 3] 3 (w.heap.size + 3) (by simp)) #[.slice (some ⟨w.heap.size + 3,0,none⟩) 1 1] 22 (w.heap.size + 4) (by simp))
 go_enter Tryz.func5,Tryz.ntmps5
 go_wp2_with fail
 refine (Zid w.heap.size (w.heap.size + 1) (w.heap.size + 2) (w.heap.size + 3) (w.heap.size + 4) _ (D0.out.lies 0 _ _ rfl) (D0.out.lies 1 _ _ rfl) (D0.out.lies 2 _ _ rfl) (D0.out.lies 3 _ _ rfl) (D0.out.lies 4 _ _ rfl)).mono ?_
 rintro e w1 ⟨x,rfl,hx,hb1,-⟩
 obtain ⟨V1,hV1⟩:∃ V1:World,V1 = w1.alloc (.cells #[.bool x.neg,.slice x.A x.N.length x.c,.slice x.B x.D.length x.d] 26):=⟨_,rfl⟩
 have HB0:=zH (D0.out.bel.trans (hb1.mono D0.out.bel.size))
 have HB1:Hid (Below w.heap.size w V1):=zH (by rw [hV1];exact HB0.out.alloc HB0.out.size _)
 have HX1:Hid (V1.heap[w1.heap.size]? = some (.cells #[.bool x.neg,.slice x.A x.N.length x.c,.slice x.B x.D.length x.d] 26 (0,0))):=zH (by rw [hV1];exact heap_alloc_new w1 _)
 have HF1:Hid (Fq V1 x ((6:Int):Rat)):=zH (by rw [hV1];exact hx.below (bR.alloc nR _))
 clear hx hb1 D0 HB0
 go_upto_region 2 with fail
 rw [<- hV1]
 clear hV1
 have D1:=zH (Ze (Ze (Ze (Ze (Ze (Ze (Ze (Led.nil V1) #[.int .i64 0] 3 V1.heap.size rfl) #[.slice (some ⟨V1.heap.size,0,none⟩) 1 1] 22 (V1.heap.size + 1) (by simp)) #[.int .i64 9] 3 (V1.heap.size + 2) (by simp)) #[.slice (some ⟨V1.heap.size + 2,0,none⟩) 1 1] 22 (V1.heap.size + 3) (by simp)) #[.int .i64 1] 3 (V1.heap.size + 4) (by simp)) #[.slice (some ⟨V1.heap.size + 4,0,none⟩) 1 1] 22 (V1.heap.size + 5) (by simp)) #[.slice (some ⟨V1.heap.size + 1,0,none⟩) 1 1,.slice (some ⟨V1.heap.size + 3,0,none⟩) 1 1,.slice (some ⟨V1.heap.size + 5,0,none⟩) 1 1] 52 (V1.heap.size + 6) (by simp))
 go_wp2_with fail
 refine (Y4 1 2 _ (by decide) (by decide) (by decide) (by decide)).mono ?_
 rintro e w2 ⟨h,rfl,hh,hb2⟩
 rw [ZdL] at hh
 have D2:=zH (D1.out.below hb2)
 have HH:=zH hh
 clear hh hb2 D1
 go_wp2_with fail
 refine (Zig V1.heap.size (V1.heap.size + 1) (V1.heap.size + 2) (V1.heap.size + 3) (V1.heap.size + 4) (V1.heap.size + 5) (V1.heap.size + 6) h w2 (D2.out.lies 0 _ _ rfl) (D2.out.lies 1 _ _ rfl) (D2.out.lies 2 _ _ rfl) (D2.out.lies 3 _ _ rfl) (D2.out.lies 4 _ _ rfl) (D2.out.lies 5 _ _ rfl) (D2.out.lies 6 _ _ rfl) HH.out).mono ?_
 rintro e w3 ⟨A3,c3,rfl,ho3,hb3⟩
 have HO3:Hid (Lies w3 A3 (ics [0,1,0])):=zH (Lies.of_own ho3)
 have HB3:Hid (Below V1.heap.size V1 w3):=zH (D2.out.bel.trans (hb3.mono D2.out.bel.size))
 have HX3:Hid (w3.heap[w1.heap.size]? = some (.cells #[.bool x.neg,.slice x.A x.N.length x.c,.slice x.B x.D.length x.d] 26 (0,0))):=zH ((HB3.out.block _ (aE HX1.out).1).trans HX1.out)
 have HF3:=zH (HF1.out.below HB3.out)
 have HW3:=zH (HB1.out.trans (HB3.out.mono HB1.out.size))
 simp only [List.length_cons,List.length_nil,Nat.zero_add,Nat.reduceAdd]
 clear ho3 hb3 D2 HH HX1 HF1 HB1 HB3
 have D3:=zH (Ze (Ze (Led.nil w3) #[.int .i64 1] 3 w3.heap.size rfl) #[.slice (some ⟨w3.heap.size,0,none⟩) 1 1] 22 (w3.heap.size + 1) (by simp))
 go_wp2_with fail
 refine (Zif w3.heap.size (w3.heap.size + 1) _ (D3.out.lies 0 _ _ rfl) (D3.out.lies 1 _ _ rfl)).mono ?_
 rintro e w4 ⟨CA,Cc,CL,rfl,hgl,htb,hb4⟩
 have HB4:=zH (D3.out.bel.trans (hb4.mono D3.out.bel.size))
 have HGL:=zH hgl
 have HTB:=zH htb
 clear hgl htb hb4 D3
 go_wp2_with fail
 refine (Zic CA Cc CL w4 _ HGL.out HTB.out).mono ?_
 rintro e w5 ⟨hb5,p,B,t,rfl,hL,ho,hv,ht,hpg⟩
 have HB5:Hid (Below w3.heap.size w3 w5):=zH (HB4.out.trans (hb5.mono HB4.out.size))
 have HL5:=zH hL
 have HT:=zH (show t.o = 1 /\ t.v = 1 /\ Ji t.L = [([0],1),([1],1)] from ⟨ho,hv,ht⟩)
 have HPG:=zH (show w4.heap.size <= p /\ w4.heap.size <= w5.heap.size /\ w.heap.size <= w4.heap.size from ⟨hpg,hb5.size,tR HW3.out.size HB4.out.size⟩)
 clear hb5 hL ho hv ht hpg HGL HTB HB4
 go_wp2_with fail
 refine (ZdC w5).mono ?_
 rintro e w6 ⟨PA,s,rfl,hpl,hnm,hvs,hb6⟩
 have HPL:=zH hpl
 have HB6:=zH (HB5.out.trans (hb6.mono HB5.out.size))
 have HL6:=zH (HL5.out.below hb6)
 have HSZ:Hid (∀ s' ∈ [s],s'.nm.size <= 1000000 /\ ∀ v ∈ s'.vs,v.size <= 1000000):=zH (fun s' hs'=>by
  rw [List.mem_singleton] at hs'
  subst hs'
  rw [hnm,hvs]
  exact ⟨by decide,fun v hv=>by
   simp at hv
   rcases hv with rfl | rfl <;> decide⟩)
 have HVL:Hid (∀ s' ∈ [s],s'.vs.length <= 1000000):=zH (fun s' hs'=>by
  rw [List.mem_singleton] at hs'
  subst hs'
  rw [hvs]
  decide)
 have hs56:=hb6.size
 clear hpl hnm hvs hb6 HB5 HL5
 go_wp2_with fail
 refine (Zg1 PA 1 [s] kPs 1 10 4 w6 HPL.out HSZ HVL (zH Zgt)).mono ?_
 rintro e w7 ⟨a,rfl,hD,hq1,hq2,hb7⟩
 have HB7:=zH (HB6.out.trans (hb7.mono HB6.out.size))
 have HX7:Hid (w7.heap[w1.heap.size]? = some (.cells #[.bool x.neg,.slice x.A x.N.length x.c,.slice x.B x.D.length x.d] 26 (0,0))):=zH ((HB7.out.block _ (aE HX3.out).1).trans HX3.out)
 have HF7:=zH (HF3.out.below HB7.out)
 have HO7:=zH (HO3.out.below HB7.out)
 have HW7:=zH (HW3.out.trans (HB7.out.mono HW3.out.size))
 have HL7:=zH (HL6.out.below hb7)
 have HD7:Hid (DlM w7 w7.heap.size a kD0):=zH hD
 have HPG7:=zH (show w4.heap.size <= p /\ w4.heap.size <= w7.heap.size /\ w.heap.size <= w4.heap.size from ⟨HPG.out.1,tR HPG.out.2.1 (tR hs56 hb7.size),HPG.out.2.2⟩)
 have HAQ:=zH (show w.heap.size <= a.q /\ w.heap.size <= a.gF from ⟨tR (tR (tR HPG.out.2.2 HPG.out.2.1) hs56) hq1,tR (tR (tR HPG.out.2.2 HPG.out.2.1) hs56) hq2⟩)
 have HBXS:Hid (∀ u,Below w7.heap.size w7 u -> u.cell? ⟨w1.heap.size,0,none⟩ = some (.bool x.neg) /\ u.cell? ⟨w1.heap.size,1,none⟩ = some (.slice x.A x.N.length x.c) /\ u.cell? ⟨w1.heap.size,2,none⟩ = some (.slice x.B x.D.length x.d)):=zH (fun u hu=>by
  have hh:=(hu.block _ (aE HX7.out).1).trans HX7.out
  exact ⟨(cR 0 hh).trans rfl,(cR 1 hh).trans rfl,(cR 2 hh).trans rfl⟩)
 clear hD hq1 hq2 hb7 hs56 HB7 HX3 HF3 HO3 HW3 HL6 HB6 HPL HSZ HVL HPG
 go_upto_region 5 with fail
 refine Jk (S:=fun w'=>w'.cell? ⟨w1.heap.size,0,none⟩ = some (.bool x.neg) /\ w'.cell? ⟨w1.heap.size,1,none⟩ = some (.slice x.A x.N.length x.c) /\ w'.cell? ⟨w1.heap.size,2,none⟩ = some (.slice x.B x.D.length x.d)) 34 rfl (by kernel_rfl) (HBXS.out _ bR.drew) (fun hHeld=>?_)
 iterate 24 (((refine Jb (v:=?_) rfl (by kernel_rfl) (fun _ _ _ h=>h) ⟨by rfl,?_⟩ hHeld ?_;rotate_left;· intro w' sw;obtain ⟨s1,s2,s3⟩:=sw;go_simp;try with_reducible rfl);simp only [zA,zB,zC]))
 refine JI 24 rfl (by kernel_rfl) (by rfl) (fun K hK=>?_)
 go_simp
 refine (QB 6 w7.drew (by decide) (by decide)).mono ?_
 rintro e w8 ⟨y,rfl,hy,hb8⟩
 have HY8:=zH hy
 have HB8:Hid (Below w7.heap.size w7 w8):=zH (JE hb8)
 clear hy hb8
 go_simp
 refine hK _ _ (HBXS.out w8 HB8.out) (fun hHeld=>?_)
 clear hK K
 refine JI 25 rfl (by kernel_rfl) (by rfl) (fun K hK=>?_)
 go_simp
 refine (Zcv x y ((6:Int):Rat) ((6:Int):Rat) w8 (HF7.out.below HB8.out) HY8.out (((HF7.out.below HB8.out).few (VU (by decide +kernel) (by decide +kernel))).mono (by decide)) true (zH (by decide))).mono ?_
 rintro e w9 ⟨rfl,hb9⟩
 have HB9:=zH (HB8.out.trans (hb9.mono HB8.out.size))
 clear hb9 HY8 HB8
 go_simp
 refine hK _ _ (HBXS.out w9 HB9.out) (fun hHeld=>?_)
 clear hK K
 iterate 4 (((refine Jb (v:=?_) rfl (by kernel_rfl) (fun _ _ _ h=>h) ⟨by rfl,?_⟩ hHeld ?_;rotate_left;· intro w' sw;obtain ⟨s1,s2,s3⟩:=sw;go_simp;try with_reducible rfl);simp only [zA,zB,zC]))
 refine JI 30 rfl (by kernel_rfl) (by rfl) (fun K hK=>?_)
 go_simp
 obtain ⟨w10,hw10⟩:∃ w10:World,w10 = w9.alloc (.cells #[.int .i64 0,.int .i64 1,.int .i64 0] 3):=⟨_,rfl⟩
 have HB10:Hid (Below w7.heap.size w7 w10):=zH (by rw [hw10];exact HB9.out.alloc HB9.out.size _)
 have HL10:Hid (Lies w10 (some ⟨w9.heap.size,0,none⟩) [.int .i64 0,.int .i64 1,.int .i64 0]):=zH (by rw [hw10];exact (((Ze (Led.nil w9) _ _ _ rfl).lies 0 _ _ rfl)))
 rw [<- hw10]
 clear hw10
 go_simp
 refine hK _ _ (HBXS.out w10 HB10.out) (fun hHeld=>?_)
 clear hK K
 refine JI 31 rfl (by kernel_rfl) (by rfl) (fun K hK=>?_)
 go_simp
 refine (ZfG A3 (some ⟨w9.heap.size,0,none⟩) c3 3 [0,1,0] [0,1,0] w10 (HO7.out.below HB10.out) HL10.out (by decide) (by decide) true (zH (by decide))).mono ?_
 rintro e w11 ⟨rfl,n11,hw11⟩
 have HB11:Hid (Below w7.heap.size w7 w11):=zH (by rw [hw11];exact HB10.out.drw n11)
 clear hw11 HB10 HL10 HB9
 go_simp
 refine hK _ _ (HBXS.out w11 HB11.out) (fun hHeld=>?_)
 clear hK K
 iterate 2 (((refine Jb (v:=?_) rfl (by kernel_rfl) (fun _ _ _ h=>h) ⟨by rfl,?_⟩ hHeld ?_;rotate_left;· intro w' sw;obtain ⟨s1,s2,s3⟩:=sw;go_simp;try with_reducible rfl);simp only [zA,zB,zC]))
 refine wpAnyH_done (by kernel_rfl) ?_ _
 have HL11:=zH (HL7.out.below HB11.out)
 have HD11:=zH (HD7.out.below HB11.out)
 have HW11:=zH (HW7.out.trans (HB11.out.mono HW7.out.size))
 have HS11:=zH (show w7.heap.size <= w11.heap.size from HB11.out.size)
 clear HX7 HF7 HO7 HW7 HL7 HD7 HBXS HB11 hHeld
 obtain ⟨V11,hV11⟩:∃ V11:World,V11 = w11.alloc (.cells #[.int .i64 1,.int .i64 1] 3):=⟨_,rfl⟩
 have HBV:Hid (Below w11.heap.size w11 V11):=zH (by rw [hV11];exact bR.alloc nR _)
 have HIN:Hid (InOk V11 (some ⟨w11.heap.size,0,none⟩,2,[1,1])):=zH (by rw [hV11];exact ZfR (l:=[1,1]) ((Ze (Led.nil w11) #[.int .i64 1,.int .i64 1] 3 _ rfl).lies 0 _ _ rfl) (by decide) (by decide))
 have HLV:=zH (HL11.out.below HBV.out)
 have HDV:=zH (HD11.out.below HBV.out)
 have HWV:=zH (HW11.out.trans (HBV.out.mono HW11.out.size))
 have HSV:=zH (show w7.heap.size <= V11.heap.size from tR HS11.out HBV.out.size)
 have HK:=zH (Zie w4.heap.size p B t (some ⟨w11.heap.size,0,none⟩) 2 V11 HLV.out (tR HPG7.out.2.1 HSV.out) HPG7.out.1 HT.out.1 HT.out.2.1 HT.out.2.2 HIN.out)
 clear HL11 HD11 HW11 HS11 HBV HIN
 go_upto_region 7 with fail
 go_wp2_with fail
 rw [<- hV11]
 clear hV11
 refine HK.out.mono ?_
 rintro e w12 ⟨rfl,B',cap',t2,hL2,ho2,hv2,ht2,hTwo⟩
 obtain ⟨g,hBg,hgc⟩:=HLV.out.plain
 have HD12:Hid (DlM w12 w7.heap.size a kD0):=zH (HDV.out.off (p:=p) (q:=g) hTwo.size ⟨_,_,HLV.out.cell,by simp [Ub,Zam]⟩ ⟨_,_,hgc,by simp [Ub,Zam]⟩ (fun k h1 h2 h3=>hTwo.block k h1 h2 (by rw [hBg];intro e;injection e with e;exact h3 e)) ⟨_,HLV.out.btp,by decide,by decide,by decide⟩ ⟨_,⟨_,_,hgc⟩,by decide,by decide,by decide⟩)
 have HW12:Hid (Below w.heap.size w w12):=zH (HWV.out.trans (hTwo.below HWV.out.size (tR HPG7.out.2.2 HPG7.out.1) (fun k hk=>tR HPG7.out.2.2 (HLV.out.geB (by simp) k hk))))
 have HS12:Hid (w7.heap.size <= w12.heap.size):=zH (tR HSV.out hTwo.size)
 have HL12:Hid (LrI w12 w4.heap.size p B' cap' ([t] ++ [t2])):=zH hL2
 have HT2:=zH (show t2.o = 1 /\ t2.v = 1 /\ Ji t2.L = [([0],3),([1],5)] from ⟨ho2,hv2,ht2⟩)
 clear hL2 ho2 hv2 ht2 hTwo hBg hgc HK HLV HDV HWV HSV HT
 go_wp2_with fail
 refine (UZ p 2 cap' B' w12 HL12.out.at_ (by decide) (by decide)).mono ?_
 rintro e w12' ⟨rfl,rfl⟩
 go_wp2_with fail
 refine (Zcn w4.heap.size p cap' B' [t] t2 w12' HL12.out (by simp)).mono ?_
 rintro e w13 ⟨TA,Tc,TL,rfl,hgl,htb,hb13⟩
 have htl:Ji TL = [([0],3),([1],5)]:=htb.trans HT2.out.2.2
 have hlen:TL.length = 2:=by have:=congrArg List.length htl;simpa using this
 obtain ⟨g0,g1,rfl⟩:∃ g0 g1,TL = [g0,g1]:=by
  match TL,hlen with
  | [a,b],_=>exact ⟨a,b,rfl⟩
 have hg0:g0.2 = 3:=by simp at htl;exact htl.1.2
 have hg1:g1.2 = 5:=by simp at htl;exact htl.2.2
 have HD13:=zH (HD12.out.below hb13)
 have HW13:=zH (HW12.out.trans (hb13.mono HW12.out.size))
 have HS13:Hid (w7.heap.size <= w13.heap.size):=zH (tR HS12.out hb13.size)
 obtain ⟨V13,hV13⟩:∃ V13:World,V13 = w13.alloc (.cells #[.int .i64 t2.o,.int .i64 t2.v,.slice TA 2 Tc] 57):=⟨_,rfl⟩
 have HBV:Hid (Below w13.heap.size w13 V13):=zH (by rw [hV13];exact bR.alloc nR _)
 have hx13:V13.heap[w13.heap.size]? = some (.cells #[.int .i64 t2.o,.int .i64 t2.v,.slice TA 2 Tc] 57 (0,0)):=by rw [hV13];exact heap_alloc_new w13 _
 obtain ⟨tb,toff,rfl,htbl,-,hc0⟩:=(hgl.tb.below HBV.out).at_ (k:=0) (by simp)
 obtain ⟨tb',toff',e1,-,-,hc1⟩:=(hgl.tb.below HBV.out).at_ (k:=1) (by simp)
 cases e1
 simp only [List.getElem_cons_zero,List.getElem_cons_succ,hg0,hg1,Nat.zero_mul,Nat.add_zero,Nat.one_mul] at hc0 hc1
 have b2:V13.cell? ⟨w13.heap.size,2,none⟩ = some (.slice (some ⟨tb,toff,none⟩) 2 Tc):=(cR 2 hx13).trans rfl
 have HDV:=zH (HD13.out.below HBV.out)
 have HWV:=zH (HW13.out.trans (HBV.out.mono HW13.out.size))
 have HSV:Hid (w7.heap.size <= V13.heap.size):=zH (tR HS13.out HBV.out.size)
 clear hgl htb htl hlen hg0 hg1 hb13 HD12 HW12 HS12 HL12 HT2 HD13 HW13 HS13 hx13
 simp only [List.length_cons,List.length_nil,Nat.zero_add,Nat.reduceAdd]
 go_upto_region 10 with fail
 rw [<- hV13]
 clear hV13 HBV
 go_upto_region 12 with fail
 clear hc0 hc1 b2
 go_wp2_with fail
 refine (Y4 1 2 V13 (by decide) (by decide) (by decide) (by decide)).mono ?_
 rintro e w14 ⟨h,rfl,hh,hb14⟩
 rw [ZdL] at hh
 have hH1:=Uz 0 w7.heap.size a kD0 ⟨4,QC,h,2⟩ (mkRat 1 2) w14 (HDV.out.below hb14) ZhF (by decide) hh.fv (hh.few (VU (by decide +kernel) (by decide +kernel))) (show (Lit.int .i64 4).wf = true by decide) (.inr rfl) kb1 ks0 (0,kD1) (zH kh1)
 have HH1:=zH hH1
 have HD14:=zH (HDV.out.below hb14)
 have HW14:=zH (HWV.out.trans (hb14.mono HWV.out.size))
 have HS14:Hid (w7.heap.size <= w14.heap.size):=zH (tR HSV.out hb14.size)
 clear hH1 hh hb14 HDV HWV HSV
 go_wp2_with fail
 refine HH1.out.mono ?_
 rintro e w15 ⟨a1,rfl,hD1,hc1⟩
 have HD15:=zH hD1
 have HW15:Hid (Below w.heap.size w w15):=zH (HW14.out.trans (hc1.bel HD14.out HW14.out.size HAQ.out.1 HAQ.out.2 (tR HPG7.out.2.2 HPG7.out.2.1)))
 have HA1:=zH (show w.heap.size <= a1.q /\ w.heap.size <= a1.gF from ⟨by rw [hc1.same.1];exact HAQ.out.1,by rw [hc1.same.2];exact HAQ.out.2⟩)
 have HQ:=zH (Zg6 1 w7.heap.size a1 kD1 w15 HD15.out Zgz)
 have HAS:Hid (a1.q = a.q):=zH hc1.same.1
 rw [ZhC,HAS.out] at HQ
 clear hD1 hc1 HD14 HW14 HS14 HH1
 go_wp2_with fail
 refine HQ.out.mono ?_
 rintro e w16 ⟨rfl,hb16⟩
 obtain ⟨V16,hV16⟩:∃ V16:World,V16 = w16.alloc (.cells #[.int .i64 0,.bool true,.string QC,.int .i64 2] 97):=⟨_,rfl⟩
 have HBV:Hid (Below w16.heap.size w16 V16):=zH (by rw [hV16];exact bR.alloc nR _)
 have HX16:Hid (V16.heap[w16.heap.size]? = some (.cells #[.int .i64 0,.bool true,.string QC,.int .i64 2] 97 (0,0))):=zH (by rw [hV16];exact heap_alloc_new w16 _)
 have HDV:=zH ((HD15.out.below hb16).below HBV.out)
 have HWV:=zH (HW15.out.trans ((hb16.trans (HBV.out.mono hb16.size)).mono HW15.out.size))
 clear hb16 HBV HD15 HW15 HQ
 go_upto_region 14 with fail
 rw [<- hV16]
 clear hV16
 go_wp2_with fail
 refine (QB 1 V16 (by decide) (by decide)).mono ?_
 rintro e w17 ⟨h2,rfl,hh,hb17⟩
 have hx17:w17.heap[w16.heap.size]? = some (.cells #[.int .i64 0,.bool true,.string QC,.int .i64 2] 97 (0,0)):=(hb17.block _ (aE HX16.out).1).trans HX16.out
 have HX17:=zH hx17
 have HD17:=zH (HDV.out.below hb17)
 have HW17:=zH (HWV.out.trans (hb17.mono HWV.out.size))
 have HH2:=zH (Uz 1 w7.heap.size a1 kD1 ⟨2,⟨#[]⟩,h2,4⟩ ((1:Int):Rat) w17 HD17.out Zgz (by decide) hh.fv (hh.few (VU (by decide +kernel) (by decide +kernel))) (show (Lit.int .i64 2).wf = true by decide) (.inl rfl) kb2 ks1 (0,kD2) (zH kh2))
 rw [HAS.out] at HH2
 clear hh hb17 hx17 HX16 HDV HWV
 go_wp2_with fail
 refine HH2.out.mono ?_
 rintro e w18 ⟨a2,rfl,hD2,hc2⟩
 have HD18:=zH hD2
 have HW18:Hid (Below w.heap.size w w18):=zH (HW17.out.trans (hc2.bel HD17.out HW17.out.size HA1.out.1 HA1.out.2 (tR HPG7.out.2.2 HPG7.out.2.1)))
 have HA2:=zH (show w.heap.size <= a2.q /\ w.heap.size <= a2.gF from ⟨by rw [hc2.same.1];exact HA1.out.1,by rw [hc2.same.2];exact HA1.out.2⟩)
 have HAS2:Hid (a2.q = a.q):=zH (hc2.same.1.trans HAS.out)
 have HX18:Hid (w18.heap[w16.heap.size]? = some (.cells #[.int .i64 0,.bool true,.string QC,.int .i64 2] 97 (0,0))):=zH (by
  obtain ⟨n1,n2,n3⟩:=HD17.out.alien (b:=w16.heap.size) ⟨_,_,HX17.out⟩ (by decide) (by decide) (by decide)
  exact (hc2.block _ (aE HX17.out).1 n1 n2 n3).trans HX17.out)
 clear hD2 hc2 HX17 HD17 HW17 HH2 HA1
 go_wp2_with fail
 refine (QB 1 w18 (by decide) (by decide)).mono ?_
 rintro e w19 ⟨h3,rfl,hh,hb19⟩
 have HX19:Hid (w19.heap[w16.heap.size]? = some (.cells #[.int .i64 0,.bool true,.string QC,.int .i64 2] 97 (0,0))):=zH ((hb19.block _ (aE HX18.out).1).trans HX18.out)
 have HD19:=zH (HD18.out.below hb19)
 have HW19:=zH (HW18.out.trans (hb19.mono HW18.out.size))
 have HH3:=zH (Uz 2 w7.heap.size a2 kD2 ⟨2,⟨#[]⟩,h3,9⟩ ((1:Int):Rat) w19 HD19.out ZhE (by decide) hh.fv (hh.few (VU (by decide +kernel) (by decide +kernel))) (show (Lit.int .i64 2).wf = true by decide) (.inl rfl) kb3 ks2 (0,kD3) (zH kh3))
 rw [HAS2.out] at HH3
 clear hh hb19 HX18 HD18 HW18
 go_wp2_with fail
 refine HH3.out.mono ?_
 rintro e w20 ⟨a3,rfl,hD3,hc3⟩
 have HD20:=zH hD3
 have HW20:Hid (Below w.heap.size w w20):=zH (HW19.out.trans (hc3.bel HD19.out HW19.out.size HA2.out.1 HA2.out.2 (tR HPG7.out.2.2 HPG7.out.2.1)))
 have HAS3:Hid (a3.q = a.q):=zH (hc3.same.1.trans HAS2.out)
 have HX20:Hid (w20.heap[w16.heap.size]? = some (.cells #[.int .i64 0,.bool true,.string QC,.int .i64 2] 97 (0,0))):=zH (by
  obtain ⟨n1,n2,n3⟩:=HD19.out.alien (b:=w16.heap.size) ⟨_,_,HX19.out⟩ (by decide) (by decide) (by decide)
  exact (hc3.block _ (aE HX19.out).1 n1 n2 n3).trans HX19.out)
 have HFW:=zH (HD20.out.few Zih (by decide))
 have HST:=zH (Zes w7.heap.size a3 kD3 w20 HD20.out HFW.out.1 (zH HFW.out.2))
 rw [HAS3.out] at HST
 clear hD3 hc3 HX19 HD19 HW19 HH3 HA2
 go_wp2_with fail
 refine HST.out.mono ?_
 rintro e w21 ⟨SA,Sc,Fm,rfl,-,-,-,hb21⟩
 have hq:w21.heap[w16.heap.size]? = some (.cells #[.int .i64 0,.bool true,.string QC,.int .i64 2] 97 (0,0)):=(hb21.block _ (aE HX20.out).1).trans HX20.out
 have HW21:=zH (HW20.out.trans (hb21.mono HW20.out.size))
 obtain ⟨V21,hV21⟩:∃ V21:World,V21 = w21.alloc (.cells #[.slice SA Fm.length Sc,.int .i64 0,.bool true,.bool false,.int .i64 3] 101):=⟨_,rfl⟩
 have HBV:Hid (Below w21.heap.size w21 V21):=zH (by rw [hV21];exact bR.alloc nR _)
 have hx21:V21.heap[w21.heap.size]? = some (.cells #[.slice SA Fm.length Sc,.int .i64 0,.bool true,.bool false,.int .i64 3] 101 (0,0)):=by rw [hV21];exact heap_alloc_new w21 _
 have hq2:=(HBV.out.block _ (aE hq).1).trans hq
 have q1:=(cR 1 hq2).trans rfl
 have q2:=(cR 2 hq2).trans rfl
 have q3:=(cR 3 hq2).trans rfl
 have s1:=(cR 1 hx21).trans rfl
 have s2:=(cR 2 hx21).trans rfl
 have s4:=(cR 4 hx21).trans rfl
 have HF:=zH (HW21.out.trans (HBV.out.mono HW21.out.size))
 clear hq hq2 hx21 hb21 HX20 HD20 HW20 HST HW21 HBV HFW
 have hrb:ByteArray.toList QC = [114,101,100]:=by rw [ByteArray.toList_eq];rfl
 rw [ZdK.1,ZdK.2.1,ZdK.2.2]
 go_upto_region 17 with fail
 rw [<- hV21]
 clear hV21
 go_wp2_with fail
 go_ret
 exact ⟨Js (by first | rfl | decide | (simp [QC])),HF.out⟩
theorem Zf7 (p:Option Addr) (E:EvM) (w:World) (h:NilAt w p 4 (.slice none 0 0)):Calls Tryz.prog 7 #[.pointer p,E.v] w (QZ true w):=by
 obtain ⟨W0,hW0⟩:∃ W0:World,W0 = w.alloc (.cells #[.int .i64 E.kind,.string E.val,.bool E.W.neg,.slice E.W.A E.W.N.length E.W.c,.slice E.W.B E.W.D.length E.W.d,.int .i64 E.at_] 28):=⟨_,rfl⟩
 have HB0:Hid (Below w.heap.size w W0):=zH (by rw [hW0];exact bR.alloc nR _)
 have HX0:Hid (W0.heap[w.heap.size]? = some (.cells #[.int .i64 E.kind,.string E.val,.bool E.W.neg,.slice E.W.A E.W.N.length E.W.c,.slice E.W.B E.W.D.length E.W.d,.int .i64 E.at_] 28 (0,0))):=zH (by rw [hW0];exact heap_alloc_new w _)
 have hws:w.heap.size < W0.heap.size:=(aE HX0.out).1
 have HN:=zH (h.below HB0.out)
 clear h
 unfold EvM.v
 go_enter Tryz.func7,Tryz.ntmps7
 go_upto_region 1 with fail
 rw [<- hW0]
 clear hW0
 go_wp2_with fail
 refine (Zh6 p W0 HN.out).mono ?_
 rintro e w1 ⟨rfl,hb1⟩
 have HB1:=zH hb1
 clear hb1
 obtain ⟨W2,hW2⟩:∃ W2:World,W2 = w1.alloc (.cells #[.int .i64 0,.bool false,.string ⟨#[]⟩,.int .i64 0] 97):=⟨_,rfl⟩
 have HB2:Hid (Below W0.heap.size W0 W2):=zH (by rw [hW2];exact HB1.out.alloc HB1.out.size _)
 go_upto_region 2 with fail
 rw [<- hW2]
 clear hW2 HB1
 go_wp2_with fail
 refine (Zgd p W2 (HN.out.below HB2.out)).mono ?_
 rintro e w3 ⟨rfl,hb3⟩
 have HB3:Hid (Below W0.heap.size W0 w3):=zH (HB2.out.trans (hb3.mono HB2.out.size))
 clear hb3
 obtain ⟨W4,hW4⟩:∃ W4:World,W4 = w3.alloc (.cells #[.slice none 0 0,.int .i64 0,.bool false,.bool false,.int .i64 0] 101):=⟨_,rfl⟩
 have HB4:Hid (Below W0.heap.size W0 W4):=zH (by rw [hW4];exact HB3.out.alloc HB3.out.size _)
 have HX4:Hid (W4.heap[w3.heap.size]? = some (.cells #[.slice none 0 0,.int .i64 0,.bool false,.bool false,.int .i64 0] 101 (0,0))):=zH (by rw [hW4];exact heap_alloc_new w3 _)
 have hl4:w3.heap.size < W4.heap.size:=(aE HX4.out).1
 have hx:=(HB4.out.block _ hws).trans HX0.out
 have e0:=(cR 0 hx).trans rfl
 have e1:=(cR 1 hx).trans rfl
 have e2:=(cR 2 hx).trans rfl
 have e3:=(cR 3 hx).trans rfl
 have e4:=(cR 4 hx).trans rfl
 have e5:=(cR 5 hx).trans rfl
 have CH:=Zhi p E W4 (HN.out.below HB4.out)
 unfold EvM.v at CH
 replace CH:=zH CH
 go_upto_region 3 with fail
 rw [<- hW4]
 clear hW4 hx
 go_wp2_with fail
 refine CH.out.mono ?_
 rintro e w5 ⟨rfl,hb5⟩
 have HB5:Hid (Below W0.heap.size W0 w5):=zH (HB4.out.trans (hb5.mono HB4.out.size))
 have hx5:=(hb5.block _ hl4).trans HX4.out
 have k0:=(cR 0 hx5).trans rfl
 have k1:=(cR 1 hx5).trans rfl
 have k2:=(cR 2 hx5).trans rfl
 have k3:=(cR 3 hx5).trans rfl
 have k4:=(cR 4 hx5).trans rfl
 clear e0 e1 e2 e3 e4 e5 hb5 hx5 CH
 have ST:∀ u:World,StM u none []:=fun u=>⟨fun hh=>by simp [Xz] at hh,fun f hf=>by cases hf⟩
 have CS:=zH (Vg none none 0 0 [] [] 0 0 false false w5 (ST w5) (ST w5) rfl (by simp) (fun f hf=>by cases hf))
 go_wp2_with fail
 refine CS.out.mono ?_
 rintro e w6 ⟨rfl,hb6⟩
 go_wp2_with fail
 go_ret
 exact ⟨rfl,HB0.out.trans ((HB5.out.trans (hb6.mono HB5.out.size)).mono HB0.out.size)⟩
theorem Zgr (w:World) (E:EvM):Lies (w.alloc (.cells #[.int .i64 E.kind,.string E.val,.bool E.W.neg,.slice E.W.A E.W.N.length E.W.c,.slice E.W.B E.W.D.length E.W.d,.int .i64 E.at_] 28)) (some ⟨w.heap.size,0,none⟩) (ZfV [E]):=fun _=>
 ⟨w.heap.size,0,rfl,by simp,fun k u hu=>by
  rw [Nat.zero_add,cell_of_row _ _ k _ _ _ (heap_alloc_new w _)]
  simpa [ZfV,evc] using hu⟩
theorem Zbw (A:Option Addr) (c:Nat) (l:List Int) (E:EvM) (w:World) (hE:EvR w E):Calls Tryz.prog 3 #[.slice A l.length c,E.v] w (QZ true w):=by
 obtain ⟨W0,hW0⟩:∃ W0:World,W0 = w.alloc (.cells #[.int .i64 E.kind,.string E.val,.bool E.W.neg,.slice E.W.A E.W.N.length E.W.c,.slice E.W.B E.W.D.length E.W.d,.int .i64 E.at_] 28):=⟨_,rfl⟩
 have HB0:Hid (Below w.heap.size w W0):=zH (by rw [hW0];exact bR.alloc nR _)
 have HX0:Hid (W0.heap[w.heap.size]? = some (.cells #[.int .i64 E.kind,.string E.val,.bool E.W.neg,.slice E.W.A E.W.N.length E.W.c,.slice E.W.B E.W.D.length E.W.d,.int .i64 E.at_] 28 (0,0))):=zH (by rw [hW0];exact heap_alloc_new w _)
 have hws:w.heap.size < W0.heap.size:=(aE HX0.out).1
 have HER:=zH hE
 have HEC:Hid (∀ u,Below W0.heap.size W0 u -> u.cell? ⟨w.heap.size,0,none⟩ = some (.int .i64 E.kind) /\ u.cell? ⟨w.heap.size,1,none⟩ = some (.string E.val) /\ u.cell? ⟨w.heap.size,2,none⟩ = some (.bool E.W.neg) /\ u.cell? ⟨w.heap.size,3,none⟩ = some (.slice E.W.A E.W.N.length E.W.c) /\ u.cell? ⟨w.heap.size,4,none⟩ = some (.slice E.W.B E.W.D.length E.W.d) /\ u.cell? ⟨w.heap.size,5,none⟩ = some (.int .i64 E.at_)):=zH (fun u hu=>by
  have hx:=(hu.block _ hws).trans HX0.out
  exact ⟨(cR 0 hx).trans rfl,(cR 1 hx).trans rfl,(cR 2 hx).trans rfl,(cR 3 hx).trans rfl,(cR 4 hx).trans rfl,(cR 5 hx).trans rfl⟩)
 have UN:=fun (p:Option Addr) (u:World) (h:NilAt u p 4 (.slice none 0 0))=>Zf7 p E u h
 unfold EvM.v at UN
 replace UN:=zH UN
 clear hE
 unfold EvM.v
 go_enter Tryz.func3,Tryz.ntmps3
 go_upto_region 1 with fail
 rw [<- hW0]
 clear hW0
 obtain ⟨e0,e1,e2,e3,e4,e5⟩:=HEC.out W0 bR
 by_cases hn:l.length <= 20
 rotate_left
 ·have hn':(20:Int) < (l.length:Int):=by omega
  go_wp2_with fail
  refine (Zt _).mono ?_
  rintro e w9 ⟨rfl,hb9⟩
  go_wp2_with fail
  go_ret
  exact ⟨rfl,HB0.out.trans (hb9.mono HB0.out.size)⟩
 have hn':¬ (20:Int) < (l.length:Int):=by omega
 obtain ⟨W1,hW1⟩:∃ W1:World,W1 = W0.alloc (.cells #[.int .i64 E.kind,.string E.val,.bool E.W.neg,.slice E.W.A E.W.N.length E.W.c,.slice E.W.B E.W.D.length E.W.d,.int .i64 E.at_] 28):=⟨_,rfl⟩
 have HB1:Hid (Below W0.heap.size W0 W1):=zH (by rw [hW1];exact bR.alloc nR _)
 have HL1:Hid (EvL W1 (some ⟨W0.heap.size,0,none⟩) [E]):=zH (by rw [hW1];exact ⟨Zgr W0 E,fun x hx=>by
  rw [List.mem_singleton] at hx
  subst hx
  exact HER.out.below (HB0.out.trans (((Below.refl W0.heap.size W0).alloc nR _).mono HB0.out.size))⟩)
 obtain ⟨r,hr⟩:∃ r,ZaC [E] = r:=⟨_,rfl⟩
 have CH:=zH (ZdQ (some ⟨W0.heap.size,0,none⟩) 1 [E] W1 HL1.out (by simp) r (zH hr))
 clear hr hn
 go_wp2_with fail
 rw [<- hW1]
 clear hW1
 refine CH.out.mono ?_
 rintro e w2 ⟨rfl,hb2⟩
 have HB2:Hid (Below W0.heap.size W0 w2):=zH (HB1.out.trans (hb2.mono HB1.out.size))
 have HW2:Hid (Below w.heap.size w w2):=zH (HB0.out.trans (HB2.out.mono HB0.out.size))
 clear hb2 CH HB1 HL1 e0 e1 e2 e3 e4 e5
 cases r with
 | false=>
  go_wp2_with fail
  refine (Zt _).mono ?_
  rintro e w9 ⟨rfl,hb9⟩
  go_wp2_with fail
  go_ret
  exact ⟨rfl,HW2.out.trans (hb9.mono HW2.out.size)⟩
 | true=>
  go_wp2_with fail
  refine (UX none A l.length c w2 (.inl rfl)).mono ?_
  rintro e w3 ⟨rfl,hb3⟩
  have HB3:Hid (Below W0.heap.size W0 w3):=zH (HB2.out.trans (hb3.mono HB2.out.size))
  clear hb3
  go_wp2_with fail
  refine (UX _ A l.length c _ (.inr ⟨_,rfl,by simp,(cR 0 (heap_alloc_new _ _)).trans rfl⟩)).mono ?_
  rintro e w4 ⟨rfl,hb4⟩
  have HB4:Hid (Below W0.heap.size W0 w4):=zH ((HB3.out.alloc HB3.out.size _).trans (hb4.mono (by have:=HB3.out.size;simp;omega)))
  clear hb4
  obtain ⟨e0,e1,e2,e3,e4,e5⟩:=HEC.out w4 HB4.out
  go_wp2_with fail
  refine (UN.out none w4 (.inl rfl)).mono ?_
  rintro e w5 ⟨rfl,hb5⟩
  have HB5:Hid (Below W0.heap.size W0 w5):=zH (HB4.out.trans (hb5.mono HB4.out.size))
  clear hb5 e0 e1 e2 e3 e4 e5
  have HE5:Hid (∀ u,Below w5.heap.size w5 u -> u.cell? ⟨w.heap.size,0,none⟩ = some (.int .i64 E.kind) /\ u.cell? ⟨w.heap.size,1,none⟩ = some (.string E.val) /\ u.cell? ⟨w.heap.size,2,none⟩ = some (.bool E.W.neg) /\ u.cell? ⟨w.heap.size,3,none⟩ = some (.slice E.W.A E.W.N.length E.W.c) /\ u.cell? ⟨w.heap.size,4,none⟩ = some (.slice E.W.B E.W.D.length E.W.d) /\ u.cell? ⟨w.heap.size,5,none⟩ = some (.int .i64 E.at_)):=zH (fun u hu=>HEC.out u (HB5.out.trans (hu.mono HB5.out.size)))
  obtain ⟨e0,e1,e2,e3,e4,e5⟩:=HE5.out (w5.alloc (.cells #[.slice none 0 0,.int .i64 0,.int .i64 0,.int .i64 0,.slice none 0 0,.int .i64 0,.int .i64 0,.int .i64 0,.int .i64 0,.int .i64 0] 44)) (bR.alloc nR _)
  go_wp2_with fail
  refine (UN.out _ _ (.inr ⟨_,rfl,by simp,(cR 4 (heap_alloc_new _ _)).trans rfl⟩)).mono ?_
  rintro e w6 ⟨rfl,hb6⟩
  have HB6:Hid (Below W0.heap.size W0 w6):=zH ((HB5.out.alloc HB5.out.size _).trans (hb6.mono (by have:=HB5.out.size;simp;omega)))
  clear hb6 e0 e1 e2 e3 e4 e5 HE5
  go_wp2_with fail
  refine (ZbG none A l.length c w6 (.inl rfl)).mono ?_
  rintro e w7 ⟨rfl,hb7⟩
  have HB7:Hid (Below W0.heap.size W0 w7):=zH (HB6.out.trans (hb7.mono HB6.out.size))
  clear hb7
  go_wp2_with fail
  refine (ZbG _ A l.length c _ (.inr ⟨_,rfl,by simp,(cR 38 (heap_alloc_new _ _)).trans rfl⟩)).mono ?_
  rintro e w8 ⟨rfl,hb8⟩
  have HB8:Hid (Below W0.heap.size W0 w8):=zH ((HB7.out.alloc HB7.out.size _).trans (hb8.mono (by have:=HB7.out.size;simp;omega)))
  have HW8:Hid (Below w.heap.size w w8):=zH (HB0.out.trans (HB8.out.mono HB0.out.size))
  clear hb8
  go_wp2_with fail
  refine (Zt w8).mono ?_
  rintro e w9 ⟨rfl,hb9⟩
  go_wp2_with fail
  go_ret
  exact ⟨rfl,HW8.out.trans (hb9.mono HW8.out.size)⟩
end Go.Proofs.YtfbdihpllmhcnaaGreatDoor
namespace Go.Proofs.YtfbdihpllmhcnaaGreatDoor
theorem Zim:(Tryz.pinned.checked.prog.mayEnter) = true:=by kernel_rfl
end Go.Proofs.YtfbdihpllmhcnaaGreatDoor
namespace Go.Proofs.YtfbdihpllmhcnaaGreatDoor
theorem Zil:((Rows.talkNilRow.lifted == Tryz.pinned.checked.prog.liftsFinal)) = true:=by kernel_rfl
end Go.Proofs.YtfbdihpllmhcnaaGreatDoor
namespace Go.Proofs.YtfbdihpllmhcnaaGreatDoor
theorem Zik:((Tryz.pinned.checked.prog.make == some Rows.talkNilRow.make)) = true:=by kernel_rfl
end Go.Proofs.YtfbdihpllmhcnaaGreatDoor
namespace Go.Proofs.YtfbdihpllmhcnaaGreatDoor
theorem Zij:true = Tryz.pinned.checked.prog.looks []:=by kernel_rfl
end Go.Proofs.YtfbdihpllmhcnaaGreatDoor
namespace Go.Proofs.YtfbdihpllmhcnaaGreatDoor
open Go
theorem ZdY (P:Program) (h:P.funcs.any Func.goes = false) (f:FuncId):P.goes f = false:=by
 have hg:∀ g:FuncId,(P.funcs[g]?).any Func.goes = false:=fun g=>by
  cases hq:P.funcs[g]? with
  | none=>rfl
  | some fn=>
   show fn.goes = false
   rw [Bool.eq_false_iff]
   intro e
   have ht:P.funcs.any Func.goes = true:=by
    rw [Array.any_eq_true']
    exact ⟨fn,Array.mem_of_getElem? hq,e⟩
   rw [h] at ht
   cases ht
 unfold Program.goes
 rw [h,Bool.and_false,Bool.or_false]
 simp [hg]
theorem Zbn (P:Program) (h:P.funcs.any Func.goes = false) (c:OpenClaim) (hs:c.start = .entering):false = c.goesBy P:=by
 unfold OpenClaim.goesBy Program.goesAt Program.goesFrom
 have hf:∀ o:Option FuncId,o.any P.goes = false:=fun o=>by
  cases o with
  | none=>rfl
  | some f=>exact ZdY P h f
 rw [hf,hs]
 rfl
theorem Ziy:Tryz.pinned.checked.prog.funcs.any Func.goes = false:=by kernel_rfl
theorem Zii:false = Rows.talkNilRow.goesBy Tryz.pinned.checked.prog:=Zbn Tryz.pinned.checked.prog Ziy Rows.talkNilRow rfl
end Go.Proofs.YtfbdihpllmhcnaaGreatDoor
namespace Go.Proofs.YtfbdihpllmhcnaaGreatDoor
open Go.RowKit Go.WideShapes Ear
section
variable {H:Type} {enc:TypeId × Value -> H} {P:Program} {w:World} {r:Reach} {b0:Nat} {t tk tn tf ti tb ts tu:TypeId} {v:Value} {d:DataW H} {p:List MemPlace}
theorem Zdp (T:EvTy P t tk tn tf ti tb ts tu) (hv:Value.okWide P w r b0 t v) (h:DataW.Trod enc P w 0 (fun _=>true) true t v d p):∃ E:EvM,v = E.v /\ EvR w E:=by
 obtain ⟨f0,f1,f2,f3,hu,o0,o1,o2,o3,rfl,rfl,rfl,rfl⟩:=T.u
 obtain ⟨cs,rfl,hl,hf⟩:=Zdo hu T.c hv h
 match cs,hl with
 | [a,b,c,d,e,f],_=>
  have q0:=hf 0 f0 rfl
  have q1:=hf 1 f1 rfl
  have q2:=hf 2 f2 rfl
  have q3:=hf 3 f3 rfl
  rw [o0,T.ck] at q0
  rw [o1,T.cn] at q1
  rw [o2,T.f.c] at q2
  rw [o3,T.ci] at q3
  obtain ⟨n,e0,hn⟩:=q0.int T.uk
  obtain ⟨s,e1,hs⟩:=q1.string T.un
  obtain ⟨x,e2,hx,x1,x2⟩:=q2.fracT T.f
  obtain ⟨t,e3,ht⟩:=q3.int T.ui
  simp at e0 e1 e2 e3
  obtain ⟨rfl,rfl,rfl⟩:=e2
  subst e0 e1 e3
  exact ⟨⟨n,s,x,t⟩,rfl,⟨hn,hs,hx,x1,x2,ht⟩⟩
end
end Go.Proofs.YtfbdihpllmhcnaaGreatDoor
