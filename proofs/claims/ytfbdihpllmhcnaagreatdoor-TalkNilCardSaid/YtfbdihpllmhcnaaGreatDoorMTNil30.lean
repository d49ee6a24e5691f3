/- TalkNil -/
import Derived.Test.YtfbdihpllmhcnaaGreatDoorMTNil29
set_option maxRecDepth 100000
set_option maxHeartbeats 32000000
namespace Ear
def Zex (f:PFl) (s:PSl) (q:Rat) (x:BA):Option PFl:=
 if Yz (q + -s.le) < 0 ∨ (¬ 0 <= Yz (q + -s.su) /\ x ∈ f.ref) then none
 else some ⟨if f.st = 3 /\ f.val = x then 3 else if f.st = 3 then 2 else if 0 <= Yz (q + -s.su) ∨ (f.st = 2 /\ f.val = x) then 3 else 2,x,wo x f.ref⟩
end Ear
namespace Go.Proofs.YtfbdihpllmhcnaaGreatDoor
open Go.RowKit Ear

theorem Zcg (bs:Nat) (a:DlA) (D:PDl) (E:EvM) (w:World) (h:DlM w bs a D) (hn:a.Ss.length <= 1000000) (hv:∀ p ∈ D.S,p.vs.length <= 1000000) (hx:ZeG D.S E.val = -1) :
  Calls Tryz.prog 100 #[.pointer (some ⟨a.q,0,none⟩),E.v] w (Vz bs a false D w):=by
 obtain ⟨W0,hW0⟩:∃ W0:World,W0 = w.alloc (.cells #[.int .i64 E.kind,.string E.val,.bool E.W.neg,.slice E.W.A E.W.N.length E.W.c,.slice E.W.B E.W.D.length E.W.d,.int .i64 E.at_] 28):=⟨_,rfl⟩
 have HB0:Hid (Below w.heap.size w W0):=zH (by rw [hW0];exact bR.alloc nR _)
 have HX0:Hid (W0.heap[w.heap.size]? = some (.cells #[.int .i64 E.kind,.string E.val,.bool E.W.neg,.slice E.W.A E.W.N.length E.W.c,.slice E.W.B E.W.D.length E.W.d,.int .i64 E.at_] 28 (0,0))):=zH (by rw [hW0];exact heap_alloc_new w _)
 have HD0:=zH (h.below HB0.out)
 have HIX:=zH (Uy a.PA a.pc a.Ss D.S E.val w.heap.size W0 HD0.out.plan hn hv ((cR 1 HX0.out).trans rfl) (-1) (zH hx))
 have c0:W0.cell? ⟨a.q,0,none⟩ = some (.slice a.PA a.Ss.length a.pc):=HD0.out.cells.1
 rw [hW0] at c0
 clear h hx
 unfold EvM.v
 go_enter Tryz.func100,Tryz.ntmps100
 go_wp2_with fail
 rw [<- hW0]
 clear hW0 c0
 refine HIX.out.mono ?_
 rintro e W1 ⟨rfl,hb1⟩
 have HD1:=zH (HD0.out.below hb1)
 have HB1:=zH (HB0.out.trans (hb1.mono HB0.out.size))
 clear hb1
 go_wp2_with fail
 go_ret
 exact ⟨a,rfl,HD1.out,Chg.of_below HB1.out⟩
theorem Zcf (bs:Nat) (a:DlA) (D:PDl) (E:EvM) (q:Rat) (w:World) (h:DlM w bs a D) (hE:Fv w E.W q) (fE:Few E.W 90000) (hn:a.Ss.length <= 1000000) (hv:∀ p ∈ D.S,p.vs.length <= 1000000) (k:Nat) (f:PFl) (ps:PSl) (hk:D.F[k]? = some f) (hs:D.S[k]? = some ps) (hx:ZeG D.S E.val = k) (hrl:f.ref.length <= 1000000) (r:Bool) (D':PDl) (hr:Hid ((Zex f ps q E.val = none /\ r = false /\ D' = D) ∨ ∃ f',Zex f ps q E.val = some f' /\ r = true /\ D' = D.put k f')) :
  Calls Tryz.prog 100 #[.pointer (some ⟨a.q,0,none⟩),E.v] w (Vz bs a r D' w):=by
 obtain ⟨W0,hW0⟩:∃ W0:World,W0 = w.alloc (.cells #[.int .i64 E.kind,.string E.val,.bool E.W.neg,.slice E.W.A E.W.N.length E.W.c,.slice E.W.B E.W.D.length E.W.d,.int .i64 E.at_] 28):=⟨_,rfl⟩
 have HB0:Hid (Below w.heap.size w W0):=zH (by rw [hW0];exact bR.alloc nR _)
 have HX0:Hid (W0.heap[w.heap.size]? = some (.cells #[.int .i64 E.kind,.string E.val,.bool E.W.neg,.slice E.W.A E.W.N.length E.W.c,.slice E.W.B E.W.D.length E.W.d,.int .i64 E.at_] 28 (0,0))):=zH (by rw [hW0];exact heap_alloc_new w _)
 have HD0:=zH (h.below HB0.out)
 have HE0:=zH (hE.below HB0.out)
 have HIX:=zH (Uy a.PA a.pc a.Ss D.S E.val w.heap.size W0 HD0.out.plan hn hv ((cR 1 HX0.out).trans rfl) k (zH hx))
 have c0:W0.cell? ⟨a.q,0,none⟩ = some (.slice a.PA a.Ss.length a.pc):=HD0.out.cells.1
 rw [hW0] at c0
 have hws:w.heap.size < W0.heap.size:=(aE HX0.out).1
 have HKF:=zH hk
 have HKS:=zH hs
 have HFE:=zH fE
 have HRL:=zH hrl
 have HV:=zH hv
 clear h hE fE hx hk hs hrl hv
 unfold EvM.v at *
 go_enter Tryz.func100,Tryz.ntmps100
 go_wp2_with fail
 rw [<- hW0]
 clear hW0 c0
 refine HIX.out.mono ?_
 rintro e W1 ⟨rfl,hb1⟩
 have HD1:=zH (HD0.out.below hb1)
 have HEV:=zH (HE0.out.below hb1)
 have HX1:Hid (W1.heap[w.heap.size]? = some (.cells #[.int .i64 E.kind,.string E.val,.bool E.W.neg,.slice E.W.A E.W.N.length E.W.c,.slice E.W.B E.W.D.length E.W.d,.int .i64 E.at_] 28 (0,0))):=zH ((hb1.block _ hws).trans HX0.out)
 have HB1:=zH (HB0.out.trans (hb1.mono HB0.out.size))
 have hws1:w.heap.size < W1.heap.size:=(aE HX1.out).1
 clear hb1 HIX HD0 HE0 HX0 HB0 hws
 have hkS:k < a.Ss.length:=by
  have h1:=(List.getElem?_eq_some_iff.1 HKS.out).1
  rw [HD1.out.plan.len]
  exact h1
 have hkF:k < a.Fm.length:=by rw [HD1.out.len];exact hkS
 obtain ⟨gb,go,ePA,hgb,hcell⟩:=HD1.out.plan.at_ hkS
 have HOK:=zH (HD1.out.plan.ok k _ _ (gE hkS) HKS.out)
 have efm:a.Fm[k].pure = f:=by
  have h1:(a.Fm.map FlM.pure)[k]? = some f:=by rw [HD1.out.pure];exact HKF.out
  rw [List.getElem?_map,gE hkF] at h1
  injection h1
 have EFM:=zH efm
 generalize a.Ss[k] = s at *
 have HC4:Hid (∀ w',Below W1.heap.size W1 w' -> w'.cell? ⟨a.q,0,none⟩ = some (.slice (some ⟨gb,go,none⟩) a.Ss.length a.pc) /\ w'.cell? ⟨a.q,4,none⟩ = some (.slice (some ⟨a.gF,0,none⟩) a.Fm.length a.fc) /\ w'.cell? ⟨gb,go + k * 8,none⟩ = some (.string s.nm) /\ w'.cell? ⟨gb,go + k * 8 + 1,none⟩ = some (.slice s.A s.vs.length s.c) /\ w'.cell? ⟨gb,go + k * 8 + 2,none⟩ = some (.bool s.L.neg) /\ w'.cell? ⟨gb,go + k * 8 + 3,none⟩ = some (.slice s.L.A s.L.N.length s.L.c) /\ w'.cell? ⟨gb,go + k * 8 + 4,none⟩ = some (.slice s.L.B s.L.D.length s.L.d) /\ w'.cell? ⟨gb,go + k * 8 + 5,none⟩ = some (.bool s.S.neg) /\ w'.cell? ⟨gb,go + k * 8 + 6,none⟩ = some (.slice s.S.A s.S.N.length s.S.c) /\ w'.cell? ⟨gb,go + k * 8 + 7,none⟩ = some (.slice s.S.B s.S.D.length s.S.d)):=zH (fun w' hw=>by
  obtain ⟨c0,-,-,-,c4,-,-,-,-,-⟩:=(HD1.out.below hw).cells
  rw [ePA] at c0
  exact ⟨c0,c4,(hw.cell (p:=⟨gb,go + k * 8,none⟩) hgb).trans (hcell 0 _ rfl),(hw.cell (p:=⟨gb,go + k * 8 + 1,none⟩) hgb).trans (hcell 1 _ rfl),(hw.cell (p:=⟨gb,go + k * 8 + 2,none⟩) hgb).trans (hcell 2 _ rfl),(hw.cell (p:=⟨gb,go + k * 8 + 3,none⟩) hgb).trans (hcell 3 _ rfl),(hw.cell (p:=⟨gb,go + k * 8 + 4,none⟩) hgb).trans (hcell 4 _ rfl),(hw.cell (p:=⟨gb,go + k * 8 + 5,none⟩) hgb).trans (hcell 5 _ rfl),(hw.cell (p:=⟨gb,go + k * 8 + 6,none⟩) hgb).trans (hcell 6 _ rfl),(hw.cell (p:=⟨gb,go + k * 8 + 7,none⟩) hgb).trans (hcell 7 _ rfl)⟩)
 have hk0:¬ (k:Int) < 0:=by omega
 clear hcell efm ePA
 have hkSi:(k:Int) < (a.Ss.length:Int):=by omega
 have hkFi:(k:Int) < (a.Fm.length:Int):=by omega
 go_upto_region 4 with fail
 refine Jk (S:=fun w'=>w'.cell? ⟨a.q,0,none⟩ = some (.slice (some ⟨gb,go,none⟩) a.Ss.length a.pc) /\ w'.cell? ⟨a.q,4,none⟩ = some (.slice (some ⟨a.gF,0,none⟩) a.Fm.length a.fc) /\ w'.cell? ⟨gb,go + k * 8,none⟩ = some (.string s.nm) /\ w'.cell? ⟨gb,go + k * 8 + 1,none⟩ = some (.slice s.A s.vs.length s.c) /\ w'.cell? ⟨gb,go + k * 8 + 2,none⟩ = some (.bool s.L.neg) /\ w'.cell? ⟨gb,go + k * 8 + 3,none⟩ = some (.slice s.L.A s.L.N.length s.L.c) /\ w'.cell? ⟨gb,go + k * 8 + 4,none⟩ = some (.slice s.L.B s.L.D.length s.L.d) /\ w'.cell? ⟨gb,go + k * 8 + 5,none⟩ = some (.bool s.S.neg) /\ w'.cell? ⟨gb,go + k * 8 + 6,none⟩ = some (.slice s.S.A s.S.N.length s.S.c) /\ w'.cell? ⟨gb,go + k * 8 + 7,none⟩ = some (.slice s.S.B s.S.D.length s.S.d)) 17 rfl (by kernel_rfl) (HC4.out W1.drew bR.drew) (fun hd=>?_)
 iterate 14 (((refine Jb (v:=?_) rfl (by kernel_rfl) (fun _ _ _ h=>h) ⟨by rfl,?_⟩ hd ?_;rotate_left;· intro w' sw;obtain ⟨hS1,hS2,hS3,hS4,hS5,hS6,hS7,hS8,hS9,hS10⟩:=sw;go_simp;try with_reducible rfl);simp only [zA,zB,zC]))
 refine Je 14 rfl (by kernel_rfl) rfl (fun K hK=>?_)
 go_simp
 have hb4:Below W1.heap.size W1 (W1.alloc (.cells #[.string ⟨#[]⟩,.slice none 0 0,.bool false,.slice none 0 0,.slice none 0 0,.bool false,.slice none 0 0,.slice none 0 0] 131)).drew:=((Below.refl _ W1).alloc nR _).drew
 refine hK.out _ _ (HC4.out _ hb4) (fun hd=>?_)
 clear hK K
 refine Je 15 rfl (by kernel_rfl) rfl (fun K hK=>?_)
 go_simp
 obtain ⟨V,hV⟩:∃ V:World,V = (W1.alloc (.cells #[.string s.nm,.slice s.A s.vs.length s.c,.bool s.L.neg,.slice s.L.A s.L.N.length s.L.c,.slice s.L.B s.L.D.length s.L.d,.bool s.S.neg,.slice s.S.A s.S.N.length s.S.c,.slice s.S.B s.S.D.length s.S.d] 131)).drew:=⟨_,rfl⟩
 have HBV:Hid (Below W1.heap.size W1 V):=zH (by rw [hV];exact ((Below.refl _ W1).alloc nR _).drew)
 have HXV:Hid (V.heap[W1.heap.size]? = some (.cells #[.string s.nm,.slice s.A s.vs.length s.c,.bool s.L.neg,.slice s.L.A s.L.N.length s.L.c,.slice s.L.B s.L.D.length s.L.d,.bool s.S.neg,.slice s.S.A s.S.N.length s.S.c,.slice s.S.B s.S.D.length s.S.d] 131 (0,0))):=zH (by rw [hV];exact heap_alloc_new W1 _)
 rw [<- hV]
 clear hV hb4
 refine hK.out _ _ (HC4.out _ HBV.out) (fun hd=>?_)
 clear hK K
 ((refine Jb (v:=?_) rfl (by kernel_rfl) (fun _ _ _ h=>h) ⟨by rfl,?_⟩ hd ?_;rotate_left;· intro w' sw;obtain ⟨hS1,hS2,hS3,hS4,hS5,hS6,hS7,hS8,hS9,hS10⟩:=sw;go_simp;try with_reducible rfl);simp only [zA,zB,zC])
 refine wpAnyH_done (by kernel_rfl) ?_ _
 have HDV:=zH (HD1.out.below HBV.out)
 have HEW:=zH (HEV.out.below HBV.out)
 have HSS:=zH (HOK.out.S.below HBV.out)
 have HSL:=zH (HOK.out.L.below HBV.out)
 have HFS:=zH HOK.out.fS
 have HFL:=zH HOK.out.fL
 have HXE:Hid (V.heap[w.heap.size]? = some (.cells #[.int .i64 E.kind,.string E.val,.bool E.W.neg,.slice E.W.A E.W.N.length E.W.c,.slice E.W.B E.W.D.length E.W.d,.int .i64 E.at_] 28 (0,0))):=zH ((HBV.out.block _ hws1).trans HX1.out)
 have HBW:=zH (HB1.out.trans (HBV.out.mono HB1.out.size))
 clear HD1 HEV HC4 HOK HX1 HB1
 generalize W1.heap.size = R0 at *
 obtain ⟨R,hR⟩:∃ R,Yz (q + -ps.su) = R:=⟨_,rfl⟩
 have HR:=zH hR
 obtain ⟨R2,hR2⟩:∃ R,Yz (q + -ps.le) = R:=⟨_,rfl⟩
 have HR2:=zH hR2
 clear hR hR2
 have c2:=(cR 2 HXE.out).trans rfl
 have c3:=(cR 3 HXE.out).trans rfl
 have c4:=(cR 4 HXE.out).trans rfl
 have d5:=(cR 5 HXV.out).trans rfl
 have d6:=(cR 6 HXV.out).trans rfl
 have d7:=(cR 7 HXV.out).trans rfl
 have hbox:∃ X,X = a.Fm[k]:=⟨_,rfl⟩
 obtain ⟨X,hX⟩:=hbox
 have HX:=zH hX
 have HXP:Hid (X.pure = f):=zH (by rw [hX];exact EFM.out)
 have hrl9:X.ref.length <= 1000000:=by have h1:=HXP.out;rw [show X.ref = X.pure.ref from rfl,h1];exact HRL.out
 have hvp:Hid (Zex f ps q E.val = if R2 < 0 ∨ (¬ 0 <= R /\ E.val ∈ X.ref) then none else some ⟨if X.st = 3 /\ X.val = E.val then 3 else if X.st = 3 then 2 else if 0 <= R ∨ (X.st = 2 /\ X.val = E.val) then 3 else 2,E.val,wo E.val X.ref⟩):=zH (by rw [<- HXP.out,<- HR.out,<- HR2.out];rfl)
 clear hX
 go_wp2_with fail
 refine (Xw E.W s.S q ps.su V HEW.out HSS.out HFE.out HFS.out R HR).mono ?_
 rintro e V1 ⟨rfl,hb1⟩
 clear c2 c3 c4 d5 d6 d7
 have HDV:=zH (HDV.out.below hb1)
 have HEW:=zH (HEW.out.below hb1)
 have HSL:=zH (HSL.out.below hb1)
 have HXE1:Hid (V1.heap[w.heap.size]? = some (.cells #[.int .i64 E.kind,.string E.val,.bool E.W.neg,.slice E.W.A E.W.N.length E.W.c,.slice E.W.B E.W.D.length E.W.d,.int .i64 E.at_] 28 (0,0))):=zH ((hb1.block _ (aE HXE.out).1).trans HXE.out)
 have HXV1:Hid (V1.heap[R0]? = some (.cells #[.string s.nm,.slice s.A s.vs.length s.c,.bool s.L.neg,.slice s.L.A s.L.N.length s.L.c,.slice s.L.B s.L.D.length s.L.d,.bool s.S.neg,.slice s.S.A s.S.N.length s.S.c,.slice s.S.B s.S.D.length s.S.d] 131 (0,0))):=zH ((hb1.block _ (aE HXV.out).1).trans HXV.out)
 have HBW:=zH (HBW.out.trans (hb1.mono HBW.out.size))
 have HRX:Hid (V1.ownsRow bs 9 1 (.slice X.A X.ref.length X.c) X.ref.length (sbs X.ref)):=zH (by rw [HX.out];exact HDV.out.ref _ (gM hkF))
 have HC6:Hid (∀ w',Below V1.heap.size V1 w' -> w'.cell? ⟨w.heap.size,1,none⟩ = some (.string E.val) /\ w'.cell? ⟨w.heap.size,2,none⟩ = some (.bool E.W.neg) /\ w'.cell? ⟨w.heap.size,3,none⟩ = some (.slice E.W.A E.W.N.length E.W.c) /\ w'.cell? ⟨w.heap.size,4,none⟩ = some (.slice E.W.B E.W.D.length E.W.d) /\ w'.cell? ⟨R0,2,none⟩ = some (.bool s.L.neg) /\ w'.cell? ⟨R0,3,none⟩ = some (.slice s.L.A s.L.N.length s.L.c) /\ w'.cell? ⟨R0,4,none⟩ = some (.slice s.L.B s.L.D.length s.L.d) /\ w'.cell? ⟨a.gF,k * 3 + 2,none⟩ = some (.slice X.A X.ref.length X.c)):=zH (fun w' hw=>by
  obtain ⟨-,-,e2,-⟩:=Z3 (HDV.out.below hw).row rfl hkF
  rw [<- HX.out] at e2
  have hx:=(hw.block _ (aE HXE1.out).1).trans HXE1.out
  have hv:=(hw.block _ (aE HXV1.out).1).trans HXV1.out
  exact ⟨(cR 1 hx).trans rfl,(cR 2 hx).trans rfl,(cR 3 hx).trans rfl,(cR 4 hx).trans rfl,(cR 2 hv).trans rfl,(cR 3 hv).trans rfl,(cR 4 hv).trans rfl,e2⟩)
 clear hb1 HXE HXV HSS HBV
 go_upto_region 6 with fail
 by_cases h2:R2 < 0
 ·have g2:decide (R2 < 0) = true:=decide_eq_true h2
  have H2:=zH h2
  clear h2
  refine Jk (S:=fun w'=>w'.cell? ⟨w.heap.size,1,none⟩ = some (.string E.val) /\ w'.cell? ⟨w.heap.size,2,none⟩ = some (.bool E.W.neg) /\ w'.cell? ⟨w.heap.size,3,none⟩ = some (.slice E.W.A E.W.N.length E.W.c) /\ w'.cell? ⟨w.heap.size,4,none⟩ = some (.slice E.W.B E.W.D.length E.W.d) /\ w'.cell? ⟨R0,2,none⟩ = some (.bool s.L.neg) /\ w'.cell? ⟨R0,3,none⟩ = some (.slice s.L.A s.L.N.length s.L.c) /\ w'.cell? ⟨R0,4,none⟩ = some (.slice s.L.B s.L.D.length s.L.d) /\ w'.cell? ⟨a.gF,k * 3 + 2,none⟩ = some (.slice X.A X.ref.length X.c)) 19 rfl (by kernel_rfl) (HC6.out V1.drew bR.drew) (fun hd=>?_)
  iterate 4 (((refine Jb (v:=?_) rfl (by kernel_rfl) (fun _ _ _ h=>h) ⟨by rfl,?_⟩ hd ?_;rotate_left;· intro w' sw;obtain ⟨hS1,hS2,hS3,hS4,hS5,hS6,hS7,hS8⟩:=sw;go_simp;try with_reducible rfl);simp only [zA,zB,zC]))
  refine Je 4 rfl (by kernel_rfl) rfl (fun K hK=>?_)
  go_simp
  refine (Xw E.W s.L q ps.le V1.drew (HEW.out.below bR.drew) (HSL.out.below bR.drew) HFE.out HFL.out R2 HR2).mono ?_
  rintro e U ⟨rfl,hb2⟩
  have hb3:=JE hb2
  have hC9:=HC6.out U hb3
  have HB9:=zH hb3
  clear hb2 hb3
  go_simp
  refine hK _ _ hC9 (fun hd=>?_)
  clear hK K
  iterate 14 (first | ((refine Jb (v:=?_) rfl (by kernel_rfl) (fun _ _ _ h=>h) ⟨by rfl,?_⟩ hd ?_;rotate_left;· intro w' sw;obtain ⟨hS1,hS2,hS3,hS4,hS5,hS6,hS7,hS8⟩:=sw;go_simp;try with_reducible rfl);simp only [zA,zB,zC]) | (refine Xg rfl (by kernel_rfl) (fun _ _ _ h=>h) (by rfl) hd ?_;simp only [zA,zB,zC]))
  refine wpAnyH_done (by kernel_rfl) ?_ _
  go_wp2_with fail
  go_ret
  have h1:=hvp.out
  rw [if_pos (.inl H2.out)] at h1
  rcases hr.out with ⟨_,rfl,rfl⟩ | ⟨f',h3,_⟩
  ·exact ⟨a,rfl,HDV.out.below HB9.out,Chg.of_below (HBW.out.trans (HB9.out.mono HBW.out.size))⟩
  ·rw [h1] at h3
   cases h3
 ·have g2:decide (R2 < 0) = false:=dF h2
  have H2:=zH h2
  clear h2
  by_cases h1 : 0 <= R
  ·have g1:decide (0 <= R) = true:=decide_eq_true h1
   have H1:=zH h1
   clear h1
   refine Jk (S:=fun w'=>w'.cell? ⟨w.heap.size,1,none⟩ = some (.string E.val) /\ w'.cell? ⟨w.heap.size,2,none⟩ = some (.bool E.W.neg) /\ w'.cell? ⟨w.heap.size,3,none⟩ = some (.slice E.W.A E.W.N.length E.W.c) /\ w'.cell? ⟨w.heap.size,4,none⟩ = some (.slice E.W.B E.W.D.length E.W.d) /\ w'.cell? ⟨R0,2,none⟩ = some (.bool s.L.neg) /\ w'.cell? ⟨R0,3,none⟩ = some (.slice s.L.A s.L.N.length s.L.c) /\ w'.cell? ⟨R0,4,none⟩ = some (.slice s.L.B s.L.D.length s.L.d) /\ w'.cell? ⟨a.gF,k * 3 + 2,none⟩ = some (.slice X.A X.ref.length X.c)) 19 rfl (by kernel_rfl) (HC6.out V1.drew bR.drew) (fun hd=>?_)
   iterate 4 (((refine Jb (v:=?_) rfl (by kernel_rfl) (fun _ _ _ h=>h) ⟨by rfl,?_⟩ hd ?_;rotate_left;· intro w' sw;obtain ⟨hS1,hS2,hS3,hS4,hS5,hS6,hS7,hS8⟩:=sw;go_simp;try with_reducible rfl);simp only [zA,zB,zC]))
   refine Je 4 rfl (by kernel_rfl) rfl (fun K hK=>?_)
   go_simp
   refine (Xw E.W s.L q ps.le V1.drew (HEW.out.below bR.drew) (HSL.out.below bR.drew) HFE.out HFL.out R2 HR2).mono ?_
   rintro e U ⟨rfl,hb2⟩
   have hb3:=JE hb2
   have hC9:=HC6.out U hb3
   have HB9:=zH hb3
   clear hb2 hb3
   go_simp
   refine hK _ _ hC9 (fun hd=>?_)
   clear hK K
   iterate 14 (first | ((refine Jb (v:=?_) rfl (by kernel_rfl) (fun _ _ _ h=>h) ⟨by rfl,?_⟩ hd ?_;rotate_left;· intro w' sw;obtain ⟨hS1,hS2,hS3,hS4,hS5,hS6,hS7,hS8⟩:=sw;go_simp;try with_reducible rfl);simp only [zA,zB,zC]) | (refine Xg rfl (by kernel_rfl) (fun _ _ _ h=>h) (by rfl) hd ?_;simp only [zA,zB,zC]))
   refine wpAnyH_done (by kernel_rfl) ?_ _
   have HDU:=zH (HDV.out.below HB9.out)
   have HBU:=zH (HBW.out.trans (HB9.out.mono HBW.out.size))
   have HRU:=zH (Jf HRX.out HB9.out)
   have HXEU:Hid (U.heap[w.heap.size]? = some (.cells #[.int .i64 E.kind,.string E.val,.bool E.W.neg,.slice E.W.A E.W.N.length E.W.c,.slice E.W.B E.W.D.length E.W.d,.int .i64 E.at_] 28 (0,0))):=zH ((HB9.out.block _ (aE HXE1.out).1).trans HXE1.out)
   have hv0:Zex f ps q E.val = some ⟨(if X.st = 3 /\ X.val = E.val then 3 else if X.st = 3 then 2 else if 0 <= R ∨ (X.st = 2 /\ X.val = E.val) then 3 else 2),E.val,wo E.val X.ref⟩:=by
    rw [hvp.out,if_neg]
    rintro (h9 | ⟨h9,h8⟩)
    ·exact H2.out h9
    ·exact (by have:=H1.out;omega)
   have HV0:=zH hv0
   clear hv0 hC9
   have HNB:Hid (blk X.A ≠ some w.heap.size):=zH (fun e=>(BT.of_own HRU.out (by rw [Jm];exact e)).ne (⟨_,_,HXEU.out⟩:BT U w.heap.size 28) (by decide) rfl)
   obtain ⟨-,-,u2,-,-,uf⟩:=Z3 HDU.out.row rfl hkF
   rw [<- HX.out] at u2
   go_wp2_with fail
   refine (Vb bs X.c X.A X.ref E.val w.heap.size U HRU.out hrl9 ((cR 1 HXEU.out).trans rfl) HNB.out).mono ?_
   rintro e U2 ⟨rfl,ho2,hg2⟩
   have hgr2:U.grownBy U2 (blk a.Fm[k].A):=by rw [<- HX.out];exact hg2
   obtain ⟨hd3,hc3⟩:=HDU.out.refs hkF (l:=wo E.val X.ref) rfl ho2 hgr2 (fun b hb=>.inl (by rw [<- HX.out];exact hb))
   obtain ⟨Y,hY⟩:∃ Y:FlM,Y = { a.Fm[k] with A:=X.A,c:=X.c,ref:=wo E.val X.ref }:=⟨_,rfl⟩
   rw [<- hY] at hd3 hc3
   have ep:({ a.Fm[k].pure with ref:=wo E.val X.ref }:PFl) = Y.pure:=by rw [hY];rfl
   rw [ep] at hd3
   have hyx:Y.st = X.st /\ Y.val = X.val /\ Y.ref = wo E.val X.ref:=by rw [hY,HX.out];exact ⟨rfl,rfl,rfl⟩
   have HYX:=zH hyx
   clear hY ep hyx
   have hgU:a.gF < U.heap.size:=Nat.lt_of_lt_of_le HDU.out.lt.2.1 HDU.out.lt.2.2
   have hneF:some a.gF ≠ blk X.A:=fun e=>(BT.of_own HRU.out (by rw [Jm];exact e.symm)).ne (BT.of_own HDU.out.row rfl:BT U a.gF 136) (by decide) rfl
   have hb2:U2.heap[a.gF]? = U.heap[a.gF]?:=hg2.block a.gF hgU hneF
   have z2:U2.cell? ⟨a.gF,k * 3 + 2,none⟩ = some (.slice X.A X.ref.length X.c):=(World.cell?_of_block (a:=⟨a.gF,k * 3 + 2,none⟩) hb2).trans u2
   have zf:U2.frozen? ⟨a.gF,k * 3 + 2,none⟩ = false:=(World.frozen?_of_block (a:=⟨a.gF,k * 3 + 2,none⟩) hb2).trans uf
   have hwg:w.heap.size ≠ a.gF:=fun e=>(BT.of_own HDU.out.row rfl:BT U a.gF 136).ne (e ▸ ⟨_,_,HXEU.out⟩:BT U a.gF 28) (by decide) rfl
   have hxe2:(U2.setCell ⟨a.gF,k * 3 + 2,none⟩ (.slice X.A (wo E.val X.ref).length X.c)).heap[w.heap.size]? = some (.cells #[.int .i64 E.kind,.string E.val,.bool E.W.neg,.slice E.W.A E.W.N.length E.W.c,.slice E.W.B E.W.D.length E.W.d,.int .i64 E.at_] 28 (0,0)):=(RowKit.Below.heap_setCell U2 _ _ _ hwg).trans ((hg2.block _ (aE HXEU.out).1 (fun e=>HNB.out e.symm)).trans HXEU.out)
   have HD3:=zH hd3
   have HC3:=zH hc3
   have HXE3:=zH hxe2
   clear u2 uf hgr2 hd3 hc3 ho2 hg2 hgU hneF hb2 hwg hxe2
   go_upto_region 10 with fail
   clear z2 zf
   generalize U2.setCell ⟨a.gF,k * 3 + 2,none⟩ (.slice X.A (wo E.val X.ref).length X.c) = W3 at *
   have hk2:k < (a.put k Y).Fm.length:=by rw [DlA.put_len];exact hkF
   obtain ⟨y0,y1,-,p0,p1,-⟩:=Z3 HD3.out.row rfl hk2
   rw [DlA.put_at hk2] at y0 y1
   have k0:W3.cell? ⟨a.gF,k * 3,none⟩ = some (.int .i64 X.st):=by rw [<- HYX.out.1];exact y0
   have k1:W3.cell? ⟨a.gF,k * 3 + 1,none⟩ = some (.string X.val):=by rw [<- HYX.out.2.1];exact y1
   have q0:W3.frozen? ⟨a.gF,k * 3,none⟩ = false:=p0
   have q1:W3.frozen? ⟨a.gF,k * 3 + 1,none⟩ = false:=p1
   have e1:=(cR 1 HXE3.out).trans rfl
   have FIN2:Hid (∀ (W4:World) (n:Int),Below W3.heap.size W3 W4 -> n = (if X.st = 3 /\ X.val = E.val then 3 else if X.st = 3 then 2 else if 0 <= R ∨ (X.st = 2 /\ X.val = E.val) then 3 else 2) -> Vz bs a r D' w (.returned (.bool true)) ((W4.setCell ⟨a.gF,k * 3,none⟩ (.int .i64 n)).setCell ⟨a.gF,k * 3 + 1,none⟩ (.string E.val))):=zH (fun W4 n hb hn9=>by
    rcases hr.out with ⟨h9,_⟩ | ⟨f',h9,rfl,rfl⟩
    ·rw [HV0.out] at h9
     cases h9
    ·rw [HV0.out] at h9
     injection h9 with h9
     obtain ⟨h3,h4⟩:=(HD3.out.below hb).two hk2 n E.val
     have h5:=(((Chg.of_below (a:=a) HBU.out).trans HC3.out).trans (Chg.of_below hb)).trans h4
     rw [DlA.put_at hk2] at h3 h5
     rw [DlA.put_put,PDl.put_put] at h3
     rw [DlA.put_put] at h5
     have e9:f' = { Y.pure with st:=n,val:=E.val }:=by
      rw [<- h9,hn9]
      show _ = (⟨_,_,Y.ref⟩:PFl)
      rw [HYX.out.2.2]
     rw [e9]
     exact ⟨_,rfl,h3,h5⟩)
   have FIN1:Hid (∀ (W4:World),Below W3.heap.size W3 W4 -> X.st = (if X.st = 3 /\ X.val = E.val then 3 else if X.st = 3 then 2 else if 0 <= R ∨ (X.st = 2 /\ X.val = E.val) then 3 else 2) -> Vz bs a r D' w (.returned (.bool true)) (W4.setCell ⟨a.gF,k * 3 + 1,none⟩ (.string E.val))):=zH (fun W4 hb hn9=>by
    rcases hr.out with ⟨h9,_⟩ | ⟨f',h9,rfl,rfl⟩
    ·rw [HV0.out] at h9
     cases h9
    ·rw [HV0.out] at h9
     injection h9 with h9
     obtain ⟨h3,h4⟩:=(HD3.out.below hb).setVal hk2 E.val
     have h5:=(((Chg.of_below (a:=a) HBU.out).trans HC3.out).trans (Chg.of_below hb)).trans h4
     rw [DlA.put_at hk2] at h3 h5
     rw [DlA.put_put,PDl.put_put] at h3
     rw [DlA.put_put] at h5
     have e9:f' = { Y.pure with val:=E.val }:=by
      rw [<- h9,<- hn9]
      show _ = (⟨Y.st,_,Y.ref⟩:PFl)
      rw [HYX.out.2.2,HYX.out.1]
     rw [e9]
     exact ⟨_,rfl,h3,h5⟩)
   clear y0 y1 p0 p1
   by_cases h3:X.st = 3
   ·have g3:(X.st == 3) = true:=by rw [h3];rfl
    have H3:=zH h3
    clear h3
    by_cases h4:X.val = E.val
    ·rw [h4] at k1
     have H4:=zH h4
     clear h4
     go_quiet (fail)
     go_wp2_with fail
     go_ret
     exact FIN1.out _ (by first | exact (Below.refl _ W3).drw _ | exact ((Below.refl _ W3).drw _).drw _) (by rw [if_pos ⟨H3.out,H4.out⟩];exact H3.out)
    ·have g4:=Qw h4
     have H4:=zH h4
     clear h4
     go_quiet (fail)
     go_wp2_with fail
     go_ret
     exact FIN2.out _ _ (by first | exact (Below.refl _ W3).drw _ | exact ((Below.refl _ W3).drw _).drw _) (by rw [if_neg (fun h=>H4.out h.2),if_pos H3.out])
   ·have g3:(X.st == 3) = false:=beq_eq_false_iff_ne.2 h3
    have H3:=zH h3
    clear h3
    go_quiet (fail)
    go_wp2_with fail
    go_quiet (fail)
    go_wp2_with fail
    go_ret
    exact FIN2.out _ _ (by first | exact (Below.refl _ W3).drw _ | exact ((Below.refl _ W3).drw _).drw _) (by rw [if_neg (fun h=>H3.out h.1),if_neg H3.out,if_pos (.inl H1.out)])
  ·have g1:decide (0 <= R) = false:=dF h1
   have H1:=zH h1
   clear h1
   cases hi:decide (E.val ∈ X.ref) with
   | true=>
    have HIN:=zH hi
    clear hi
    refine Jk (S:=fun w'=>w'.cell? ⟨w.heap.size,1,none⟩ = some (.string E.val) /\ w'.cell? ⟨w.heap.size,2,none⟩ = some (.bool E.W.neg) /\ w'.cell? ⟨w.heap.size,3,none⟩ = some (.slice E.W.A E.W.N.length E.W.c) /\ w'.cell? ⟨w.heap.size,4,none⟩ = some (.slice E.W.B E.W.D.length E.W.d) /\ w'.cell? ⟨R0,2,none⟩ = some (.bool s.L.neg) /\ w'.cell? ⟨R0,3,none⟩ = some (.slice s.L.A s.L.N.length s.L.c) /\ w'.cell? ⟨R0,4,none⟩ = some (.slice s.L.B s.L.D.length s.L.d) /\ w'.cell? ⟨a.gF,k * 3 + 2,none⟩ = some (.slice X.A X.ref.length X.c)) 19 rfl (by kernel_rfl) (HC6.out V1.drew bR.drew) (fun hd=>?_)
    iterate 4 (((refine Jb (v:=?_) rfl (by kernel_rfl) (fun _ _ _ h=>h) ⟨by rfl,?_⟩ hd ?_;rotate_left;· intro w' sw;obtain ⟨hS1,hS2,hS3,hS4,hS5,hS6,hS7,hS8⟩:=sw;go_simp;try with_reducible rfl);simp only [zA,zB,zC]))
    refine Je 4 rfl (by kernel_rfl) rfl (fun K hK=>?_)
    go_simp
    refine (Xw E.W s.L q ps.le V1.drew (HEW.out.below bR.drew) (HSL.out.below bR.drew) HFE.out HFL.out R2 HR2).mono ?_
    rintro e U ⟨rfl,hb2⟩
    have hb3:=JE hb2
    have hC9:=HC6.out U hb3
    have HB9:=zH hb3
    clear hb2 hb3
    go_simp
    refine hK _ _ hC9 (fun hd=>?_)
    clear hK K
    iterate 11 (((refine Jb (v:=?_) rfl (by kernel_rfl) (fun _ _ _ h=>h) ⟨by rfl,?_⟩ hd ?_;rotate_left;· intro w' sw;obtain ⟨hS1,hS2,hS3,hS4,hS5,hS6,hS7,hS8⟩:=sw;go_simp;try with_reducible rfl);simp only [zA,zB,zC]))
    refine JI 16 rfl (by kernel_rfl) (by rfl) (fun K hK=>?_)
    go_simp
    refine (Yb X.A X.c X.ref E.val U (Lies.of_own (Jf HRX.out HB9.out)) (by omega) true HIN).mono ?_
    rintro e w' ⟨rfl,rfl⟩
    go_simp
    refine hK _ _ hC9 (fun hd=>?_)
    clear hK K
    iterate 2 (((refine Jb (v:=?_) rfl (by kernel_rfl) (fun _ _ _ h=>h) ⟨by rfl,?_⟩ hd ?_;rotate_left;· intro w' sw;obtain ⟨hS1,hS2,hS3,hS4,hS5,hS6,hS7,hS8⟩:=sw;go_simp;try with_reducible rfl);simp only [zA,zB,zC]))
    refine wpAnyH_done (by kernel_rfl) ?_ _
    go_wp2_with fail
    go_ret
    have h1:=hvp.out
    rw [if_pos (.inr ⟨H1.out,of_decide_eq_true HIN.out⟩)] at h1
    rcases hr.out with ⟨_,rfl,rfl⟩ | ⟨f',h3,_⟩
    ·exact ⟨a,rfl,HDV.out.below HB9.out,Chg.of_below (HBW.out.trans (HB9.out.mono HBW.out.size))⟩
    ·rw [h1] at h3
     cases h3
   | false=>
    have HIN:=zH hi
    clear hi
    refine Jk (S:=fun w'=>w'.cell? ⟨w.heap.size,1,none⟩ = some (.string E.val) /\ w'.cell? ⟨w.heap.size,2,none⟩ = some (.bool E.W.neg) /\ w'.cell? ⟨w.heap.size,3,none⟩ = some (.slice E.W.A E.W.N.length E.W.c) /\ w'.cell? ⟨w.heap.size,4,none⟩ = some (.slice E.W.B E.W.D.length E.W.d) /\ w'.cell? ⟨R0,2,none⟩ = some (.bool s.L.neg) /\ w'.cell? ⟨R0,3,none⟩ = some (.slice s.L.A s.L.N.length s.L.c) /\ w'.cell? ⟨R0,4,none⟩ = some (.slice s.L.B s.L.D.length s.L.d) /\ w'.cell? ⟨a.gF,k * 3 + 2,none⟩ = some (.slice X.A X.ref.length X.c)) 19 rfl (by kernel_rfl) (HC6.out V1.drew bR.drew) (fun hd=>?_)
    iterate 4 (((refine Jb (v:=?_) rfl (by kernel_rfl) (fun _ _ _ h=>h) ⟨by rfl,?_⟩ hd ?_;rotate_left;· intro w' sw;obtain ⟨hS1,hS2,hS3,hS4,hS5,hS6,hS7,hS8⟩:=sw;go_simp;try with_reducible rfl);simp only [zA,zB,zC]))
    refine Je 4 rfl (by kernel_rfl) rfl (fun K hK=>?_)
    go_simp
    refine (Xw E.W s.L q ps.le V1.drew (HEW.out.below bR.drew) (HSL.out.below bR.drew) HFE.out HFL.out R2 HR2).mono ?_
    rintro e U ⟨rfl,hb2⟩
    have hb3:=JE hb2
    have hC9:=HC6.out U hb3
    have HB9:=zH hb3
    clear hb2 hb3
    go_simp
    refine hK _ _ hC9 (fun hd=>?_)
    clear hK K
    iterate 11 (((refine Jb (v:=?_) rfl (by kernel_rfl) (fun _ _ _ h=>h) ⟨by rfl,?_⟩ hd ?_;rotate_left;· intro w' sw;obtain ⟨hS1,hS2,hS3,hS4,hS5,hS6,hS7,hS8⟩:=sw;go_simp;try with_reducible rfl);simp only [zA,zB,zC]))
    refine JI 16 rfl (by kernel_rfl) (by rfl) (fun K hK=>?_)
    go_simp
    refine (Yb X.A X.c X.ref E.val U (Lies.of_own (Jf HRX.out HB9.out)) (by omega) false HIN).mono ?_
    rintro e w' ⟨rfl,rfl⟩
    go_simp
    refine hK _ _ hC9 (fun hd=>?_)
    clear hK K
    iterate 2 (((refine Jb (v:=?_) rfl (by kernel_rfl) (fun _ _ _ h=>h) ⟨by rfl,?_⟩ hd ?_;rotate_left;· intro w' sw;obtain ⟨hS1,hS2,hS3,hS4,hS5,hS6,hS7,hS8⟩:=sw;go_simp;try with_reducible rfl);simp only [zA,zB,zC]))
    refine wpAnyH_done (by kernel_rfl) ?_ _
    have HDU:=zH (HDV.out.below HB9.out)
    have HBU:=zH (HBW.out.trans (HB9.out.mono HBW.out.size))
    have HRU:=zH (Jf HRX.out HB9.out)
    have HXEU:Hid (U.heap[w.heap.size]? = some (.cells #[.int .i64 E.kind,.string E.val,.bool E.W.neg,.slice E.W.A E.W.N.length E.W.c,.slice E.W.B E.W.D.length E.W.d,.int .i64 E.at_] 28 (0,0))):=zH ((HB9.out.block _ (aE HXE1.out).1).trans HXE1.out)
    have hv0:Zex f ps q E.val = some ⟨(if X.st = 3 /\ X.val = E.val then 3 else if X.st = 3 then 2 else if 0 <= R ∨ (X.st = 2 /\ X.val = E.val) then 3 else 2),E.val,wo E.val X.ref⟩:=by
     rw [hvp.out,if_neg]
     rintro (h9 | ⟨h9,h8⟩)
     ·exact H2.out h9
     ·exact of_decide_eq_false HIN.out h8
    have HV0:=zH hv0
    clear hv0 hC9
    have HNB:Hid (blk X.A ≠ some w.heap.size):=zH (fun e=>(BT.of_own HRU.out (by rw [Jm];exact e)).ne (⟨_,_,HXEU.out⟩:BT U w.heap.size 28) (by decide) rfl)
    obtain ⟨-,-,u2,-,-,uf⟩:=Z3 HDU.out.row rfl hkF
    rw [<- HX.out] at u2
    go_wp2_with fail
    refine (Vb bs X.c X.A X.ref E.val w.heap.size U HRU.out hrl9 ((cR 1 HXEU.out).trans rfl) HNB.out).mono ?_
    rintro e U2 ⟨rfl,ho2,hg2⟩
    have hgr2:U.grownBy U2 (blk a.Fm[k].A):=by rw [<- HX.out];exact hg2
    obtain ⟨hd3,hc3⟩:=HDU.out.refs hkF (l:=wo E.val X.ref) rfl ho2 hgr2 (fun b hb=>.inl (by rw [<- HX.out];exact hb))
    obtain ⟨Y,hY⟩:∃ Y:FlM,Y = { a.Fm[k] with A:=X.A,c:=X.c,ref:=wo E.val X.ref }:=⟨_,rfl⟩
    rw [<- hY] at hd3 hc3
    have ep:({ a.Fm[k].pure with ref:=wo E.val X.ref }:PFl) = Y.pure:=by rw [hY];rfl
    rw [ep] at hd3
    have hyx:Y.st = X.st /\ Y.val = X.val /\ Y.ref = wo E.val X.ref:=by rw [hY,HX.out];exact ⟨rfl,rfl,rfl⟩
    have HYX:=zH hyx
    clear hY ep hyx
    have hgU:a.gF < U.heap.size:=Nat.lt_of_lt_of_le HDU.out.lt.2.1 HDU.out.lt.2.2
    have hneF:some a.gF ≠ blk X.A:=fun e=>(BT.of_own HRU.out (by rw [Jm];exact e.symm)).ne (BT.of_own HDU.out.row rfl:BT U a.gF 136) (by decide) rfl
    have hb2:U2.heap[a.gF]? = U.heap[a.gF]?:=hg2.block a.gF hgU hneF
    have z2:U2.cell? ⟨a.gF,k * 3 + 2,none⟩ = some (.slice X.A X.ref.length X.c):=(World.cell?_of_block (a:=⟨a.gF,k * 3 + 2,none⟩) hb2).trans u2
    have zf:U2.frozen? ⟨a.gF,k * 3 + 2,none⟩ = false:=(World.frozen?_of_block (a:=⟨a.gF,k * 3 + 2,none⟩) hb2).trans uf
    have hwg:w.heap.size ≠ a.gF:=fun e=>(BT.of_own HDU.out.row rfl:BT U a.gF 136).ne (e ▸ ⟨_,_,HXEU.out⟩:BT U a.gF 28) (by decide) rfl
    have hxe2:(U2.setCell ⟨a.gF,k * 3 + 2,none⟩ (.slice X.A (wo E.val X.ref).length X.c)).heap[w.heap.size]? = some (.cells #[.int .i64 E.kind,.string E.val,.bool E.W.neg,.slice E.W.A E.W.N.length E.W.c,.slice E.W.B E.W.D.length E.W.d,.int .i64 E.at_] 28 (0,0)):=(RowKit.Below.heap_setCell U2 _ _ _ hwg).trans ((hg2.block _ (aE HXEU.out).1 (fun e=>HNB.out e.symm)).trans HXEU.out)
    have HD3:=zH hd3
    have HC3:=zH hc3
    have HXE3:=zH hxe2
    clear u2 uf hgr2 hd3 hc3 ho2 hg2 hgU hneF hb2 hwg hxe2
    go_upto_region 10 with fail
    clear z2 zf
    generalize U2.setCell ⟨a.gF,k * 3 + 2,none⟩ (.slice X.A (wo E.val X.ref).length X.c) = W3 at *
    have hk2:k < (a.put k Y).Fm.length:=by rw [DlA.put_len];exact hkF
    obtain ⟨y0,y1,-,p0,p1,-⟩:=Z3 HD3.out.row rfl hk2
    rw [DlA.put_at hk2] at y0 y1
    have k0:W3.cell? ⟨a.gF,k * 3,none⟩ = some (.int .i64 X.st):=by rw [<- HYX.out.1];exact y0
    have k1:W3.cell? ⟨a.gF,k * 3 + 1,none⟩ = some (.string X.val):=by rw [<- HYX.out.2.1];exact y1
    have q0:W3.frozen? ⟨a.gF,k * 3,none⟩ = false:=p0
    have q1:W3.frozen? ⟨a.gF,k * 3 + 1,none⟩ = false:=p1
    have e1:=(cR 1 HXE3.out).trans rfl
    have FIN2:Hid (∀ (W4:World) (n:Int),Below W3.heap.size W3 W4 -> n = (if X.st = 3 /\ X.val = E.val then 3 else if X.st = 3 then 2 else if 0 <= R ∨ (X.st = 2 /\ X.val = E.val) then 3 else 2) -> Vz bs a r D' w (.returned (.bool true)) ((W4.setCell ⟨a.gF,k * 3,none⟩ (.int .i64 n)).setCell ⟨a.gF,k * 3 + 1,none⟩ (.string E.val))):=zH (fun W4 n hb hn9=>by
     rcases hr.out with ⟨h9,_⟩ | ⟨f',h9,rfl,rfl⟩
     ·rw [HV0.out] at h9
      cases h9
     ·rw [HV0.out] at h9
      injection h9 with h9
      obtain ⟨h3,h4⟩:=(HD3.out.below hb).two hk2 n E.val
      have h5:=(((Chg.of_below (a:=a) HBU.out).trans HC3.out).trans (Chg.of_below hb)).trans h4
      rw [DlA.put_at hk2] at h3 h5
      rw [DlA.put_put,PDl.put_put] at h3
      rw [DlA.put_put] at h5
      have e9:f' = { Y.pure with st:=n,val:=E.val }:=by
       rw [<- h9,hn9]
       show _ = (⟨_,_,Y.ref⟩:PFl)
       rw [HYX.out.2.2]
      rw [e9]
      exact ⟨_,rfl,h3,h5⟩)
    have FIN1:Hid (∀ (W4:World),Below W3.heap.size W3 W4 -> X.st = (if X.st = 3 /\ X.val = E.val then 3 else if X.st = 3 then 2 else if 0 <= R ∨ (X.st = 2 /\ X.val = E.val) then 3 else 2) -> Vz bs a r D' w (.returned (.bool true)) (W4.setCell ⟨a.gF,k * 3 + 1,none⟩ (.string E.val))):=zH (fun W4 hb hn9=>by
     rcases hr.out with ⟨h9,_⟩ | ⟨f',h9,rfl,rfl⟩
     ·rw [HV0.out] at h9
      cases h9
     ·rw [HV0.out] at h9
      injection h9 with h9
      obtain ⟨h3,h4⟩:=(HD3.out.below hb).setVal hk2 E.val
      have h5:=(((Chg.of_below (a:=a) HBU.out).trans HC3.out).trans (Chg.of_below hb)).trans h4
      rw [DlA.put_at hk2] at h3 h5
      rw [DlA.put_put,PDl.put_put] at h3
      rw [DlA.put_put] at h5
      have e9:f' = { Y.pure with val:=E.val }:=by
       rw [<- h9,<- hn9]
       show _ = (⟨Y.st,_,Y.ref⟩:PFl)
       rw [HYX.out.2.2,HYX.out.1]
      rw [e9]
      exact ⟨_,rfl,h3,h5⟩)
    clear y0 y1 p0 p1
    by_cases h3:X.st = 3
    ·have g3:(X.st == 3) = true:=by rw [h3];rfl
     have H3:=zH h3
     clear h3
     by_cases h4:X.val = E.val
     ·rw [h4] at k1
      have H4:=zH h4
      clear h4
      go_quiet (fail)
      go_wp2_with fail
      go_ret
      exact FIN1.out _ (by first | exact (Below.refl _ W3).drw _ | exact ((Below.refl _ W3).drw _).drw _) (by rw [if_pos ⟨H3.out,H4.out⟩];exact H3.out)
     ·have g4:=Qw h4
      have H4:=zH h4
      clear h4
      go_quiet (fail)
      go_wp2_with fail
      go_ret
      exact FIN2.out _ _ (by first | exact (Below.refl _ W3).drw _ | exact ((Below.refl _ W3).drw _).drw _) (by rw [if_neg (fun h=>H4.out h.2),if_pos H3.out])
    ·have g3:(X.st == 3) = false:=beq_eq_false_iff_ne.2 h3
     have H3:=zH h3
     clear h3
     go_quiet (fail)
     go_wp2_with fail
     by_cases h5:X.st = 2
     ·have g5:(X.st == 2) = true:=by rw [h5];rfl
      have H5:=zH h5
      clear h5
      by_cases h4:X.val = E.val
      ·rw [h4] at k1
       have H4:=zH h4
       clear h4
       go_quiet (fail)
       go_wp2_with fail
       go_ret
       exact FIN2.out _ _ (by first | exact (Below.refl _ W3).drw _ | exact ((Below.refl _ W3).drw _).drw _) (by rw [if_neg (fun h=>H3.out h.1),if_neg H3.out,if_pos (.inr ⟨H5.out,H4.out⟩)])
      ·have g4:=Qw h4
       have H4:=zH h4
       clear h4
       go_quiet (fail)
       go_wp2_with fail
       go_ret
       exact FIN2.out _ _ (by first | exact (Below.refl _ W3).drw _ | exact ((Below.refl _ W3).drw _).drw _) (by rw [if_neg (fun h=>H3.out h.1),if_neg H3.out,if_neg (fun h=>h.elim (fun h=>by have:=H1.out;omega) (fun h=>H4.out h.2))])
     ·have g5:(X.st == 2) = false:=beq_eq_false_iff_ne.2 h5
      have H5:=zH h5
      clear h5
      go_quiet (fail)
      go_wp2_with fail
      go_ret
      exact FIN2.out _ _ (by first | exact (Below.refl _ W3).drw _ | exact ((Below.refl _ W3).drw _).drw _) (by rw [if_neg (fun h=>H3.out h.1),if_neg H3.out,if_neg (fun h=>h.elim (fun h=>by have:=H1.out;omega) (fun h=>H5.out h.1))])
end Go.Proofs.YtfbdihpllmhcnaaGreatDoor
