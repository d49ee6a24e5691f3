/- TopLearned -/
import Derived.Test.YtlgdlenoohkipaaGreatMTearn35
set_option maxRecDepth 100000
set_option maxHeartbeats 32000000
namespace Go.Proofs.YtlgdlenoohkipaaGreat
open Go.RowKit Ear

theorem Zgx (w:World) (kb:Nat) (h:K4) (m:Nat) (t:TypeId) (hb:w.heap[kb]? = some (.cells (kc h) t (0,0))):Lies w (some ⟨kb,0,none⟩) (ics ([h.1,h.2.1,h.2.2.1,h.2.2.2].take m)):=fun _=>
 ⟨kb,0,rfl,(aE hb).1,fun k v hv=>by
  rw [cell_of_row _ _ (0 + k) _ _ _ hb,Nat.zero_add];simp only [List.map_take,List.getElem?_take] at hv;split at hv
  ·rcases k with _ | _ | _ | _ | k
   ·exact hv
   ·exact hv
   ·exact hv
   ·exact hv
   ·simp at hv
  ·cases hv⟩
theorem Zgz {W W':World} {b:Nat} (hm:∃ es c,W.heap[b]? = some (Obj.map es c)) (hg:W.grownBy W' (some b)):KpC W W':=⟨hg.size,fun b' cs t fr e=>(hg.block b' (aE e).1 (by
 intro e2;injection e2 with e2
 subst e2;obtain ⟨es,c,h1⟩:=hm;rw [h1] at e;cases e)).trans e⟩
theorem Za6 (p:GrP) (base gb rb fb fn:Nat) (h:K4) (i:Nat) (w:World) (hI:GrI w p base gb rb fb fn) (hh:pOk p.V h) (hi:i < p.V) (hbw:base <= w.heap.size) :
  Calls Tryz.prog 79 #[.pointer (some ⟨gb,0,none⟩),ek h,.int .i64 (i:Int)] w (Zhv p base gb rb fb fn (Zt p h i) w):=by
 have ho:=hI.ok.lg.ord;obtain ⟨W0,hW0⟩:∃ X:World,X = (w.alloc (.cells (kc h) 127)).alloc (.cells #[.bool false,.slice none 0 0,.slice none 0 0] 31):=⟨_,rfl⟩;have HB0:Hid (Below w.heap.size w W0):=zH (by rw [hW0];exact al2 w _ _);have HK0:Hid (W0.heap[w.heap.size]? = some (.cells (kc h) 127 (0,0))):=zH (by rw [hW0];exact (YZ _ _ _).trans (heap_alloc_new w _));have HR0:Hid (Fb W0 (w.heap.size + 1) JI):=zH (by rw [hW0];exact Zg _ _ _ _);have HI0:=zH (hI.below HB0.out);have HBS:Hid (Below base w W0):=zH (HB0.out.mono hbw);obtain ⟨m,hm⟩:∃ m,m = p.o - 1:=⟨_,rfl⟩;have hm1:(0:Int) <= (m:Int):=by omega
 have hm4:(m:Int) <= 4:=by omega
 have p1:IntKind.i64.wrap ((p.o:Int) - 1) = (m:Int):=by rw [IntWalk.i64_in _ (by omega)];omega
 have HHL:Hid ((Zb6 p.o h).length = m):=zH (by have:=ZgG h (show 1 <= p.o /\ p.o <= 4 by omega);omega);have HLK:Hid (∀ u,Below W0.heap.size W0 u -> Lies u (some ⟨w.heap.size,0,none⟩) (ics (Zb6 p.o h))):=zH (fun u hu=>by
  unfold Zb6;exact Zgx u _ h _ _ ((hu.block _ (aE HK0.out).1).trans HK0.out))
 have HRO:Hid (∀ u,Below W0.heap.size W0 u -> Calls Tryz.prog 135 #[.agg (lgv p.o ((p.V:Int) - 1) p.TA p.T.length p.tc p.kd p.x p.M p.mn p.mc),.slice (some ⟨w.heap.size,0,none⟩) m 4] u (Zhw p.V (Zt p h) u)):=zH (fun u hu=>by
  have h1:=ZiB p.o p.V p.TA p.tc p.T p.kd p.x p.q p.M p.mn p.mc p.X p.mx (some ⟨w.heap.size,0,none⟩) 4 (Zb6 p.o h) u (HI0.out.ok.lg.below hu) HI0.out.ok.hV (HLK.out u hu) (by have:=HHL.out;omega) (by have:=HHL.out;omega) (Zid hh);rw [HHL.out] at h1;exact h1)
 have HKO:Hid (kOk h):=zH (hh.kOk hI.ok.hV.2);obtain ⟨ms,hms,hrw⟩:=hI.map;have HMS:=zH (hms.below HB0.out);have HRW:Hid (∀ e ∈ ms,FRw W0 base e.2 p.V (Zt p e.1)):=zH (fun e he=>(hrw e he).below HB0.out);have HLTM:Hid (∀ e ∈ ms,e.2 ≠ w.heap.size + 1):=zH (fun e he=>by have:=(hrw e he).lt.2;omega);have HV:=zH hI.ok.hV;have HLE:=zH hI.le;have HOK:=zH hI.ok;obtain ⟨lk,hlk⟩:=ZhW h HKO.out;have HLQ:=zH hlk;have hgw:gb < w.heap.size:=(aE hI.box).1;have HCG:Hid (∀ u,Below W0.heap.size W0 u -> GrI u p base gb rb fb fn):=zH (fun u hu=>HI0.out.below hu);clear hms hrw hlk hm hI ho;obtain ⟨y0,y1,y2,y3⟩:=h;have HCK:Hid (∀ u,Below W0.heap.size W0 u -> u.cell? ⟨w.heap.size,0,none⟩ = some (.int .i64 y0) /\ u.cell? ⟨w.heap.size,1,none⟩ = some (.int .i64 y1) /\ u.cell? ⟨w.heap.size,2,none⟩ = some (.int .i64 y2) /\ u.cell? ⟨w.heap.size,3,none⟩ = some (.int .i64 y3)):=zH (fun u hu=>by
  have hh:=(hu.block _ (aE HK0.out).1).trans HK0.out;exact ⟨(cR 0 hh).trans rfl,(cR 1 hh).trans rfl,(cR 2 hh).trans rfl,(cR 3 hh).trans rfl⟩)
 simp only [ek] at HLQ;obtain ⟨sv,bv,hall,hcs⟩:∃ sv bv,(∀ u,Below W0.heap.size W0 u -> (Instr.lookup 150 (.map (some rb)) (.agg #[.int .i64 y0,.int .i64 y1,.int .i64 y2,.int .i64 y3]) false).run Tryz.prog u = .ok sv u /\ (binOp .eql 32 sv (.slice none 0 0)).run Tryz.prog u = .ok (.bool bv) u /\ (eqGuard .eql 32 (.tmp 12) (.const (.slice none 0 0)) sv (.slice none 0 0)).run Tryz.prog u = .ok () u) /\ ((bv = true /\ JB ms (y0,y1,y2,y3) = none) ∨ (bv = false /\ ∃ g,JB ms (y0,y1,y2,y3) = some g)):=by
  have h1:=fun u (hu:Below W0.heap.size W0 u)=>(HMS.out.below hu).lookup VI YR Tryz.underlying150 (Tryz.zeroValue32 u) (y0,y1,y2,y3) HLQ.out;cases hg:JB ms (y0,y1,y2,y3) with
  | none=>
   rw [hg] at h1;exact ⟨_,true,fun u hu=>⟨h1 u hu,Zb7 u,Zfl _ _ u⟩,.inl ⟨rfl,rfl⟩⟩
  | some g=>
   rw [hg] at h1;exact ⟨_,false,fun u hu=>⟨h1 u hu,Zb8 g p.V u,Zfm g p.V _ _ u⟩,.inr ⟨rfl,g,rfl⟩⟩
 have HALL:=zH hall;clear hall;have HCS:=zH hcs;clear hcs;simp only [kc] at hW0;simp only [ek];go_enter Tryz.func79,Tryz.ntmps79;go_upto_region 1 with fail;rw [<- hW0];clear hW0;refine Jq 44 rfl (by kernel_rfl) (by kernel_rfl) (by kernel_rfl) (fun u=>Below W0.heap.size W0 u) (fun u u'=>Below u.heap.size u u') (Gl [isV (.pointer (some ⟨gb,0,none⟩)),isV (.pointer (some ⟨gb,0,none⟩)),isV (.pointer (some ⟨gb,10,none⟩)),isV (.map (some rb)),isV (.agg #[.int .i64 y0,.int .i64 y1,.int .i64 y2,.int .i64 y3]),isV sv,isV (.bool bv)]) (Gl.keepL ⟨Keeps.isV _,Keeps.isV _,Keeps.isV _,Keeps.isV _,Keeps.isV _,Keeps.isV _,Keeps.isV _,trivial⟩) ?_ ?_ ?_
 ·exact (Below.refl _ W0).drew
 ·simp only [Jj];refine ⟨?_,?_,?_,?_,?_,?_,?_,trivial⟩
  ·intro bb u su dp kp K hK;have e0:gT bb 0 = .pointer (some ⟨gb,0,none⟩):=kp 0 (by kernel_rfl);go_simp;exact hK _ _ su bR rfl
  ·intro bb u su dp kp K hK;have e7:gT bb 7 = .pointer (some ⟨gb,0,none⟩):=dp 0 _ rfl (by kernel_rfl);go_simp;exact hK _ _ su bR rfl
  ·intro bb u su dp kp K hK;have e8:gT bb 8 = .pointer (some ⟨gb,0,none⟩):=dp 1 _ rfl (by kernel_rfl);go_simp;exact hK _ _ su bR rfl
  ·intro bb u su dp kp K hK;have e9:gT bb 9 = .pointer (some ⟨gb,10,none⟩):=dp 2 _ rfl (by kernel_rfl);obtain ⟨c0,c1,c2,c3⟩:=HCK.out u su;obtain ⟨d0,d1,d2,d3,d4,d5,d6,d7,d8,d9,d10,d11⟩:=(HCG.out u su).cells;go_simp;exact hK _ _ su bR rfl
  ·intro bb u su dp kp K hK;have e4:gT bb 4 = .pointer (some ⟨w.heap.size,0,none⟩):=kp 4 (by kernel_rfl);obtain ⟨c0,c1,c2,c3⟩:=HCK.out u su;obtain ⟨d0,d1,d2,d3,d4,d5,d6,d7,d8,d9,d10,d11⟩:=(HCG.out u su).cells;go_simp;exact hK _ _ su bR rfl
  ·intro bb u su dp kp K hK;have e10:gT bb 10 = .map (some rb):=dp 3 _ rfl (by kernel_rfl);have e11:gT bb 11 = .agg #[.int .i64 y0,.int .i64 y1,.int .i64 y2,.int .i64 y3]:=dp 4 _ rfl (by kernel_rfl);obtain ⟨hlk,hbn,heg⟩:=HALL.out u su;go_simp;exact hK _ _ su bR rfl
  ·intro bb u su dp kp K hK;have e12:gT bb 12 = sv:=dp 5 _ rfl (by kernel_rfl);obtain ⟨hlk,hbn,heg⟩:=HALL.out u su;go_simp;exact hK _ _ su bR rfl
 ·intro bb u hN hdf su hG sm;have e13:gT bb 13 = .bool bv:=hG 6 _ rfl;rw [Ju bb _ [false,false,false,false,false,false,false,true,true,true,true,true,true,true,false,false,false,false,false,false,false,false,false,false,false,false,false,false,false,false,false,false,false,false,false,false,false,false,false,false,false,false,false,false] _ rfl hN rfl (by kernel_rfl) hdf sm];simp only [Y2,Nat.reduceAdd,e13];clear e13 hG sm hN hdf;generalize bb.tmps.getD 7 undef = z7,bb.tmps.getD 8 undef = z8,bb.tmps.getD 9 undef = z9,bb.tmps.getD 10 undef = z10,bb.tmps.getD 11 undef = z11,bb.tmps.getD 12 undef = z12;have HU:=zH su;obtain ⟨U0,hU0⟩:∃ X,X = u:=⟨_,rfl⟩;have HBS:Hid (Below base w u):=zH (HBS.out.trans (su.mono (by have:=HB0.out.size;omega)));have HB0:=zH (HB0.out.trans (su.mono HB0.out.size));have HI0:=zH (HI0.out.below su);have HK0:Hid (u.heap[w.heap.size]? = some (.cells (kc (y0,y1,y2,y3)) 127 (0,0))):=zH ((su.block _ (aE HK0.out).1).trans HK0.out);have HR0:=zH (HR0.out.below su);have HMS:=zH (HMS.out.below su);have HRW:Hid (∀ e ∈ ms,FRw u base e.2 p.V (Zt p e.1)):=zH (fun e he=>(HRW.out e he).below su);have HRO:=zH (fun x (hx:Below u.heap.size u x)=>HRO.out x (su.trans (hx.mono su.size)));have HCG:=zH (fun x (hx:Below u.heap.size u x)=>HCG.out x (su.trans (hx.mono su.size)));have HCK:=zH (fun x (hx:Below u.heap.size u x)=>HCK.out x (su.trans (hx.mono su.size)));rw [<- hU0] at HB0 HBS HI0 HK0 HR0 HMS HRW HRO HCG HCK ⊢;clear su HALL HU hU0 HLK;go_upto_if 13 with fail;go_cut [] from 13 (fun wx=>∃ ms2 g,Hid (JB ms2 (y0,y1,y2,y3) = some g) /\ Hid (MapIs Tryz.prog 127 ek (rwV p.V) wx rb ms2) /\ Hid (∀ e ∈ ms2,FRw wx base e.2 p.V (Zt p e.1)) /\ Hid (∀ e ∈ ms2,e.2 ≠ w.heap.size + 1) /\ Hid (KpC U0 wx) /\ Hid (Below base U0 wx))
  case first=>
   rcases HCS.out with ⟨rfl,hg⟩ | ⟨rfl,g,hg⟩
   ·have HGG:=zH hg;clear hg HCS;have HC8:Hid (∀ w',Below U0.heap.size U0 w' -> w'.cell? ⟨gb,0,none⟩ = some (.int .i64 p.Fm) /\ w'.cell? ⟨gb,1,none⟩ = some (.slice p.A p.L.length p.c) /\ w'.cell? ⟨gb,2,none⟩ = some (.int .i64 (p.o:Int)) /\ w'.cell? ⟨gb,3,none⟩ = some (.int .i64 ((p.V:Int) - 1)) /\ w'.cell? ⟨gb,4,none⟩ = some (.slice p.TA p.T.length p.tc) /\ w'.cell? ⟨gb,5,none⟩ = some (.int .i64 p.kd) /\ w'.cell? ⟨gb,6,none⟩ = some (.bool p.x.neg) /\ w'.cell? ⟨gb,7,none⟩ = some (.slice p.x.A p.x.N.length p.x.c) /\ w'.cell? ⟨gb,8,none⟩ = some (.slice p.x.B p.x.D.length p.x.d) /\ w'.cell? ⟨gb,9,none⟩ = some (.slice p.M p.mn p.mc) /\ w'.cell? ⟨gb,10,none⟩ = some (.map (some rb)) /\ w'.cell? ⟨gb,11,none⟩ = some (.slice (some ⟨fb,0,none⟩) fn fn) /\ w'.cell? ⟨w.heap.size,0,none⟩ = some (.int .i64 y0) /\ w'.cell? ⟨w.heap.size,1,none⟩ = some (.int .i64 y1) /\ w'.cell? ⟨w.heap.size,2,none⟩ = some (.int .i64 y2) /\ w'.cell? ⟨w.heap.size,3,none⟩ = some (.int .i64 y3)):=zH (fun w' hw=>by
     obtain ⟨d0,d1,d2,d3,d4,d5,d6,d7,d8,d9,d10,d11⟩:=(HCG.out w' hw).cells;obtain ⟨c0,c1,c2,c3⟩:=HCK.out w' hw;exact ⟨d0,d1,d2,d3,d4,d5,d6,d7,d8,d9,d10,d11,c0,c1,c2,c3⟩)
    go_upto_region 2 with fail;refine Jk (S:=fun w'=>w'.cell? ⟨gb,0,none⟩ = some (.int .i64 p.Fm) /\ w'.cell? ⟨gb,1,none⟩ = some (.slice p.A p.L.length p.c) /\ w'.cell? ⟨gb,2,none⟩ = some (.int .i64 (p.o:Int)) /\ w'.cell? ⟨gb,3,none⟩ = some (.int .i64 ((p.V:Int) - 1)) /\ w'.cell? ⟨gb,4,none⟩ = some (.slice p.TA p.T.length p.tc) /\ w'.cell? ⟨gb,5,none⟩ = some (.int .i64 p.kd) /\ w'.cell? ⟨gb,6,none⟩ = some (.bool p.x.neg) /\ w'.cell? ⟨gb,7,none⟩ = some (.slice p.x.A p.x.N.length p.x.c) /\ w'.cell? ⟨gb,8,none⟩ = some (.slice p.x.B p.x.D.length p.x.d) /\ w'.cell? ⟨gb,9,none⟩ = some (.slice p.M p.mn p.mc) /\ w'.cell? ⟨gb,10,none⟩ = some (.map (some rb)) /\ w'.cell? ⟨gb,11,none⟩ = some (.slice (some ⟨fb,0,none⟩) fn fn) /\ w'.cell? ⟨w.heap.size,0,none⟩ = some (.int .i64 y0) /\ w'.cell? ⟨w.heap.size,1,none⟩ = some (.int .i64 y1) /\ w'.cell? ⟨w.heap.size,2,none⟩ = some (.int .i64 y2) /\ w'.cell? ⟨w.heap.size,3,none⟩ = some (.int .i64 y3)) 22 rfl (by kernel_rfl) (HC8.out U0.drew bR.drew) (fun hd=>?_);iterate 17 (((refine Jd (v:=?_) rfl (by kernel_rfl) (fun _ _ _ h=>h) ⟨by rfl,?_⟩ hd ?_;rotate_left;· intro w' sw;obtain ⟨hS0,hS1,hS2,hS3,hS4,hS5,hS6,hS7,hS8,hS9,hS10,hS11,hS12,hS13,hS14,hS15⟩:=sw;go_simp;try with_reducible rfl);simp only [zA,zB,zC]))
    refine Jh 17 rfl (by kernel_rfl) rfl (fun K hK=>?_);go_simp;refine (HRO.out _ (Below.refl _ U0).drew).mono ?_;rintro e U1 ⟨g33,rfl,hg9,hb2⟩;have hb3:=JF hb2;have hC9:=HC8.out U1 hb3;have HB1:=zH hb3;have D33:Hid (FRw U1 U0.heap.size g33 p.V (Zt p (y0,y1,y2,y3))):=zH hg9;have HMu:=zH (HMS.out.below hb3);obtain ⟨Z,hrun,hmz,hgz⟩:=HMu.out.update VI YR Tryz.underlying150 (y0,y1,y2,y3) g33 HLQ.out;have HMZ:=zH hmz;have HGZ:=zH hgz;have hme:=HMu.out.block;have HKP:Hid (KpC U1 Z):=zH (Zgz (by obtain ⟨es,c,e1,_⟩:=hme;exact ⟨es,c,e1⟩) hgz);clear hmz hgz HMu hme hg9 hb2 hb3;simp only [ek] at hrun;go_simp;refine hK _ _ hC9 (fun hd=>?_);clear hK K;iterate 3 (((refine Jd (v:=?_) rfl (by kernel_rfl) (fun _ _ _ h=>h) ⟨by rfl,?_⟩ hd ?_;rotate_left;· intro w' sw;obtain ⟨hS0,hS1,hS2,hS3,hS4,hS5,hS6,hS7,hS8,hS9,hS10,hS11,hS12,hS13,hS14,hS15⟩:=sw;go_simp;try with_reducible rfl);simp only [zA,zB,zC]))
    refine Jh 21 rfl (by kernel_rfl) rfl (fun K hK=>?_);go_simp;have hCZ:Z.cell? ⟨gb,0,none⟩ = some (.int .i64 p.Fm) /\ Z.cell? ⟨gb,1,none⟩ = some (.slice p.A p.L.length p.c) /\ Z.cell? ⟨gb,2,none⟩ = some (.int .i64 (p.o:Int)) /\ Z.cell? ⟨gb,3,none⟩ = some (.int .i64 ((p.V:Int) - 1)) /\ Z.cell? ⟨gb,4,none⟩ = some (.slice p.TA p.T.length p.tc) /\ Z.cell? ⟨gb,5,none⟩ = some (.int .i64 p.kd) /\ Z.cell? ⟨gb,6,none⟩ = some (.bool p.x.neg) /\ Z.cell? ⟨gb,7,none⟩ = some (.slice p.x.A p.x.N.length p.x.c) /\ Z.cell? ⟨gb,8,none⟩ = some (.slice p.x.B p.x.D.length p.x.d) /\ Z.cell? ⟨gb,9,none⟩ = some (.slice p.M p.mn p.mc) /\ Z.cell? ⟨gb,10,none⟩ = some (.map (some rb)) /\ Z.cell? ⟨gb,11,none⟩ = some (.slice (some ⟨fb,0,none⟩) fn fn) /\ Z.cell? ⟨w.heap.size,0,none⟩ = some (.int .i64 y0) /\ Z.cell? ⟨w.heap.size,1,none⟩ = some (.int .i64 y1) /\ Z.cell? ⟨w.heap.size,2,none⟩ = some (.int .i64 y2) /\ Z.cell? ⟨w.heap.size,3,none⟩ = some (.int .i64 y3):=by
     obtain ⟨hS0,hS1,hS2,hS3,hS4,hS5,hS6,hS7,hS8,hS9,hS10,hS11,hS12,hS13,hS14,hS15⟩:=hC9;exact ⟨HKP.out.cell hS0,HKP.out.cell hS1,HKP.out.cell hS2,HKP.out.cell hS3,HKP.out.cell hS4,HKP.out.cell hS5,HKP.out.cell hS6,HKP.out.cell hS7,HKP.out.cell hS8,HKP.out.cell hS9,HKP.out.cell hS10,HKP.out.cell hS11,HKP.out.cell hS12,HKP.out.cell hS13,HKP.out.cell hS14,HKP.out.cell hS15⟩
    go_simp;refine hK _ _ hCZ (fun hd=>?_);clear hK K;refine wpAnyH_done (by kernel_rfl) ?_ _;have HKW:Hid (KpC U0 Z):=zH ((KpC.below HB1.out).trans HKP.out);have HBW:Hid (Below base U0 Z):=zH ((HB1.out.mono (by have:=HB0.out.size;omega)).grown HGZ.out (by have:=HB0.out.size;have:=HB1.out.size;omega) (fun k e=>by injection e with e;have:=HLE.out;omega));have HR9:Hid (∀ e ∈ Xr ms (y0,y1,y2,y3) g33,FRw Z base e.2 p.V (Zt p e.1)):=zH (fun e he=>by
     rcases XL he with rfl | he
     ·exact (D33.out.le (by have:=HB0.out.size;omega)).kpc HKP.out
     ·exact (HRW.out e he).kpc HKW.out)
    have HN9:Hid (∀ e ∈ Xr ms (y0,y1,y2,y3) g33,e.2 ≠ w.heap.size + 1):=zH (fun e he=>by
     rcases XL he with rfl | he
     ·have:=D33.out.lt;have:=HR0.out.lt;show g33 ≠ _;omega
     ·exact HLTM.out e he)
    have HG9:Hid (JB (Xr ms (y0,y1,y2,y3) g33) (y0,y1,y2,y3) = some g33):=zH (JJ _ _ _);go_wp2_with fail;go_meet;exact ⟨_,g33,HG9,HMZ,HR9,HN9,HKW,HBW⟩
   ·have HGG:=zH hg;clear hg HCS;go_wp2_with fail;go_meet;exact ⟨ms,g,HGG,HMS,HRW,HLTM,zH (KpC.refl _),zH bR⟩
  case rest=>
   obtain ⟨ms2,g,HG,HM,HR,HNE,HKC,HBC⟩:=hcut;clear HCS HRO HCG;obtain ⟨U2,rfl⟩:∃ X,X = wc:=⟨_,rfl⟩;have hrow:U2.heap[w.heap.size]? = some (.cells (kc (y0,y1,y2,y3)) 127 (0,0)):=HKC.out.row _ _ _ _ HK0.out;have HIu:Hid (GrI U2 p base gb rb fb fn):=zH ⟨HKC.out.row _ _ _ _ HI0.out.box,⟨ms2,HM.out,HR.out⟩,HI0.out.ok.kpc HKC.out,HI0.out.le⟩;have HFB0:Hid (Fb U2 (w.heap.size + 1) JI):=zH (HKC.out.row _ _ _ _ HR0.out);have HRg:Hid (FRw U2 base g p.V (Zt p (y0,y1,y2,y3))):=zH (HR.out _ (JS HG.out));obtain ⟨r,hr,z0,z1,z2⟩:=HRg.out.get hi;have HQ0:=zH hr;have hi':(i:Int) < (p.V:Int):=(by omega);have HC9:Hid (∀ x,Below U2.heap.size U2 x -> x.cell? ⟨gb,10,none⟩ = some (.map (some rb)) /\ x.cell? ⟨w.heap.size,0,none⟩ = some (.int .i64 y0) /\ x.cell? ⟨w.heap.size,1,none⟩ = some (.int .i64 y1) /\ x.cell? ⟨w.heap.size,2,none⟩ = some (.int .i64 y2) /\ x.cell? ⟨w.heap.size,3,none⟩ = some (.int .i64 y3) /\ x.cell? ⟨g,i * 3,none⟩ = some (.bool r.neg) /\ x.cell? ⟨g,i * 3 + 1,none⟩ = some (.slice r.A r.N.length r.c) /\ x.cell? ⟨g,i * 3 + 2,none⟩ = some (.slice r.B r.D.length r.d)):=zH (fun x hx=>by
    obtain ⟨d0,d1,d2,d3,d4,d5,d6,d7,d8,d9,d10,d11⟩:=(HIu.out.below hx).cells;have hh:=(hx.block _ (aE hrow).1).trans hrow;have l2:=HRg.out.lt.2;exact ⟨d10,(cR 0 hh).trans rfl,(cR 1 hh).trans rfl,(cR 2 hh).trans rfl,(cR 3 hh).trans rfl,(hx.cell (p:=⟨g,i * 3,none⟩) l2).trans z0,(hx.cell (p:=⟨g,i * 3 + 1,none⟩) l2).trans z1,(hx.cell (p:=⟨g,i * 3 + 2,none⟩) l2).trans z2⟩)
   have HLK2:Hid (∀ x,Below U2.heap.size U2 x -> (Instr.lookup 150 (.map (some rb)) (.agg #[.int .i64 y0,.int .i64 y1,.int .i64 y2,.int .i64 y3]) false).run Tryz.prog x = .ok (.slice (some ⟨g,0,none⟩) p.V p.V) x):=zH (fun x hx=>by
    have h1:=(HM.out.below hx).lookup VI YR Tryz.underlying150 (Tryz.zeroValue32 x) (y0,y1,y2,y3) HLQ.out;rw [HG.out] at h1;exact h1)
   clear hr z0 z1 z2 hrow;go_upto_region 3 with fail;refine Jb 9 44 rfl (by kernel_rfl) (by kernel_rfl) (by kernel_rfl) (by kernel_rfl) (fun u=>Below U2.heap.size U2 u) (fun u u'=>Below u.heap.size u u') (Gl [isV (.pointer (some ⟨gb,0,none⟩)),isV (.pointer (some ⟨gb,0,none⟩)),isV (.pointer (some ⟨gb,10,none⟩)),isV (.map (some rb)),isV (.agg #[.int .i64 y0,.int .i64 y1,.int .i64 y2,.int .i64 y3]),isV (.slice (some ⟨g,0,none⟩) p.V p.V),isV (.int .i64 (i:Int)),isV (.pointer (some ⟨g,i * 3,none⟩)),isV (r.val)]) (Gl.keepL ⟨Keeps.isV _,Keeps.isV _,Keeps.isV _,Keeps.isV _,Keeps.isV _,Keeps.isV _,Keeps.isV _,Keeps.isV _,Keeps.isV _,trivial⟩) ?_ ?_ ?_
   ·exact (Below.refl _ U2).drew
   ·simp only [List.pop_toArray,List.dropLast,Jj];refine ⟨?_,?_,?_,?_,?_,?_,?_,?_,?_,trivial⟩
    ·intro bb u su dp kp K hK;have e0:gT bb 0 = .pointer (some ⟨gb,0,none⟩):=kp 0 (by kernel_rfl);go_simp;exact hK _ _ su bR rfl
    ·intro bb u su dp kp K hK;have e35:gT bb 35 = .pointer (some ⟨gb,0,none⟩):=dp 0 _ rfl (by kernel_rfl);go_simp;exact hK _ _ su bR rfl
    ·intro bb u su dp kp K hK;have e36:gT bb 36 = .pointer (some ⟨gb,0,none⟩):=dp 1 _ rfl (by kernel_rfl);go_simp;exact hK _ _ su bR rfl
    ·intro bb u su dp kp K hK;have e37:gT bb 37 = .pointer (some ⟨gb,10,none⟩):=dp 2 _ rfl (by kernel_rfl);obtain ⟨d10,c0,c1,c2,c3,q0,q1,q2⟩:=HC9.out u su;go_simp;exact hK _ _ su bR rfl
    ·intro bb u su dp kp K hK;have e4:gT bb 4 = .pointer (some ⟨w.heap.size,0,none⟩):=kp 4 (by kernel_rfl);obtain ⟨d10,c0,c1,c2,c3,q0,q1,q2⟩:=HC9.out u su;go_simp;exact hK _ _ su bR rfl
    ·intro bb u su dp kp K hK;have e38:gT bb 38 = .map (some rb):=dp 3 _ rfl (by kernel_rfl);have e39:gT bb 39 = .agg #[.int .i64 y0,.int .i64 y1,.int .i64 y2,.int .i64 y3]:=dp 4 _ rfl (by kernel_rfl);have hlk:=HLK2.out u su;go_simp;exact hK _ _ su bR rfl
    ·intro bb u su dp kp K hK;have e2:gT bb 2 = .int .i64 (i:Int):=kp 2 (by kernel_rfl);go_simp;exact hK _ _ su bR rfl
    ·intro bb u su dp kp K hK;have e40:gT bb 40 = .slice (some ⟨g,0,none⟩) p.V p.V:=dp 5 _ rfl (by kernel_rfl);have e41:gT bb 41 = .int .i64 (i:Int):=dp 6 _ rfl (by kernel_rfl);go_simp;exact hK _ _ su bR rfl
    ·intro bb u su dp kp K hK;have e42:gT bb 42 = .pointer (some ⟨g,i * 3,none⟩):=dp 7 _ rfl (by kernel_rfl);obtain ⟨d10,c0,c1,c2,c3,q0,q1,q2⟩:=HC9.out u su;go_simp;exact hK _ _ su bR rfl
   ·intro bb v hN hdf su hG sm;have e43:gT bb 43 = r.val:=hG 8 _ rfl;rw [Ju bb _ [false,false,false,false,false,false,false,false,false,false,false,false,false,false,false,false,false,false,false,false,false,false,false,false,false,false,false,false,false,false,false,false,false,false,false,true,true,true,true,true,true,true,true,true] _ rfl hN rfl (by kernel_rfl) hdf sm];simp only [Y2,Nat.reduceAdd,e43];clear e43 hG sm hN hdf;generalize bb.tmps.getD 35 undef = z35,bb.tmps.getD 36 undef = z36,bb.tmps.getD 37 undef = z37,bb.tmps.getD 38 undef = z38,bb.tmps.getD 39 undef = z39,bb.tmps.getD 40 undef = z40,bb.tmps.getD 41 undef = z41,bb.tmps.getD 42 undef = z42;have HKC:=zH (HKC.out.trans (KpC.below su));have HBC:Hid (Below base U0 v):=zH (HBC.out.trans (su.mono (by have:=HB0.out.size;have:=HBC.out.size;omega)));have HIu:=zH (HIu.out.below su);have HFB:=zH (HFB0.out.below su);have HQ:=zH (HQ0.out.below su);have HM:=zH (HM.out.below su);have HR:Hid (∀ e ∈ ms2,FRw v base e.2 p.V (Zt p e.1)):=zH (fun e he=>(HR.out e he).below su);obtain ⟨k0,k1,k2,f0,f1,f2⟩:=HFB.out.facts;clear su HC9 HLK2 HFB0 HQ0 HRg;obtain ⟨Z,hZ⟩:∃ Z,Z = ((v.setCell ⟨w.heap.size + 1,0,none⟩ (.bool r.neg)).setCell ⟨w.heap.size + 1,1,none⟩ (.slice r.A r.N.length r.c)).setCell ⟨w.heap.size + 1,2,none⟩ (.slice r.B r.D.length r.d):=⟨_,rfl⟩;have hkk:∀ b,b ≠ w.heap.size + 1 -> Z.heap[b]? = v.heap[b]?:=fun b hb=>by rw [hZ];exact JR hb _ _ _
    have hzs:v.heap.size <= Z.heap.size:=(by rw [hZ];simp [World.setCell]);have HQ9:Hid (Fq Z r (Zt p (y0,y1,y2,y3) i)):=zH (by rw [hZ];exact HQ.out.rowed HFB.out _ _ _);have HF9:Hid (Fb Z (w.heap.size + 1) r):=zH (by rw [hZ];exact HFB.out.put);have HKZ:Hid (KpC w Z):=zH ⟨by have:=HB0.out.size;have:=HKC.out.size;omega,fun b cs t fr e=>by
     have hb:=(aE e).1;exact (hkk b (by omega)).trans (HKC.out.row b cs t fr ((HB0.out.block b hb).trans e))⟩
    have HBZ:Hid (Below base w Z):=zH (by rw [hZ];exact Jf (HBS.out.trans HBC.out) (by omega) _ _ _);have hku:KU v Z:=by
     rw [hZ];obtain ⟨q0,q1,q2,-,-,-⟩:=HFB.out.facts;refine ((KU.set q0 (by simp [Za]) _).trans (KU.set (v0:=.slice none 0 0) ?_ (by simp [Za]) _)).trans (KU.set (v0:=.slice none 0 0) ?_ (by simp [Za]) _)
     ·rw [World.cell?_setCell_other _ _ _ _ (by simp)];exact q1
     ·rw [World.cell?_setCell_other _ _ _ _ (by simp),World.cell?_setCell_other _ _ _ _ (by simp)];exact q2
    have hmr:rb ≠ w.heap.size + 1:=fun e=>by
     obtain ⟨es,cl,h1,_⟩:=HM.out.block;rw [e,show v.heap[w.heap.size + 1]? = _ from HFB.out] at h1;cases h1
    have HIZ:Hid (GrI Z p base gb rb fb fn):=zH ⟨(hkk gb (by omega)).trans HIu.out.box,⟨ms2,HM.out.same (hkk rb hmr),fun e he=>(HR.out e he).ku (hkk _ (HNE.out e he)) hku⟩,HOK.out.kpc HKZ.out,HIu.out.le⟩;clear hku hmr hkk;refine PopQ.last rfl rfl (fun K hK=>?_);go_simp;refine hK _ _ ?_;clear hK K k0 k1 k2 f0 f1 f2;rw [<- hZ];clear hZ;obtain ⟨g0,g1,g2⟩:=Yn HF9.out;go_wp2_with fail;refine bodyPost_ret (v:=.agg #[.bool r.neg,.slice r.A r.N.length r.c,.slice r.B r.D.length r.d]) (by simp [results,Tryz.results79,go_sem,g0,g1,g2]) rfl ?_;exact ⟨r,rfl,HQ9.out,HIZ.out,HKZ.out,HBZ.out⟩
def Ub (m:Nat) (k:K4) (x:Int):K4:=match m with
 | 0=>k
 | 1=>(x,k.2.1,k.2.2.1,k.2.2.2)
 | 2=>(k.2.1,x,k.2.2.1,k.2.2.2)
 | _=>(k.2.1,k.2.2.1,x,k.2.2.2)
def shK (m:Nat) (k:K4):K4:=match m with
 | 1=>k
 | 2=>(k.2.1,k.2.1,k.2.2.1,k.2.2.2)
 | _=>(k.2.1,k.2.2.1,k.2.2.1,k.2.2.2)
theorem ZhG (m:Nat) (hm : 1 <= m /\ m <= 3) (k:K4) (x:Int):ZaD (shK m k) (m - 1) x = Ub m k x:=by
 rcases (show m = 1 ∨ m = 2 ∨ m = 3 by omega) with rfl | rfl | rfl <;> rfl
theorem Zgq {m V:Nat} {k:K4} {x:Int} (h:pOk V k) (hx : 0 <= x /\ x <= (V:Int) - 1):pOk V (Ub m k x):=by
 obtain ⟨h1,h2,h3,h4⟩:=h;rcases m with _ | _ | _ | m
 ·exact ⟨h1,h2,h3,h4⟩
 ·exact ⟨hx,h2,h3,h4⟩
 ·exact ⟨h2,hx,h3,h4⟩
 ·exact ⟨h2,h3,hx,h4⟩
theorem ZaS (w:World) (g:Nat) (cs:Array Value) {b:Nat} (hb:b ≠ g):(w.setRow g cs).heap[b]? = w.heap[b]?:=by
 unfold World.setRow;show (w.heap.modify g _)[b]? = _;rw [Array.getElem?_modify,if_neg (Ne.symm hb)]
theorem ZdK (k:K4) (m:Nat) (hm : 1 <= m /\ m <= 3) (u:World) (kb:Nat) (t:TypeId) (hk:u.heap[kb]? = some (.cells (kc k) t (0,0))) (ty:TypeId) :
  ∃ x u',(Builtin.copy_ #[35,35] ty #[.slice (some ⟨kb,0,none⟩) m 4,.slice (some ⟨kb,1,none⟩) (m - 1) 3]).run Tryz.prog u = .ok x u' /\ u'.heap[kb]? = some (.cells (kc (shK m k)) t (0,0)) /\ Below kb u u' /\ (∀ b,b ≠ kb -> u'.heap[b]? = u.heap[b]?):=by
 have hsz:(Tryz.prog.info? 3).map (·.size) = some 1:=by kernel_rfl
 by_cases h1:m = 1
 ·subst h1;have:=run_copy_none (P:=Tryz.prog) u 35 35 ty 3 (some ⟨kb,0,none⟩) (some ⟨kb,1,none⟩) 1 4 0 3 Tryz.underlying35 hsz (by simp);exact ⟨_,u,this,hk,Below.refl _ _,fun _ _=>rfl⟩
 ·obtain ⟨cs,hcs⟩:∃ cs:List Value,cs = (((kc k).toList.drop 1).take (m - 1)):=⟨_,rfl⟩;have hl:cs.length = m - 1:=by rw [hcs];simp [kc];omega
  have:=run_copy_row (P:=Tryz.prog) u 35 35 ty 3 kb 0 m 4 ⟨kb,1,none⟩ (m - 1) 3 (kc k) t cs Tryz.underlying35 hsz hk (by rw [hl];simp) (fun j v hj=>by
   have ea:(⟨kb,1,none⟩:Addr).add j = ⟨kb,1 + j,none⟩:=(by simp [Addr.add]);rw [ea];rw [cell_of_row u kb (1 + j) _ _ _ hk];rw [hcs,List.getElem?_take] at hj;split at hj
   ·rw [List.getElem?_drop] at hj;simpa using hj
   ·cases hj) (by rw [hl];simp [kc];omega) (fun v hv=>by
   rw [hcs] at hv;have:=List.mem_of_mem_drop (List.mem_of_mem_take hv);simp [kc] at this;rcases this with rfl | rfl | rfl | rfl <;> rfl)
  refine ⟨_,_,this,?_,below_setRow bR nR _,fun b hb=>ZaS u kb _ hb⟩;rw [setRow_heap u kb _ _ _ _ hk,hcs];obtain ⟨k0,k1,k2,k3⟩:=k;rcases (show m = 2 ∨ m = 3 by omega) with rfl | rfl <;> simp [kc,shK]
theorem QL {W:World} {k:Nat} {a b c d:Int} {t:TypeId} (h:W.heap[k]? = some (.cells (kc (a,b,c,d)) t (0,0))):W.cell? ⟨k,0,none⟩ = some (.int .i64 a) /\ W.cell? ⟨k,1,none⟩ = some (.int .i64 b) /\ W.cell? ⟨k,2,none⟩ = some (.int .i64 c) /\ W.cell? ⟨k,3,none⟩ = some (.int .i64 d):=
 ⟨(cR 0 h).trans rfl,(cR 1 h).trans rfl,(cR 2 h).trans rfl,(cR 3 h).trans rfl⟩
theorem ZeV (o:Nat) (gb:Nat) (h:K4) (x:Int) (w:World) (ho : 1 <= o /\ o <= 4) (hc:w.cell? ⟨gb,2,none⟩ = some (.int .i64 (o:Int))) :
  Calls Tryz.prog 133 #[.pointer (some ⟨gb,0,none⟩),ek h,.int .i64 x] w (fun e w'=>e = .returned (ek (Ub (o - 1) h x)) /\ Below w.heap.size w w'):=by
 obtain ⟨W0,hW0⟩:∃ X:World,X = (w.alloc (.cells (kc h) 127)).alloc (.cells (kc (0,0,0,0)) 127):=⟨_,rfl⟩;have HB0:Hid (Below w.heap.size w W0):=zH (by rw [hW0];exact al2 w _ _);have HK0:Hid (W0.heap[w.heap.size]? = some (.cells (kc h) 127 (0,0))):=zH (by rw [hW0];exact (YZ _ _ _).trans (heap_alloc_new w _));have HR0:Hid (W0.heap[w.heap.size + 1]? = some (.cells (kc (0,0,0,0)) 127 (0,0))):=zH (by rw [hW0];exact Zg _ _ _ _);have hgw:gb < w.heap.size:=JW hc;have d2:W0.cell? ⟨gb,2,none⟩ = some (.int .i64 (o:Int)):=(HB0.out.cell (p:=⟨gb,2,none⟩) hgw).trans hc;obtain ⟨m,hm⟩:∃ m,m = o - 1:=⟨_,rfl⟩;rw [<- hm];have p1:IntKind.i64.wrap ((o:Int) - 1) = (m:Int):=by rw [IntWalk.i64_in _ (by omega)];omega
 have hm3:m <= 3:=by omega
 clear hc hm;obtain ⟨y0,y1,y2,y3⟩:=h;simp only [kc] at hW0;simp only [ek];go_enter Tryz.func133,Tryz.ntmps133;go_upto_region 1 with fail;rw [<- hW0];clear hW0;obtain ⟨kb,hkb⟩:∃ kb,kb = w.heap.size:=⟨_,rfl⟩;rw [<- hkb] at HK0 HR0 HB0 hgw ⊢
 -- the end,from whatever history
 have HEND:Hid (∀ (V:World) (z:K4),V.heap[kb]? = some (.cells (kc z) 127 (0,0)) -> V.heap[kb + 1]? = some (.cells (kc (0,0,0,0)) 127 (0,0)) -> Below kb w V -> ∃ Z:World,Z = ((((V.setCell ⟨kb + 1,0,none⟩ (.int .i64 z.1)).setCell ⟨kb + 1,1,none⟩ (.int .i64 z.2.1)).setCell ⟨kb + 1,2,none⟩ (.int .i64 z.2.2.1)).setCell ⟨kb + 1,3,none⟩ (.int .i64 z.2.2.2)) /\ Z.heap[kb + 1]? = some (.cells (kc z) 127 (0,0)) /\ Below kb w Z):=zH (fun V z h1 h2 hb=>by
  refine ⟨_,rfl,?_,(((hb.setCell (by simp) _).setCell (by simp) _).setCell (by simp) _).setCell (by simp) _⟩;exact (JT (JT (JT (JT h2 0 _) 1 _) 2 _) 3 _).trans rfl)
 have HKB:=zH hkb;have hwk:w.heap.size <= kb:=by omega
 clear hkb;by_cases hm0:m = 0
 ·subst hm0;obtain ⟨Z,hZ,hz,hb⟩:=HEND.out W0 (y0,y1,y2,y3) HK0.out HR0.out HB0.out;have HZ:=zH hz;have HBZ:=zH hb;obtain ⟨c0,c1,c2,c3⟩:=QL HK0.out;obtain ⟨q0,q1,q2,q3⟩:=QL HR0.out;have f0:=Jl HR0.out 0;have f1:=Jl HR0.out 1;have f2:=Jl HR0.out 2;have f3:=Jl HR0.out 3;obtain ⟨g0,g1,g2,g3⟩:=QL HZ.out;clear hz hb;simp only at hZ;go_wp2_with fail;rw [<- hZ];refine bodyPost_ret (v:=.agg #[.int .i64 y0,.int .i64 y1,.int .i64 y2,.int .i64 y3]) (by simp [results,Tryz.results133,go_sem,g0,g1,g2,g3]) rfl ?_;exact ⟨rfl,by rw [<- HKB.out];exact HBZ.out⟩
 ·have hmi:(0:Int) < (m:Int):=by omega
  have hmi1:(1:Int) <= (m:Int):=by omega
  have hmi4:(m:Int) <= 4:=by omega
  obtain ⟨j,hj⟩:∃ j,m = j + 1:=⟨m - 1,by omega⟩;have p2:IntKind.i64.wrap ((m:Int) - 1) = (j:Int):=by rw [IntWalk.i64_in _ (by omega)];omega
  have hj4:(j:Int) < 4:=by omega
  obtain ⟨xc,u',hrun,h1,h2,h3⟩:=ZdK (y0,y1,y2,y3) m (by omega) W0.drew kb _ HK0.out 3;have H1:=zH h1;have H2:Hid (Below kb w u'):=zH (HB0.out.drew.trans h2);have H3:Hid (u'.heap[kb + 1]? = some (.cells (kc (0,0,0,0)) 127 (0,0))):=zH ((h3 _ (by omega)).trans HR0.out);have HJ:=zH hj;clear h1 h2 h3 hj;go_upto_region 3 with fail;have k1:u'.cell? ⟨kb,j,none⟩ = some (.int .i64 (kat (shK m (y0,y1,y2,y3)) j)):=(cell_of_row _ _ j _ _ _ H1.out).trans (Zh9 _ (by omega));have f1:u'.frozen? ⟨kb,j,none⟩ = false:=Jl H1.out j;obtain ⟨U5,hU5⟩:∃ X,X = u'.setCell ⟨kb,j,none⟩ (.int .i64 x):=⟨_,rfl⟩;obtain ⟨z,hz⟩:∃ z,z = Ub m (y0,y1,y2,y3) x:=⟨_,rfl⟩;have G1:Hid (U5.heap[kb]? = some (.cells (kc z) 127 (0,0))):=zH (by
   rw [hU5,hz,<- ZhG m (by omega),show m - 1 = j by have:=HJ.out;omega,<- Zhg _ (by omega)];exact JT H1.out j _)
  have G2:Hid (U5.heap[kb + 1]? = some (.cells (kc (0,0,0,0)) 127 (0,0))):=zH (by rw [hU5];exact (Below.heap_setCell _ _ _ _ (by simp)).trans H3.out);have G3:Hid (Below kb w U5):=zH (by rw [hU5];exact H2.out.setCell nR _);have HZE:=zH hz;clear hz;go_region;clear hrun;go_upto_region 5 with fail;rw [<- hU5];clear hU5 k1 f1;obtain ⟨z0,z1,z2,z3⟩:=z;obtain ⟨Z,hZ,hz,hb⟩:=HEND.out U5 (z0,z1,z2,z3) G1.out G2.out G3.out;have HZ:=zH hz;have HBZ:=zH hb;obtain ⟨c0,c1,c2,c3⟩:=QL G1.out;obtain ⟨q0,q1,q2,q3⟩:=QL G2.out;have f0:=Jl G2.out 0;have f1:=Jl G2.out 1;have f2:=Jl G2.out 2;have f3:=Jl G2.out 3;obtain ⟨g0,g1,g2,g3⟩:=QL HZ.out;clear hz hb;simp only at hZ;go_wp2_with fail;rw [<- hZ];refine bodyPost_ret (v:=.agg #[.int .i64 z0,.int .i64 z1,.int .i64 z2,.int .i64 z3]) (by simp [results,Tryz.results133,go_sem,g0,g1,g2,g3]) rfl ?_;exact ⟨by rw [<- HZE.out],by rw [<- HKB.out];exact HBZ.out⟩
end Go.Proofs.YtlgdlenoohkipaaGreat
