/- TalkHears -/
import Derived.Test.YtcjicjfbippmnaaGreatMTHear36
set_option maxRecDepth 100000
set_option maxHeartbeats 32000000
namespace Go.Proofs.YtcjicjfbippmnaaGreat
open Go.RowKit Ear

theorem Zd5 (A:Option Addr) (c:Nat) (Ss:List SlM) (Ps:List PSl) (pat prm need:Int) (w:World) (h:PlM w A Ss Ps) (hsz:Hid (∀ s ∈ Ss,s.nm.size <= 1000000 /\ ∀ v ∈ s.vs,v.size <= 1000000)) (hvl:Hid (∀ s ∈ Ss,s.vs.length <= 1000000)) (hfw:Hid (∀ s ∈ Ss,Few s.L 40000 /\ Few s.S 40000)) (hn6:Ss.length <= 1000000) (r:Bool) (hr:Hid (Zq pat prm need Ps = r)) :
  Calls Tryz.prog 30 #[.agg #[.slice A Ss.length c,.int .i64 pat,.int .i64 prm,.int .i64 need]] w (Qp r w):=by
 have hln0:=h.len;by_cases hh:XC Ss.length pat prm need
 ·obtain ⟨h1,h2,h3,h4,h5,h6,h7,h8⟩:=hh;have HLN:=zH hln0;clear hln0;obtain ⟨W0,hW0⟩:∃ W0:World,W0 = w.alloc (.cells #[.slice A Ss.length c,.int .i64 pat,.int .i64 prm,.int .i64 need] 48):=⟨_,rfl⟩;have HB0:Hid (Below w.heap.size w W0):=zH (by rw [hW0];exact bR.alloc nR _);have HX0:Hid (W0.heap[w.heap.size]? = some (.cells #[.slice A Ss.length c,.int .i64 pat,.int .i64 prm,.int .i64 need] 48 (0,0))):=zH (by rw [hW0];exact Wg w _);have hws:w.heap.size < W0.heap.size:=(aE HX0.out).1;have HPL:=zH (h.below HB0.out);have c0:W0.cell? ⟨w.heap.size,0,none⟩ = some (.slice A Ss.length c):=(cR 0 HX0.out).trans rfl;have c1:W0.cell? ⟨w.heap.size,1,none⟩ = some (.int .i64 pat):=(cR 1 HX0.out).trans rfl;have c2:W0.cell? ⟨w.heap.size,2,none⟩ = some (.int .i64 prm):=(cR 2 HX0.out).trans rfl;have c3:W0.cell? ⟨w.heap.size,3,none⟩ = some (.int .i64 need):=(cR 3 HX0.out).trans rfl;obtain ⟨i0,hi0,hz0,hz1,hz2⟩:=WaI Yt;have TI:=zH hi0;have TZ0:=zH hz0;have TZ1:=zH hz1;have TZ2:=zH hz2;clear h hi0 hz0 hz1 hz2;go_enter Tryz.func30,Tryz.ntmps30;go_upto_region 1 with fail;rw [<- hW0];clear hW0;have h1':(1:Int) <= (Ss.length:Int):=by omega
  have h2':(Ss.length:Int) <= 20:=by omega
  have n1:¬ (Ss.length:Int) < 1:=by omega
  have n2:¬ (20:Int) < (Ss.length:Int):=by omega
  have n3:¬ pat < 0:=by omega
  have n4:¬ 100 < pat:=by omega
  have n5:¬ prm < 0:=by omega
  have n6:¬ 10000 < prm:=by omega
  have n7:¬ need < 0:=by omega
  have n8:¬ prm < need:=by omega
  have HR:Hid (r = Uu [] [] Ps):=zH (by
   rw [<- hr.out,Zhq];rw [Wi (by rw [<- HLN.out];exact ⟨h1,h2,h3,h4,h5,h6,h7,h8⟩)];rfl)
  clear hr;have H2:Hid (TwoS W0.heap.size none none 0 0 [] [] W0):=zH ⟨WJ _ _ _ _,WJ _ _ _ _,fun k hk=>by cases hk⟩;go_wp2_with fail;clear c1 c2 c3;go_loopw [3,4,5,6,7,8] (fun t3 t4 t _ _ _ wr=>∃ (k:Nat) (NA VA:Option Addr) (nc vc:Nat) (names values:List BA),k <= Ss.length /\ t = .int .i64 k /\ t3 = .slice NA names.length nc /\ t4 = .slice VA values.length vc /\ Hid (names.length = k) /\ values.length <= 50 * k /\ Hid (TwoS W0.heap.size NA VA nc vc names values wr) /\ Hid (r = Uu names values (Ps.drop k)) /\ Hid (Below W0.heap.size W0 wr)) (fun _ _ t _ _ _ _=>Ss.length - (intOf t).toNat)
  case atStart=>exact ⟨0,none,none,0,0,[],[],by omega,rfl,rfl,rfl,zH rfl,by simp,H2,HR,zH bR⟩
  case round=>
   obtain ⟨k,NA,VA,nc,vc,names,values,hk,rfl,rfl,rfl,hnl,hvl5,HT,HRk,HBk⟩:=hrel;have hnk:names.length <= k:=(by rw [hnl.out];exact WK _);clear HR H2;obtain ⟨Wr,rfl⟩:∃ X,X = wr:=⟨_,rfl⟩;have hsr:W0.heap.size <= Wr.heap.size:=HBk.out.size;have c0r:=(HBk.out.cell (p:=⟨w.heap.size,0,none⟩) hws).trans c0;have HWk:Hid (Below w.heap.size w Wr):=zH (HB0.out.trans (HBk.out.mono HB0.out.size));by_cases hlt:k < Ss.length
   ·have hlt':(k:Int) < (Ss.length:Int):=(by omega);have hltP:k < Ps.length:=(by rw [<- HLN.out];exact hlt);obtain ⟨ba,off,rfl,hba,hcell⟩:=(HPL.out.below HBk.out).at_ hlt;have HOK0:=zH (HPL.out.ok k _ _ (gE hlt) (gE hltP));have HOK:=zH (HPL.out.ok k _ _ (gE hlt) (gE hltP));have HSZ:=zH (hsz.out _ (gM hlt));have HVL:=zH (hvl.out _ (gM hlt));have HFW:=zH (hfw.out _ (gM hlt));have HDR:Hid (Ps.drop k = Ps[k] :: Ps.drop (k + 1)):=zH (Wv hltP);generalize Ss[k] = s at *
    generalize Ps[k] = p at *
    have k0:=hcell 0 _ rfl;have k1:=hcell 1 _ rfl;have k2:=hcell 2 _ rfl;have k3:=hcell 3 _ rfl;have k4:=hcell 4 _ rfl;have k5:=hcell 5 _ rfl;have k6:=hcell 6 _ rfl;have k7:=hcell 7 _ rfl;rw [WaV] at k0;clear hcell;obtain ⟨pn,pv,ple,psu⟩:=p;have hn1:=HOK0.out.nm;have hn2:=HOK0.out.vs;simp only at hn1 hn2;subst hn1 hn2;have hvl6:=HVL.out;obtain ⟨V,hV⟩:∃ V:World,V = Wr.alloc (.cells #[.string s.nm,.slice s.A s.vs.length s.c,.bool s.L.neg,.slice s.L.A s.L.N.length s.L.c,.slice s.L.B s.L.D.length s.L.d,.bool s.S.neg,.slice s.S.A s.S.N.length s.S.c,.slice s.S.B s.S.D.length s.S.d] 79):=⟨_,rfl⟩;have HBV:Hid (Below Wr.heap.size Wr V):=zH (by rw [hV];exact bR.alloc nR _);have HXV:Hid (V.heap[Wr.heap.size]? = some (.cells #[.string s.nm,.slice s.A s.vs.length s.c,.bool s.L.neg,.slice s.L.A s.L.N.length s.L.c,.slice s.L.B s.L.D.length s.L.d,.bool s.S.neg,.slice s.S.A s.S.N.length s.S.c,.slice s.S.B s.S.D.length s.S.d] 79 (0,0))):=zH (by rw [hV];exact Wg Wr _);have hwv:Wr.heap.size < V.heap.size:=(aE HXV.out).1;have HCC:Hid (∀ u,Below V.heap.size V u -> u.cell? ⟨Wr.heap.size,0,none⟩ = some (.string s.nm) /\ u.cell? ⟨Wr.heap.size,1,none⟩ = some (.slice s.A s.vs.length s.c) /\ u.cell? ⟨Wr.heap.size,2,none⟩ = some (.bool s.L.neg) /\ u.cell? ⟨Wr.heap.size,3,none⟩ = some (.slice s.L.A s.L.N.length s.L.c) /\ u.cell? ⟨Wr.heap.size,4,none⟩ = some (.slice s.L.B s.L.D.length s.L.d) /\ u.cell? ⟨Wr.heap.size,5,none⟩ = some (.bool s.S.neg) /\ u.cell? ⟨Wr.heap.size,6,none⟩ = some (.slice s.S.A s.S.N.length s.S.c) /\ u.cell? ⟨Wr.heap.size,7,none⟩ = some (.slice s.S.B s.S.D.length s.S.d)):=zH (fun u hu=>by
     have hh:=(hu.block _ hwv).trans HXV.out;exact ⟨(cR 0 hh).trans rfl,(cR 1 hh).trans rfl,(cR 2 hh).trans rfl,(cR 3 hh).trans rfl,(cR 4 hh).trans rfl,(cR 5 hh).trans rfl,(cR 6 hh).trans rfl,(cR 7 hh).trans rfl⟩)
    have HTV:=zH (HT.out.below HBV.out);have HOV:=zH (HOK.out.below (HBk.out.trans (HBV.out.mono hsr)));have HWV:Hid (Below w.heap.size w V):=zH (HWk.out.trans (HBV.out.mono HWk.out.size));have H0V:Hid (Below W0.heap.size W0 V):=zH (HBk.out.trans (HBV.out.mono hsr));go_upto_region 8 with fail;rw [<- hV];clear hV k0 k1 k2 k3 k4 k5 k6 k7 c0r;obtain ⟨b0,b1,b2,b3,b4,b5,b6,b7⟩:=HCC.out V bR;have C1:=zH (Zbh s.nm V (by have:=HSZ.out.1;omega) (Xd s.nm) (zH rfl));have HB2:Hid (∀ h:¬ Zat names ⟨s.nm,s.vs,ple,psu⟩,r = false):=zH (fun h=>by rw [HRk.out,HDR.out];exact Zes h);by_cases g1:Xd s.nm = true;rotate_left
    ·obtain rfl:=HB2.out (fun h=>g1 h.1);rw [WQ.2 g1] at C1;clear g1 HRk HB2;go_wp2_with fail;refine C1.out.mono ?_;rintro e w1 ⟨rfl,rfl⟩;go_wp2_with fail;go_ret;exact ⟨rfl,HWV.out⟩
    have G1:=zH g1;rw [g1] at C1;clear g1;have C2:=zH (Y7 NA nc names s.nm V (Lies.of_own HTV.out.n) (by omega) (decide (s.nm ∈ names)) (zH rfl));by_cases g2:s.nm ∈ names
    ·obtain rfl:=HB2.out (fun h=>h.2.1 g2);rw [Wi g2] at C2;clear g2 HRk HB2;go_wp2_with fail;refine C1.out.mono ?_;rintro e w1 ⟨rfl,rfl⟩;go_wp2_with fail;refine C2.out.mono ?_;rintro e w1 ⟨rfl,rfl⟩;go_wp2_with fail;go_ret;exact ⟨rfl,HWV.out⟩
    have G2:=zH g2;rw [dF g2] at C2;clear g2;by_cases g5 : 1 <= s.vs.length;rotate_left
    ·obtain rfl:=HB2.out (fun h=>g5 h.2.2.1);have q5:(s.vs.length:Int) < 1:=(by omega);clear g5 HRk HB2;go_wp2_with fail;refine C1.out.mono ?_;rintro e w1 ⟨rfl,rfl⟩;go_wp2_with fail;refine C2.out.mono ?_;rintro e w1 ⟨rfl,rfl⟩;go_wp2_with fail;go_ret;exact ⟨rfl,HWV.out⟩
    have G5:=zH g5;have q5:¬ (s.vs.length:Int) < 1:=(by omega);clear g5;by_cases g6:s.vs.length <= 50;rotate_left
    ·obtain rfl:=HB2.out (fun h=>g6 h.2.2.2.1);have q6:(50:Int) < (s.vs.length:Int):=(by omega);clear g6 HRk HB2;go_wp2_with fail;refine C1.out.mono ?_;rintro e w1 ⟨rfl,rfl⟩;go_wp2_with fail;refine C2.out.mono ?_;rintro e w1 ⟨rfl,rfl⟩;go_wp2_with fail;go_ret;exact ⟨rfl,HWV.out⟩
    have G6:=zH g6;have q6:¬ (50:Int) < (s.vs.length:Int):=(by omega);clear g6;go_wp2_with fail;refine C1.out.mono ?_;rintro e w1 ⟨rfl,rfl⟩;go_wp2_with fail;refine C2.out.mono ?_;rintro e w1 ⟨rfl,rfl⟩;clear C1 C2;go_wp2_with fail;refine (Xn s.L ple w1 HOV.out.L HFW.out.1 (Xp ple) (zH rfl)).mono ?_;rintro e V1 ⟨rfl,hb1⟩;have HD1:Hid (Below w1.heap.size w1 V1):=zH hb1;clear hb1 b0 b1 b2 b3 b4 b5 b6 b7;obtain ⟨b0,b1,b2,b3,b4,b5,b6,b7⟩:=HCC.out V1 HD1.out;by_cases g7:Xp ple = true;rotate_left
    ·obtain rfl:=HB2.out (fun h=>g7 h.2.2.2.2.1);rw [WQ.2 g7];clear g7 HRk HB2;go_wp2_with fail;go_ret;exact ⟨rfl,HWV.out.trans (HD1.out.mono HWV.out.size)⟩
    have G7:=zH g7;rw [g7];clear g7;go_wp2_with fail;refine (Xn s.S psu V1 (HOV.out.S.below HD1.out) HFW.out.2 (Xp psu) (zH rfl)).mono ?_;rintro e V2 ⟨rfl,hb2⟩;have HD2:=zH (HD1.out.trans (hb2.mono HD1.out.size));clear hb2 b0 b1 b2 b3 b4 b5 b6 b7;obtain ⟨b0,b1,b2,b3,b4,b5,b6,b7⟩:=HCC.out V2 HD2.out;by_cases g8:Xp psu = true;rotate_left
    ·obtain rfl:=HB2.out (fun h=>g8 h.2.2.2.2.2.1);rw [WQ.2 g8];clear g8 HRk HB2;go_wp2_with fail;go_ret;exact ⟨rfl,HWV.out.trans (HD2.out.mono HWV.out.size)⟩
    have G8:=zH g8;rw [g8];clear g8;go_wp2_with fail;refine (Zp s.L s.S ple psu V2 (HOV.out.L.below HD2.out) (HOV.out.S.below HD2.out) HFW.out.1 HFW.out.2 (XH (ple + -psu)) (zH rfl)).mono ?_;rintro e V3 ⟨rfl,hb3⟩;have HD3:=zH (HD2.out.trans (hb3.mono HD2.out.size));clear hb3 b0 b1 b2 b3 b4 b5 b6 b7;obtain ⟨b0,b1,b2,b3,b4,b5,b6,b7⟩:=HCC.out V3 HD3.out;by_cases g9:¬ 0 < XH (ple + -psu);rotate_left
    ·obtain rfl:=HB2.out (fun h=>g9 h.2.2.2.2.2.2);have q9 : 0 < XH (ple + -psu):=Wb1.1 g9;clear g9 HRk HB2;go_wp2_with fail;go_ret;exact ⟨rfl,HWV.out.trans (HD3.out.mono HWV.out.size)⟩
    have HSL:Hid (Zat names ⟨s.nm,s.vs,ple,psu⟩):=zH ⟨G1.out,G2.out,G5.out,G6.out,G7.out,G8.out,g9⟩;have HT3:=zH (HTV.out.below HD3.out);have HB3:=zH (H0V.out.trans (HD3.out.mono H0V.out.size));have h63:=HB3.out.size;have HVS:=zH (HOV.out.lies.below HD3.out);have hnm20:k <= 20:=(by omega);clear HTV HOV HOK HB2 G1 G2 G5 G7 G8 HT HBk;go_wp2_with (at_builtin;refine Jf _ rfl (.tmp 105) (.tmp 108) _ rfl W0.heap.size 9 i0 _ 1 16 Tryz.underlying74 TI.out TZ0.out TZ1.out TZ2.out rfl (by omega) (.slice NA names.length nc) names.length (sbs names) rfl (HT3.out.n.alloc _) (some ⟨V3.heap.size,0,none⟩) 1 1 [.string s.nm] rfl (fun e=>by cases e) (Yh _ _ _) (by simp) (by simp [Value.oneCell']) (by unfold maxLen;omega) (by omega) (by simp;omega) (names.length + 1) rfl ?_;intro NA4 nc4 V4 ho4 hg4 hn4);have hbn:Below V3.heap.size V3 (V3.alloc (.cells #[.string s.nm] 9)):=bR.alloc nR _;rw [Jm] at hg4;rw [Jm,Jm] at hn4;have HT4:Hid (TwoS W0.heap.size NA4 VA nc4 vc (names ++ [s.nm]) values V4):=zH ((HT3.out.below hbn).addN ho4 hg4 hn4);have HX4:Hid (V4.heap[Wr.heap.size]? = some (.cells #[.string s.nm,.slice s.A s.vs.length s.c,.bool s.L.neg,.slice s.L.A s.L.N.length s.L.c,.slice s.L.B s.L.D.length s.L.d,.bool s.S.neg,.slice s.S.A s.S.N.length s.S.c,.slice s.S.B s.S.D.length s.S.d] 79 (0,0))):=zH ((HT3.out.below hbn).keepN hg4 ((hbn.block _ (Wk hwv HD3.out.size)).trans ((HD3.out.block _ hwv).trans HXV.out)) (by decide));have HB4:Hid (Below W0.heap.size W0 V4):=zH ((HB3.out.trans (hbn.mono HB3.out.size)).grown hg4 (by simp;omega) (fun k hk=>((HT3.out.below hbn).n.lt k (by rw [Jm];exact hk)).1));have HLS:Hid (s.nm.size <= 1000000 /\ ∀ v ∈ s.vs,v.size <= 1000000):=HSZ;have HVS4:Hid (Lies V4 s.A (sbs s.vs)):=zH (HOK0.out.lies.below HB4.out);have HVG:Hid (Yz values (s.vs.take 0) = some values):=zH rfl;have h64:=HB4.out.size;have h65:Wr.heap.size < V4.heap.size:=(aE HX4.out).1;have h66:=G6.out;clear ho4 hg4 hn4 hbn HVS HT3 HB3 HXV HCC HD1 HD2 HD3 HBV H0V HWV b0 b1 b2 b3 b4 b5 b6 b7;go_wp2_with fail;go_loopw [4,7,8] (fun t4 t _ wr=>∃ (j:Nat) (VB:Option Addr) (vd:Nat) (seen:List BA),j <= s.vs.length /\ t = .int .i64 j /\ t4 = .slice VB seen.length vd /\ seen.length <= 50 * k + j /\ Hid (TwoS W0.heap.size NA4 VB nc4 vd (names ++ [s.nm]) seen wr) /\ Hid (Yz values (s.vs.take j) = some seen) /\ Hid (wr.heap[Wr.heap.size]? = some (.cells #[.string s.nm,.slice s.A s.vs.length s.c,.bool s.L.neg,.slice s.L.A s.L.N.length s.L.c,.slice s.L.B s.L.D.length s.L.d,.bool s.S.neg,.slice s.S.A s.S.N.length s.S.c,.slice s.S.B s.S.D.length s.S.d] 79 (0,0))) /\ Hid (Below W0.heap.size W0 wr)) (fun _ t _ _=>s.vs.length - (intOf t).toNat)
    case atStart=>exact ⟨0,VA,vc,values,by omega,rfl,rfl,by omega,HT4,HVG,HX4,HB4⟩
    case round=>
     obtain ⟨j,VB,vd,seen,hj,rfl,rfl,hsl,HTj,HVj,HXj,HBj⟩:=hrel;clear HT4 HVG HX4 HB4 HVS4;obtain ⟨Wj,rfl⟩:∃ X,X = wr:=⟨_,rfl⟩;have hsj:W0.heap.size <= Wj.heap.size:=HBj.out.size;have b1:Wj.cell? ⟨Wr.heap.size,1,none⟩ = some (.slice s.A s.vs.length s.c):=(cR 1 HXj.out).trans rfl;by_cases hjl:j < s.vs.length
     ·have hjl':(j:Int) < (s.vs.length:Int):=(by omega);obtain ⟨bx,ox,eA,hbx,hcx⟩:=(HOK0.out.lies.below HBj.out) (by simp;omega);have hcv:=hcx j (.string s.vs[j]) (by simp [gE hjl]);have hvz:=HSZ.out.2 _ (gM hjl);have HNX:=zH (Zdc HVj.out hjl);have HBAD:=zH (Zd0 HVj.out hjl);have HJV:Hid (Below w.heap.size w Wj):=zH (HB0.out.trans (HBj.out.mono HB0.out.size));generalize s.vs[j] = v at *
      rw [eA] at b1;have HBF:Hid (¬ (Xd v = true /\ v ∉ seen /\ v ≠ Yy /\ v ≠ noB) -> r = false):=zH (fun h=>by rw [HRk.out,HDR.out];exact Zdu (HBAD.out h));have C2:=zH (Y7 VB vd seen v Wj (Lies.of_own HTj.out.v) (by omega) (decide (v ∈ seen)) (zH rfl));clear hcx HBAD eA;go_wp2_with fail;refine (Zbh v Wj hvz (Xd v) (zH rfl)).mono ?_;rintro e w1 ⟨rfl,hw1⟩;subst hw1;by_cases g1:Xd v = true;rotate_left
      ·obtain rfl:=HBF.out (fun h=>g1 h.1);rw [WQ.2 g1];clear g1 HRk HBF HNX;go_wp2_with fail;go_ret;exact ⟨rfl,HJV.out⟩
      have G1:=zH g1;rw [g1];clear g1;by_cases g2:v ∈ seen
      ·obtain rfl:=HBF.out (fun h=>h.2.1 g2);rw [Wi g2] at C2;clear g2 HRk HBF HNX;go_wp2_with fail;refine C2.out.mono ?_;rintro e w2 ⟨rfl,rfl⟩;go_wp2_with fail;go_ret;exact ⟨rfl,HJV.out⟩
      have G2:=zH g2;rw [dF g2] at C2;clear g2;by_cases g3:v ≠ Yy;rotate_left
      ·obtain rfl:=HBF.out (fun h=>g3 h.2.2.1);have q3:(v.toList == ([121,101,115]:List UInt8)) = true:=(by rw [toList_eq];exact Wi (Wb1.1 g3));clear g3 HRk HBF HNX;go_wp2_with fail;refine C2.out.mono ?_;rintro e w2 ⟨rfl,rfl⟩;go_wp2_with fail;go_ret;exact ⟨rfl,HJV.out⟩
      have G3:=zH g3;have q3:(v.toList == ([121,101,115]:List UInt8)) = false:=(by rw [toList_eq];exact dF g3);clear g3;by_cases g4:v ≠ noB;rotate_left
      ·obtain rfl:=HBF.out (fun h=>g4 h.2.2.2);have q4:(v.toList == ([110,111]:List UInt8)) = true:=(by rw [toList_eq];exact Wi (Wb1.1 g4));clear g4 HRk HBF HNX;go_wp2_with fail;refine C2.out.mono ?_;rintro e w2 ⟨rfl,rfl⟩;go_wp2_with fail;go_ret;exact ⟨rfl,HJV.out⟩
      have HNX2:Hid (Yz values (s.vs.take (j + 1)) = some (seen ++ [v])):=zH (by rw [HNX.out,WA ⟨G1.out,G2.out,G3.out,g4⟩]);have q4:(v.toList == ([110,111]:List UInt8)) = false:=(by rw [toList_eq];exact dF g4);clear g4 G1 G2 G3 HBF HNX HVj;go_wp2_with fail;refine C2.out.mono ?_;rintro e w2 ⟨rfl,rfl⟩;have hsz2:seen.length <= 1070:=(by omega);clear C2;go_wp2_with (at_builtin;refine Jf _ rfl (.tmp 138) (.tmp 140) _ rfl W0.heap.size 9 i0 _ 1 16 Tryz.underlying74 TI.out TZ0.out TZ1.out TZ2.out rfl (by omega) (.slice VB seen.length vd) seen.length (sbs seen) rfl (HTj.out.v.alloc _) (some ⟨w1.heap.size,0,none⟩) 1 1 [.string v] rfl (fun e=>by cases e) (Yh _ _ _) (by simp) (by simp [Value.oneCell']) (by unfold maxLen;omega) (by omega) (by simp;omega) (seen.length + 1) rfl ?_;intro VC ve V5 ho5 hg5 hn5);have hbn:Below w1.heap.size w1 (w1.alloc (.cells #[.string v] 9)):=bR.alloc nR _;rw [Jm] at hg5;rw [Jm,Jm] at hn5;have HT5:Hid (TwoS W0.heap.size NA4 VC nc4 ve (names ++ [s.nm]) (seen ++ [v]) V5):=zH ((HTj.out.below hbn).addV ho5 hg5 hn5);have HX5:Hid (V5.heap[Wr.heap.size]? = some (.cells #[.string s.nm,.slice s.A s.vs.length s.c,.bool s.L.neg,.slice s.L.A s.L.N.length s.L.c,.slice s.L.B s.L.D.length s.L.d,.bool s.S.neg,.slice s.S.A s.S.N.length s.S.c,.slice s.S.B s.S.D.length s.S.d] 79 (0,0))):=zH ((HTj.out.below hbn).keepV hg5 ((hbn.block _ (aE HXj.out).1).trans HXj.out) (by decide));have HB5:Hid (Below W0.heap.size W0 V5):=zH ((HBj.out.trans (hbn.mono HBj.out.size)).grown hg5 (by simp;omega) (fun k hk=>((HTj.out.below hbn).v.lt k (by rw [Jm];exact hk)).1));clear ho5 hg5 hn5 hbn HTj HXj HBj HJV b1;go_wp2_with fail;exact ⟨⟨j + 1,VC,ve,seen ++ [v],by omega,by go_num,by simp,by simp;omega,HT5,HNX2,HX5,HB5⟩,by simp [intOf];omega⟩
     ·have hjl':¬ (j:Int) < (s.vs.length:Int):=(by omega);have hvg:=HVj.out;rw [Wm (by omega)] at hvg;have HRN:Hid (r = Uu (names ++ [s.nm]) seen (Ps.drop (k + 1))):=zH (by rw [HRk.out,HDR.out];exact Zdv HSL.out hvg);have HNL:Hid ((names ++ [s.nm]).length = k + 1):=zH (by simp [hnl.out]);clear hvg HVj;go_wp2_with fail;exact ⟨⟨k + 1,NA4,VB,nc4,vd,names ++ [s.nm],seen,by omega,by go_num,by simp,rfl,HNL,by omega,HTj,HRN,HBj⟩,by simp [intOf];omega⟩
   ·have hlt':¬ (k:Int) < (Ss.length:Int):=(by omega);have HT2:Hid (r = (decide (Yy ∉ names) && decide (noB ∉ names))):=zH (by rw [HRk.out,WcD (by rw [<- HLN.out];omega)];rfl);have C1:=zH (Y7 NA nc names Yy Wr (Lies.of_own HT.out.n) (by omega) (decide (Yy ∈ names)) (zH rfl));have C2:=zH (Y7 NA nc names noB Wr (Lies.of_own HT.out.n) (by omega) (decide (noB ∈ names)) (zH rfl));unfold Yy at C1;unfold noB at C2;by_cases g1:Yy ∈ names
    ·have hz:r = false:=(by rw [HT2.out,dF (by simpa using g1)];rfl);subst hz;have C1':Hid (decide (Yy ∈ names) = true):=zH (Wi g1);unfold Yy at C1';rw [C1'.out] at C1;clear g1 HT2 HRk;go_wp2_with fail;refine C1.out.mono ?_;rintro e w2 ⟨rfl,rfl⟩;go_wp2_with fail;go_ret;exact ⟨rfl,HWk.out⟩
    ·have hz:r = decide (noB ∉ names):=(by rw [HT2.out,Wi (p:=Yy ∉ names) (by simpa using g1),WcR]);have C1':Hid (decide (Yy ∈ names) = false):=zH (dF g1);unfold Yy at C1';rw [C1'.out] at C1;by_cases g2:noB ∈ names
     ·have hz2:r = false:=(by rw [hz,dF (by simpa using g2)]);subst hz2;have C2':Hid (decide (noB ∈ names) = true):=zH (Wi g2);unfold noB at C2';rw [C2'.out] at C2;clear g1 g2 HT2 HRk hz;go_wp2_with fail;refine C1.out.mono ?_;rintro e w2 ⟨rfl,rfl⟩;go_wp2_with fail;refine C2.out.mono ?_;rintro e w2 ⟨rfl,rfl⟩;go_wp2_with fail;go_ret;exact ⟨rfl,HWk.out⟩
     ·have hz2:r = true:=(by rw [hz,Wi (p:=noB ∉ names) (by simpa using g2)]);subst hz2;have C2':Hid (decide (noB ∈ names) = false):=zH (dF g2);unfold noB at C2';rw [C2'.out] at C2;clear g1 g2 HT2 HRk hz;go_wp2_with fail;refine C1.out.mono ?_;rintro e w2 ⟨rfl,rfl⟩;go_wp2_with fail;refine C2.out.mono ?_;rintro e w2 ⟨rfl,rfl⟩;go_wp2_with fail;go_ret;exact ⟨rfl,HWk.out⟩
 ·have hz:r = false:=by
   rw [<- hr.out];unfold Zq;rw [dF (by rw [<- hln0];exact hh)];rfl
  subst hz;exact Zdh A c Ss pat prm need w (by omega) hh
structure RdA where
 q:Nat
 PA:Option Addr
 pc:Nat
 Ss:List SlM
 LA:Option Addr
 lc:Nat
 Fm:List FlM
def rdc (a:RdA) (D:PDl):Array Value:=#[.slice a.PA a.Ss.length a.pc,.int .i64 D.pat,.int .i64 D.prm,.int .i64 D.need,.slice a.LA a.Fm.length a.lc,.int .i64 D.bad,.bool (D.stand == 2),.int .i64 D.last,.int .i64 D.cuts]
structure RdM (w:World) (a:RdA) (D:PDl):Prop where
 cell:w.heap[a.q]? = some (.cells (rdc a D) 139 (0,0))
 plan:PlM w a.PA a.Ss D.S
 row:Lies w a.LA (Xy a.Fm)
 ref:∀ f ∈ a.Fm,Lies w f.A (sbs f.ref)
 nil:∀ f ∈ a.Fm,f.A = none -> f.c = 0
 nilL:a.LA = none -> a.lc = 0
 pure:a.Fm.map FlM.pure = D.F
 len:a.Fm.length = a.Ss.length
theorem RdM.below {w w':World} {a:RdA} {D:PDl} (h:RdM w a D) (hb:Below w.heap.size w w'):RdM w' a D:=
 ⟨(hb.block _ (aE h.cell).1).trans h.cell,h.plan.below hb,h.row.below hb,fun f hf=>(h.ref f hf).below hb,h.nil,h.nilL,h.pure,h.len⟩
theorem RdM.plain {w:World} {a:RdA} {D:PDl} (h:RdM w a D):AllC Zr w a.q:=⟨_,_,h.cell,fun x hx=>by
 simp [rdc] at hx;rcases hx with rfl | rfl | rfl | rfl | rfl | rfl | rfl | rfl | rfl <;> simp [Zr,ZaT]⟩
theorem Lies.away {w w':World} {p:Nat} (hs:w.heap.size <= w'.heap.size) (ap:AllC Zr w p) (hk:∀ b,b < w.heap.size -> b ≠ p -> w'.heap[b]? = w.heap[b]?) {A:Option Addr} {xs:List Value} (h:Lies w A xs) {j:Nat} {x:Value} (h0 : 0 < xs.length -> xs[j]? = some x) (hx:¬ Zr x):Lies w' A xs:=fun hh=>by
 obtain ⟨b,off,e,hb,hc⟩:=h hh;have hp:b ≠ p:=by rintro rfl;exact hx (ap.cell (hc j x (h0 hh)))
 exact ⟨b,off,e,Wk hb hs,fun k v hv=>(Ws (a:=⟨b,off + k,none⟩) (hk b hb hp)).trans (hc k v hv)⟩
section
variable {w w':World} {a:RdA} {D:PDl} (h:RdM w a D) (hs:w.heap.size <= w'.heap.size) (hk:∀ b,b < w.heap.size -> b ≠ a.q -> w'.heap[b]? = w.heap[b]?)
include h hs hk
theorem RdM.strTo {A:Option Addr} {l:List BA} (hl:Lies w A (sbs l)):Lies w' A (sbs l):=by
 cases l with
 | nil=>intro hh;simp at hh
 | cons s l=>exact Lies.away hs h.plain hk hl (j:=0) (x:=.string s) (fun _=>rfl) (fun hx=>hx.2 s rfl)
theorem RdM.digTo {A:Option Addr} {l:List Int} (hl:Lies w A (ucs l)):Lies w' A (ucs l):=by
 cases l with
 | nil=>intro hh;simp at hh
 | cons s l=>exact Lies.away hs h.plain hk hl (j:=0) (x:=.int .u32 s) (fun _=>rfl) (fun hx=>hx.1 s rfl)
theorem RdM.fvTo {x:Fr} {r:Rat} (hl:Fv w x r):Fv w' x r:=⟨⟨h.digTo hs hk hl.n.lies,hl.n.dig,hl.n.cap,hl.n.nil⟩,⟨h.digTo hs hk hl.d.lies,hl.d.dig,hl.d.cap,hl.d.nil⟩,hl.val⟩
theorem RdM.planTo:PlM w' a.PA a.Ss D.S:=by
 refine ⟨?_,h.plan.len,fun k s P h1 h2=>?_⟩
 ·have hl:=h.plan.lies;cases hq:a.Ss with
  | nil=>intro hh;simp [VS] at hh
  | cons s l=>
   rw [hq] at hl;exact Lies.away hs h.plain hk hl (j:=0) (x:=.string s.nm) (fun _=>rfl) (fun hx=>hx.2 _ rfl)
 ·have:=h.plan.ok k s P h1 h2;exact ⟨this.nm,this.vs,h.strTo hs hk this.lies,this.nil,h.fvTo hs hk this.L,h.fvTo hs hk this.S,this.fL,this.fS⟩
theorem RdM.put (D2:PDl) (hc:w'.heap[a.q]? = some (.cells (rdc a D2) 139 (0,0))) (hS:D2.S = D.S) (hF:D2.F = D.F):RdM w' a D2:=by
 refine ⟨hc,by rw [hS];exact h.planTo hs hk,?_,fun f hf=>h.strTo hs hk (h.ref f hf),h.nil,h.nilL,by rw [hF];exact h.pure,h.len⟩;have hl:=h.row;cases hq:a.Fm with
 | nil=>intro hh;simp [Xy] at hh
 | cons f l=>
  rw [hq] at hl;exact Lies.away hs h.plain hk hl (j:=1) (x:=.string f.val) (fun _=>rfl) (fun hx=>hx.2 _ rfl)
end
theorem Zan (a:RdA) (D:PDl) (w:World) (h:RdM w a D) (hn:a.Fm.length <= 1000000) (r:Int) (hr:Hid (Vb D.F = r)):Calls Tryz.prog 89 #[.pointer (some ⟨a.q,0,none⟩)] w fun e w'=>e = .returned (.int .i64 r) /\ w' = w:=by
 have HM:=zH h;have c4:w.cell? ⟨a.q,4,none⟩ = some (.slice a.LA a.Fm.length a.lc):=(cR 4 h.cell).trans rfl;have HRW:=zH h.row;have HPU:=zH h.pure;clear h;go_enter Tryz.func89,Tryz.ntmps89;go_wp2_with fail;go_loopw [3] (fun i wr=>∃ k:Nat,k <= a.Fm.length /\ i = .int .i64 k /\ Hid (∀ (j:Nat) (hj:j < a.Fm.length),j < k -> a.Fm[j].st = 3) /\ wr = w) (fun i _=>a.Fm.length - (intOf i).toNat)
 case atStart=>exact ⟨0,by omega,rfl,zH (fun j _ hj=>by omega),rfl⟩
 case round=>
  obtain ⟨k,hk,rfl,HJ,rfl⟩:=hrel;by_cases hlt:k < a.Fm.length
  ·obtain ⟨b,off,e,hb,hc⟩:=HRW.out (by rw [JN];omega);have d0:=hc (k * 3 + 0) (.int .i64 a.Fm[k].st) (by rw [JW a.Fm hlt 0 (by omega)];rfl);rw [WaV] at d0;rw [e] at c4;have HX:=zH (rfl:a.Fm[k] = a.Fm[k]);have hst:∀ (x:FlM),a.Fm[k] = x -> True:=fun _ _=>trivial;obtain ⟨st,hs⟩:∃ st,st = a.Fm[k].st:=⟨_,rfl⟩;have HS:=zH hs;rw [<- hs] at d0;clear hc e hst hs;by_cases h3:st = 3
   ·have g:(st != 3) = false:=(by rw [h3];rfl);have HN:Hid (∀ (j:Nat) (hj:j < a.Fm.length),j < k + 1 -> a.Fm[j].st = 3):=zH (fun j hj hjk=>by
     by_cases e:j = k
     ·subst e;rw [<- HS.out];exact h3
     ·exact HJ.out j hj (by omega))
    clear h3 HJ;go_wp2_with fail;exact ⟨⟨k + 1,by omega,by go_num,HN,trivial⟩,by simp [intOf];omega⟩
   ·have g:(st != 3) = true:=WeU.2 h3;have hz:r = k:=by
     rw [<- hr.out,<- HPU.out];refine Zcn (k:=k) (by simpa using hlt) (by simpa [FlM.pure,<- HS.out] using h3) (fun j hj hjk=>?_);simpa [FlM.pure] using HJ.out j (by simpa using hj) hjk
    subst hz;clear h3 HJ hr;go_wp2_with fail;go_ret;exact ⟨rfl,rfl⟩
  ·have hz:r = -1:=by
    rw [<- hr.out,<- HPU.out];refine ZbL (fun j hj=>?_);have hj':j < a.Fm.length:=(by simpa using hj);simpa [FlM.pure] using HJ.out j hj' (by omega)
   subst hz;clear HJ hr;go_wp2_with fail;go_ret;exact ⟨rfl,rfl⟩
theorem RdM.cells {w:World} {a:RdA} {D:PDl} (h:RdM w a D):w.cell? ⟨a.q,0,none⟩ = some (.slice a.PA a.Ss.length a.pc) /\ w.cell? ⟨a.q,1,none⟩ = some (.int .i64 D.pat) /\ w.cell? ⟨a.q,2,none⟩ = some (.int .i64 D.prm) /\ w.cell? ⟨a.q,3,none⟩ = some (.int .i64 D.need) /\ w.cell? ⟨a.q,4,none⟩ = some (.slice a.LA a.Fm.length a.lc) /\ w.cell? ⟨a.q,5,none⟩ = some (.int .i64 D.bad) /\ w.cell? ⟨a.q,6,none⟩ = some (.bool (D.stand == 2)) /\ w.cell? ⟨a.q,7,none⟩ = some (.int .i64 D.last) /\ w.cell? ⟨a.q,8,none⟩ = some (.int .i64 D.cuts):=
 ⟨(cR 0 h.cell).trans rfl,(cR 1 h.cell).trans rfl,(cR 2 h.cell).trans rfl,(cR 3 h.cell).trans rfl,(cR 4 h.cell).trans rfl,(cR 5 h.cell).trans rfl,(cR 6 h.cell).trans rfl,(cR 7 h.cell).trans rfl,(cR 8 h.cell).trans rfl⟩
def StdK (D:PDl):Prop:=(D.stand = 0 ∨ D.stand = 1 ∨ D.stand = 2) /\ (D.stand = 1 ↔ Vb D.F < 0) /\ D.prompt = D.last
theorem Vh (a:RdA) (D:PDl) (w:World) (h:RdM w a D) (hK:StdK D) (hn:a.Fm.length <= 1000000) (r:Bool) (hr:Hid (decide (D.stand = 0) = r)):Calls Tryz.prog 88 #[.pointer (some ⟨a.q,0,none⟩)] w fun e w'=>e = .returned (.bool r) /\ w' = w:=by
 have c6:=h.cells.2.2.2.2.2.2.1;obtain ⟨k1,k2,-⟩:=hK;obtain ⟨R,hR⟩:∃ R,Vb D.F = R:=⟨_,rfl⟩;have CA:=zH (Zan a D w h hn R (zH hR));rw [hR] at k2;clear h hR;by_cases h2:D.stand = 2
 ·have hz:r = false:=by rw [<- hr.out,h2];rfl
  subst hz;have g:(D.stand == 2) = true:=by rw [h2];rfl
  rw [g] at c6;clear hr h2 k1 k2 g;go_enter Tryz.func88,Tryz.ntmps88;go_wp2_with fail;go_ret;exact ⟨rfl,rfl⟩
 ·have g:(D.stand == 2) = false:=Wz.2 h2;rw [g] at c6;have hz:r = decide (0 <= R):=by
   rw [<- hr.out];rcases k1 with k1 | k1 | k1
   ·rw [Wi k1,Wi];have:¬ D.stand = 1:=(by omega);omega
   ·rw [dF (by omega),dF];have:=k2.1 k1;omega
   ·exact absurd k1 h2
  subst hz;clear hr h2 k1 k2 g;go_enter Tryz.func88,Tryz.ntmps88;go_wp2_with fail;refine CA.out.mono ?_;rintro e w1 ⟨rfl,rfl⟩;go_wp2_with fail;go_ret;exact ⟨rfl,rfl⟩
end Go.Proofs.YtcjicjfbippmnaaGreat
namespace Go.Proofs.YtcjicjfbippmnaaGreat
open Go.RowKit Ear

def RdA.set (a:RdA) (g c k:Nat) (Y:FlM):RdA:={ a with LA:=some ⟨g,0,none⟩,lc:=c,Fm:=a.Fm.set k Y }
theorem Zf1 {w:World} {base sz n c:Nat} {e:TypeId} {A:Option Addr} {xs:List Value} (h:w.ownsRow base e sz (.slice A n c) n xs) (h0 : 0 < n):∃ g cs,A = some ⟨g,0,none⟩ /\ base <= g /\ w.heap[g]? = some (.cells cs e (0,0)):=by
 rcases h.2 with hz | ⟨g,cap,cur,e1,e2,e3,-⟩
 ·obtain ⟨hz,-⟩:=hz;injection hz with h1 h2 h3
  omega
 ·injection e1 with e1
  exact ⟨g,_,e1,e2,e3⟩
theorem Zgu (F:List FlM) {k:Nat} (hk:k < F.length) (Y:FlM):(((Xy F).set (k * 3) (.int .i64 Y.st)).set (k * 3 + 1) (.string Y.val)).set (k * 3 + 2) (.slice Y.A Y.ref.length Y.c) = Xy (F.set k Y):=by
 obtain ⟨O,R,e1,e2,e3⟩:=ZaD F hk;have hl:(Xy O).length = k * 3:=by rw [JN,e2]
 rw [e3]
 conv=>lhs;rw [e1]
 rw [Ya,Ya,WaJ _ _ (by omega),hl,WcO,WaJ _ _ (by omega),hl,show k * 3 + 1 - k * 3 = 1 by omega,WaJ _ _ (by omega),hl,show k * 3 + 2 - k * 3 = 2 by omega];rfl
theorem Vg (a:RdA) (D:PDl) (w:World) (h:RdM w a D) (k:Nat) (hk:k < a.Fm.length) (hn:a.Fm.length <= 1000000) (Y:FlM) (hY:Lies w Y.A (sbs Y.ref)) (hYn:Y.A = none -> Y.c = 0) :
  Calls Tryz.prog 90 #[.pointer (some ⟨a.q,0,none⟩),.int .i64 k,.agg #[.int .i64 Y.st,.string Y.val,.slice Y.A Y.ref.length Y.c]] w fun e w'=>e = .returned (.tuple #[]) /\ ∃ g c,(w.heap.size <= g /\ g < w'.heap.size) /\ RdM w' (a.set g c k Y) (D.put k Y.pure) /\ w.grownBy w' (some a.q):=by
 obtain ⟨W0,hW0⟩:∃ W0:World,W0 = w.alloc (.cells #[.int .i64 Y.st,.string Y.val,.slice Y.A Y.ref.length Y.c] 76):=⟨_,rfl⟩;have HB0:Hid (Below w.heap.size w W0):=zH (by rw [hW0];exact bR.alloc nR _);have HX0:Hid (W0.heap[w.heap.size]? = some (.cells #[.int .i64 Y.st,.string Y.val,.slice Y.A Y.ref.length Y.c] 76 (0,0))):=zH (by rw [hW0];exact Wg w _);have HM:=zH (h.below HB0.out);have HM0:=zH h;have HY:=zH hY;have HYN:=zH hYn;have hqw:a.q < W0.heap.size:=(aE HM.out.cell).1;have hbw:w.heap.size < W0.heap.size:=(aE HX0.out).1;have hqn:a.q < w.heap.size:=(aE h.cell).1;have c4:W0.cell? ⟨a.q,4,none⟩ = some (.slice a.LA a.Fm.length a.lc):=HM.out.cells.2.2.2.2.1;obtain ⟨i0,hi0,hz0,hz1,hz2⟩:=WaI Zb;have TI:=zH hi0;have TZ0:=zH hz0;have TZ1:=zH hz1;have TZ2:=zH hz2;have hki:(k:Int) < (a.Fm.length:Int):=by omega
 clear h hY hYn hi0 hz0 hz1 hz2;go_enter Tryz.func90,Tryz.ntmps90;go_upto_region 1 with fail;rw [<- hW0];clear hW0;go_upto_region 2 with (at_builtin;refine Jf _ rfl (.const (.slice none 0 0)) (.tmp 10) _ rfl W0.heap.size 76 i0 _ 3 48 Tryz.underlying63 TI.out TZ0.out TZ1.out TZ2.out rfl (by omega) (.slice none 0 0) 0 [] rfl (WJ _ _ _ _) a.LA a.Fm.length a.lc (Xy a.Fm) rfl HM.out.nilL HM.out.row (JN _) (ZcQ _) (by unfold maxLen;omega) (by omega) nR a.Fm.length (by simp) ?_;intro A1 cc w1 ho1 hg1 _;have HO1:=zH ho1;have HG1:=zH hg1;have c4':w1.cell? ⟨a.q,4,none⟩ = some (.slice a.LA a.Fm.length a.lc):=((JQ hg1).cell (p:=⟨a.q,4,none⟩) hqw).trans c4;have f4':w1.frozen? ⟨a.q,4,none⟩ = false:=Js (HM.out.below (JQ hg1)).cell 4;clear ho1 hg1)
 obtain ⟨g,cs,rfl,hge,hgx⟩:=Zf1 HO1.out (by omega);clear hgx;obtain ⟨W2,hW2⟩:∃ W2:World,W2 = w1.setCell ⟨a.q,4,none⟩ (.slice (some ⟨g,0,none⟩) a.Fm.length cc):=⟨_,rfl⟩;have hb1:Below W0.heap.size W0 w1:=JQ HG1.out;have HG2:Hid (w1.grownBy W2 (some a.q)):=zH (by rw [hW2];exact JO (WaY w1 (some a.q)) (.inl rfl) _);have HQ2:Hid (W2.heap[a.q]? = some (.cells (rdc { a with LA:=some ⟨g,0,none⟩,lc:=cc } D) 139 (0,0))):=zH (by rw [hW2];exact (JE (HM.out.below hb1).cell 4 _).trans rfl);have HO2:Hid (W2.ownsRow W0.heap.size 76 3 (.slice (some ⟨g,0,none⟩) a.Fm.length cc) a.Fm.length (Xy a.Fm)):=zH (Jr (by simpa using HO1.out) HG2.out (fun b hb e=>by
  have h1:some g = some b:=hb;injection h1 with h1
  injection e with e
  omega))
 have HX2:Hid (W2.heap[w.heap.size]? = some (.cells #[.int .i64 Y.st,.string Y.val,.slice Y.A Y.ref.length Y.c] 76 (0,0))):=zH ((HG2.out.block _ (Wk hbw hb1.size) (by intro e;injection e with e;omega)).trans ((hb1.block _ hbw).trans HX0.out));rw [<- hW2];have l4:W2.cell? ⟨a.q,4,none⟩ = some (.slice (some ⟨g,0,none⟩) a.Fm.length cc):=(cR 4 HQ2.out).trans rfl;have b0:W2.cell? ⟨w.heap.size,0,none⟩ = some (.int .i64 Y.st):=(cR 0 HX2.out).trans rfl;have b1:W2.cell? ⟨w.heap.size,1,none⟩ = some (.string Y.val):=(cR 1 HX2.out).trans rfl;have b2:W2.cell? ⟨w.heap.size,2,none⟩ = some (.slice Y.A Y.ref.length Y.c):=(cR 2 HX2.out).trans rfl;have d0:W2.cell? ⟨g,k * 3,none⟩ = some (.int .i64 a.Fm[k].st):=(HO2.out.cellAt (k * 3 + 0) (by omega)).trans (JW a.Fm hk 0 (by omega));have d1:W2.cell? ⟨g,k * 3 + 1,none⟩ = some (.string a.Fm[k].val):=(HO2.out.cellAt (k * 3 + 1) (by omega)).trans (JW a.Fm hk 1 (by omega));have d2:W2.cell? ⟨g,k * 3 + 2,none⟩ = some (.slice a.Fm[k].A a.Fm[k].ref.length a.Fm[k].c):=(HO2.out.cellAt (k * 3 + 2) (by omega)).trans (JW a.Fm hk 2 (by omega));have f0:W2.frozen? ⟨g,k * 3,none⟩ = false:=HO2.out.frozenAt _;have f1:W2.frozen? ⟨g,k * 3 + 1,none⟩ = false:=HO2.out.frozenAt _;have f2:W2.frozen? ⟨g,k * 3 + 2,none⟩ = false:=HO2.out.frozenAt _;clear hW2 c4 c4' f4' hb1;go_still_tail 7,(by kernel_rfl);go_wp2_with fail;refine bodyPost_end (results_none rfl _ _ _) rfl ?_;obtain ⟨s1,t1⟩:=HO2.out.stored (k * 3) (.int .i64 Y.st);obtain ⟨s2,t2⟩:=s1.stored (k * 3 + 1) (.string Y.val);obtain ⟨s3,t3⟩:=s2.stored (k * 3 + 2) (.slice Y.A Y.ref.length Y.c);rw [Zgu a.Fm hk] at s3;have hbl:∀ b,b < W2.heap.size -> b ≠ g -> ((((W2.setCell ⟨g,k * 3,none⟩ (.int .i64 Y.st)).setCell ⟨g,k * 3 + 1,none⟩ (.string Y.val)).setCell ⟨g,k * 3 + 2,none⟩ (.slice Y.A Y.ref.length Y.c)).drew).heap[b]? = W2.heap[b]?:=fun b h1 h2=>by
  have hne:some b ≠ some g:=by intro e;injection e with e;exact h2 e
  exact (t3.block b (Wk h1 (tR t1.size t2.size)) hne).trans ((t2.block b (Wk h1 t1.size) hne).trans (t1.block b h1 hne))
 have hb1:Below W0.heap.size W0 w1:=JQ HG1.out;have GW:w.grownBy ((((W2.setCell ⟨g,k * 3,none⟩ (.int .i64 Y.st)).setCell ⟨g,k * 3 + 1,none⟩ (.string Y.val)).setCell ⟨g,k * 3 + 2,none⟩ (.slice Y.A Y.ref.length Y.c)).drew) (some a.q):=
  ⟨t3.os.trans (t2.os.trans (t1.os.trans (HG2.out.os.trans (hb1.os.trans HB0.out.os)))),t3.tape.trans (t2.tape.trans (t1.tape.trans (HG2.out.tape.trans (hb1.tape.trans HB0.out.tape)))),t3.output.trans (t2.output.trans (t1.output.trans (HG2.out.output.trans (hb1.output.trans HB0.out.output)))),
   tR HB0.out.size (tR hb1.size (tR HG2.out.size (tR t1.size (tR t2.size t3.size)))),fun b h1 h2=>by
    have h3:b < W0.heap.size:=Wk h1 HB0.out.size;exact (hbl b (Wk h3 (tR hb1.size HG2.out.size)) (by omega)).trans ((HG2.out.block b (Wk h3 hb1.size) h2).trans ((hb1.block b h3).trans (HB0.out.block b h1)))⟩
 have hk':∀ b,b < w.heap.size -> b ≠ a.q -> _:=fun b h1 h2=>GW.block b h1 (by intro e;injection e with e;exact h2 e);refine ⟨rfl,g,cc,⟨tR HB0.out.size hge,(s3.lt g rfl).2⟩,⟨?_,HM0.out.planTo GW.size hk',?_,?_,?_,(fun e=>by cases e),?_,?_⟩,GW⟩
 ·rw [show (a.set g cc k Y).q = a.q from rfl,hbl a.q (aE HQ2.out).1 (by omega),HQ2.out];simp [rdc,RdA.set,PDl.put]
 ·exact Lies.of_own s3
 ·intro f hf;rcases YZ hf with rfl | ⟨j,hj,hne,rfl⟩
  ·exact HM0.out.strTo GW.size hk' HY.out
  ·exact HM0.out.strTo GW.size hk' (HM0.out.ref _ (gM hj))
 ·intro f hf;rcases YZ hf with rfl | ⟨j,hj,hne,rfl⟩
  ·exact HYN.out
  ·exact HM0.out.nil _ (gM hj)
 ·show (a.Fm.set k Y).map FlM.pure = D.F.set k Y.pure;rw [WcG,HM0.out.pure]
 ·show (a.Fm.set k Y).length = a.Ss.length;rw [WaP];exact HM0.out.len
end Go.Proofs.YtcjicjfbippmnaaGreat
