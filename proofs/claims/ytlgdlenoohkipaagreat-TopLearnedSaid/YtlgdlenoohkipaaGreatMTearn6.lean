/- TopLearned -/
import Derived.Test.YtlgdlenoohkipaaGreatMTearn5
set_option maxRecDepth 100000
set_option maxHeartbeats 32000000
namespace Go.Proofs.YtlgdlenoohkipaaGreat
open Go.RowKit Ear

theorem Zd1 (A B:Option Addr) (c d x y:Nat) (w:World) (hA:Dg w A c (nd x)) (hB:Dg w B d (nd y)) (hx:(nd x).length <= 400000) (hxy:y <= x) (y0:y ≠ 0) (y1:(nd y).length ≠ 1) :
  Calls Tryz.prog 186 #[.slice A (nd x).length c,.slice B (nd y).length d] w (UY (x / y) (x % y) w):=by
 obtain ⟨r,hr,hr0⟩:∃ r,Ue x y = r /\ ¬ r < 0:=by
  rcases Nat.lt_or_ge y x with h | h
  ·exact ⟨1,XX h,by decide⟩
  ·exact ⟨0,Yl (by omega),by decide⟩
 have H0:=zH (Yp A B c d x y w hA hB (by omega) r (zH hr));have ly:=Ji hxy;have ly0:(nd y).length ≠ 0:=fun e=>y0 (Js.1 e);obtain ⟨tp1,tp2,tp3⟩:=ZeG y0;have q1:(((nd y).length:Int) == 1) = false:=beq_eq_false_iff_ne.2 (by omega);obtain ⟨bk,off,rfl,hbk,hc⟩:=hB.lies.uat (k:=(nd y).length - 1) (by omega);rw [tp1] at hc;have i0:(((nd y).length:Int) - 1).toNat = (nd y).length - 1:=by omega
 have H1:=zH (fun W=>Ze1 ((y / 4294967296 ^ ((nd y).length - 1):Nat):Int) W (by omega) (by omega));have DA:=zH hA;have DB:=zH hB;clear hr hA hB tp1;generalize ht:y / 4294967296 ^ ((nd y).length - 1) = ty at *
 clear ht;go_enter Tryz.func186,Tryz.ntmps186;go_wp2_with fail;go_step3;go_wp2_with fail;refine H0.out.mono ?_;rintro e w' ⟨rfl,n0,rfl⟩;clear H0;go_wp2_with fail;refine (H1.out _).mono ?_;rintro e w' ⟨i,hi,rfl,rfl⟩;clear H1;have W0:Hid (Below w.heap.size w (w.drewN n0)):=zH (Ja _ _);have H2:=zH (Qm A c (nd x) i (w.drewN n0) (DA.out.below W0.out) (by omega) hi x (zH (Jo x)));have DB1:=zH (DB.out.below W0.out);clear DA DB hc;generalize w.drewN n0 = w1 at *
 go_wp2_with fail;refine H2.out.mono ?_;clear H2;rintro e w2 ⟨UA,Uc,rfl,u1,u2,u3,u4⟩;have H3:=zH (Qm (some ⟨bk,off,none⟩) d (nd y) i w2 (DB1.out.below u4) (by omega) hi y (zH (Jo y)));have DU:=zH (Jz u1 u2 u3);have W2:=zH (W0.out.trans (u4.mono W0.out.size));clear u1 u2 u3 u4 DB1 W0;go_wp2_with fail;refine H3.out.mono ?_;clear H3;rintro e w3 ⟨VA,Vc,rfl,v1,v2,v3,v4⟩;have DV:=zH (Jz v1 v2 v3);have DU3:=zH (DU.out.below v4);have W3:=zH (W2.out.trans (v4.mono W2.out.size));have HP : 0 < 2 ^ i:=Nat.pow_pos (by decide);have v0:y * 2 ^ i ≠ 0:=Nat.mul_ne_zero y0 (by omega);have uv:y * 2 ^ i <= x * 2 ^ i:=Nat.mul_le_mul_right _ hxy;have HQ:Hid (x / y = x * 2 ^ i / (y * 2 ^ i)):=zH (Nat.mul_div_mul_right x y HP).symm;have HR:Hid (x % y = x * 2 ^ i % (y * 2 ^ i) / 2 ^ i):=zH (by rw [Nat.mul_mod_mul_right,Nat.mul_div_cancel _ HP]);have hul:(nd (x * 2 ^ i)).length <= (nd x).length + 1:=by
  have h1:=JO x (2 ^ i);have h2:(nd (2 ^ i)).length <= 1:=JX (by have:=Nat.pow_le_pow_right (show 0 < 2 by decide) hi;omega);omega
 have hlen:=Ji uv;clear v1 v2 v3 v4 DU W2 HP hxy uv;generalize hu:x * 2 ^ i = u at *
 generalize hv:y * 2 ^ i = v at *
 clear hu hv;obtain ⟨tv1,tv2,tv3⟩:=ZeG v0;have lv0:(nd v).length ≠ 0:=fun e=>v0 (Js.1 e);obtain ⟨m,hm⟩:∃ m:Nat,m + (nd v).length = (nd u).length + 1:=⟨(nd u).length + 1 - (nd v).length,by omega⟩;have em:((nd u).length:Int) - ((nd v).length:Int) + 1 = (m:Int):=by omega
 obtain ⟨w4,hmk,ho4,hb4⟩:=XN w3 m (by omega) w.heap.size W3.out.size;obtain ⟨g,hg⟩:∃ g,g = w3.heap.size:=⟨_,rfl⟩;rw [<- hg] at ho4 hmk;have HG:Hid (w.heap.size <= g):=by have:=W3.out.size;show _ <= _;omega
 have HVn:=zH (ZE v);have HVg:=zH (Zi6 v0);have HST:=zH (DivAt.start (u:=u) (v:=v) (m:=m) (by
  have h1:=ZE u;have h2:=HVg.out;have h3:=Nat.mul_le_mul_right (4294967296 ^ m) h2;rw [<- Nat.pow_add,show (nd v).length - 1 + m = (nd u).length by omega] at h3;omega))
 have HGE:=zH hg;have B4:=zH (hg ▸ hb4:Below g w3 w4);have hs4:g + 1 <= w4.heap.size:=by
  obtain ⟨_,h2⟩:=ho4;rcases h2 with ⟨h3,_⟩ | ⟨g',cap,cur,h3,_,h4,_⟩
  ·cases h3
  ·cases h3;exact (aE h4).1
 have H4:=zH (Zr UA Uc (nd u) w4 (DU3.out.below hb4) (by omega));generalize hvt:v / 4294967296 ^ ((nd v).length - 1) = vt at *
 have HVT:Hid (vt * 4294967296 ^ ((nd v).length - 1) <= v):=zH (by rw [<- hvt];exact Nat.div_mul_le_self _ _);have HTV:=zH tv1;clear hvt hg hb4 DU3 tv1 ly0 y1 tp2 tp3 q1 i0;generalize hlv:(nd v).length = lv at *
 have HLV:=zH hlv;clear hlv;go_wp2_with fail;refine H4.out.mono ?_;clear H4 hmk;rintro e w5 ⟨RA,Rc,rfl,ro,rb⟩;have DR:=zH (J9 ro hs4);have B5:=zH (B4.out.trans (rb.mono (by omega)));have hs5:g + 1 <= w5.heap.size:=tR hs4 rb.size;have Q5:=zH (Jr ho4 rb);have hlu:m + lv <= 400002:=by omega
 clear ro rb ho4 B4;go_wp2_with fail;go_step3;go_wp2_with fail;go_loopw [13,14,15,16,17] (fun r13 j14 _ _ _ wr=>∃ k:Nat,k <= m /\ j14 = .int .i64 ((k:Int) - 1) /\ ∃ q rest RA Rc,Hid (DivAt u v q m k rest) /\ r13 = .slice RA (nd rest).length Rc /\ Hid (wr.ownsRow (g + 1) 170 1 (.slice RA (nd rest).length Rc) (nd rest).length (ucs (nd rest))) /\ Hid (wr.ownsRow w.heap.size 170 1 (.slice (some ⟨g,0,none⟩) m m) m (ucs q)) /\ Hid (Below g w3 wr)) (fun _ j14 _ _ _ _=>(intOf j14 + 1).toNat)
 case atStart=>exact ⟨m,Nat.le_refl _,rfl,_,_,_,_,HST,rfl,DR,Q5,B5⟩
 case round=>
  obtain ⟨k,hk,rfl,q,rest,RA1,Rc1,HD,rfl,HRO,HQO,HB⟩:=hrel;clear HST DR Q5 B5 hs5;have hsr:g + 1 <= wr.heap.size:=by
   obtain ⟨_,h2⟩:=HQO.out;rcases h2 with ⟨h3,_⟩ | ⟨g',cap,cur,h3,_,h4,_⟩
   ·cases h3
   ·cases h3;exact (aE h4).1
  have HBW:Hid (Below w.heap.size w wr):=zH (W3.out.trans (HB.out.mono HG.out));have hul2:(nd u).length <= 400001:=by omega
  have hrest:rest <= u:=by have:=HD.out.val;have h1:=Int.mul_nonneg (Jw HD.out.dig) (show (0:Int) <= v by omega);omega
  have hrl:(nd rest).length <= 400001:=tR (Ji hrest) hul2;have DRD:=zH (ZY HRO.out (Jy rest));by_cases h0:k = 0
  ·subst h0;obtain ⟨f1,f2⟩:=HD.out.done;have HT:=zH (ZaY HQO.out HD.out.len HD.out.dig (by omega) (v:=u / v) f1);have HF:=zH (fun W (hW:Below wr.heap.size wr W)=>Zd0 RA1 Rc1 (nd rest) i W (DRD.out.below hW) (by omega) hi rest (zH (Jo rest)));have HE:Hid (rest / 2 ^ i = x % y):=zH (by rw [HR.out,f2]);clear f1 f2;go_wp2_with fail;refine HT.out.mono ?_;rintro e w' ⟨A2,c2,rfl,t1,t4⟩;go_wp2_with fail;refine (HF.out _ t4).mono ?_;rintro e w6 ⟨A3,c3,rfl,s1,s2,s3,s4⟩;go_wp2_with fail;go_ret2;rw [HQ.out,<- HE.out];exact ⟨A2,c2,A3,c3,rfl,(Jz (Lies.of_own t1) (Xj t1).1 (Xj t1).2).below s4,Jz s1 s2 s3,(HBW.out.trans (t4.mono HBW.out.size)).trans (s4.mono ((HBW.out.trans (t4.mono HBW.out.size)).size))⟩
  ·obtain ⟨j,rfl⟩:∃ j,k = j + 1:=⟨k - 1,by omega⟩;have ej:(((j + 1:Nat):Int) - 1) = (j:Int):=(by omega);rw [ej];have hsm:=HD.out.small;obtain ⟨tt1,tt2⟩:=ZhC (n:=lv) (by omega) HVn.out hsm;have HGL:=zH (fun G (h:rest / 4294967296 ^ (j + (lv - 1)) < (G + 1) * vt)=>ZgH HVT.out h);have b1:rest / 4294967296 ^ (j + lv) <= 4294967295:=(by rw [<- tt1];omega);have b2:rest / 4294967296 ^ (j + (lv - 1)) % 4294967296 <= 4294967295:=(by omega);have C1:=zH (Zi RA1 Rc1 (nd rest) (j + lv) wr DRD.out.lies _ (zH (Za2 _ _)) (by rw [tt1];omega));have C2:=zH (Zi RA1 Rc1 (nd rest) (j + (lv - 1)) wr DRD.out.lies _ (zH (Za2 _ _)) (by omega));rw [tt1] at C1;have ek1:((j + lv:Nat):Int) = (j:Int) + lv:=(by simp);have ek2:((j + (lv - 1):Nat):Int) = (j:Int) + lv - 1:=(by omega);rw [ek1] at C1;rw [ek2] at C2;clear ek1 ek2 tt1 ej;generalize rest / 4294967296 ^ (j + lv) = T1 at *
   generalize rest / 4294967296 ^ (j + (lv - 1)) % 4294967296 = T0 at *
   generalize rest / 4294967296 ^ (j + (lv - 1)) = T at *
   have hT:(T1:Int) * 4294967296 + T0 = (T:Int):=(by omega);have pw:IntKind.u64.wrap ((T1:Int) * 4294967296) = (T1:Int) * 4294967296:=IntWalk.u64_in _ (by omega);have po:=VK T1 T0 (by omega) (by omega) (by omega) (by omega);rw [hT] at po;have hv5:Hid (Dg wr VA Vc (nd v)):=zH (DV.out.below (HGE.out ▸ HB.out));obtain ⟨bv,ov,rfl,hbv,hcv⟩:=hv5.out.lies.uat (k:=lv - 1) (by rw [HLV.out];omega);rw [HTV.out] at hcv;have i0:((lv:Int) - 1).toNat = lv - 1:=(by omega);have vz:((vt:Int) == 0) = false:=(by simp;omega);have pd0 : 0 <= (T:Int) / vt:=Int.ediv_nonneg (by omega) (by omega);have pd1:(T:Int) / vt <= T:=Int.ediv_le_self _ (by omega);have pd:IntKind.u64.wrap ((T:Int) / vt) = (T:Int) / vt:=IntWalk.u64_in _ (by omega);obtain ⟨G,hG⟩:∃ G:Nat,min ((T:Int) / vt) 4294967295 = (G:Int):=⟨(min ((T:Int) / vt) 4294967295).toNat,by have : 0 <= (T:Int) / vt:=Int.ediv_nonneg (by omega) (by omega);omega⟩;have hG1:G <= 4294967295:=(by omega);have HGS:Hid (rest < v * (G + 1) * 4294967296 ^ j):=zH (by
    rcases Nat.lt_or_ge (T / vt) 4294967296 with h | h
    ·have hg2:G = T / vt:=(by have:(T:Int) / vt = ((T / vt:Nat):Int):=(by simp);omega);refine HGL.out G ?_;rw [hg2,Nat.mul_comm];exact Nat.lt_mul_div_succ T (by omega)
    ·have hg2:G = 4294967295:=(by have:(T:Int) / vt = ((T / vt:Nat):Int):=(by simp);omega);rw [hg2];rw [Nat.pow_succ] at hsm;rw [Nat.mul_assoc,Nat.mul_comm 4294967296];exact hsm)
   have HSM:=zH hsm;have HN:=zH (fun t (h1:v * t * 4294967296 ^ j <= rest) (h2:rest < v * (t + 1) * 4294967296 ^ j)=>HD.out.next (by omega) h1 h2);have HZ:=zH (fun h2=>ZdH HD.out (by omega) h2);have hjm:j < m:=(by omega);clear tt2 hT HGL b1 b2 hsm pd0 pd1;go_wp2_with fail;refine C1.out.mono ?_;rintro e w' ⟨rfl,rfl⟩;go_wp2_with fail;refine C2.out.mono ?_;rintro e w' ⟨rfl,rfl⟩;clear C1 C2;obtain ⟨W0,rfl⟩:∃ X,X = wr:=⟨_,rfl⟩;go_wp2_with fail;have B0:=zH (Below.refl W0.heap.size W0);clear pw po hcv vz hG pd i0;go_loopw [13,16,17] (fun r13 g16 _ wr=>∃ G:Nat,g16 = .int .u64 G /\ G <= 4294967295 /\ Hid (rest < v * (G + 1) * 4294967296 ^ j) /\ r13 = .slice RA1 (nd rest).length Rc1 /\ Hid (Below W0.heap.size W0 wr)) (fun _ g16 _ _=>(intOf g16).toNat)
   case atStart=>exact ⟨G,rfl,hG1,HGS,rfl,B0⟩
   case round=>
    obtain ⟨G',rfl,hG1',HGS',rfl,HB0⟩:=hrel;clear B0 HGS hG1;have HBW1:=zH (HBW.out.trans (HB0.out.mono HBW.out.size));have HB1:=zH (HB.out.trans (HB0.out.mono (by omega)));have HRO1:=zH (Jr HRO.out HB0.out);have HQO1:=zH (Jr HQO.out HB0.out);by_cases hg0:G' = 0
    ·subst hg0;have HD1:=zH (HZ.out HGS'.out);go_wp2_with fail;exact ⟨⟨j,by omega,rfl,_,_,_,_,HD1,rfl,HRO1,HQO1,HB1⟩,by simp [intOf]⟩
    ·have HV1:=zH (hv5.out.below HB0.out);have S1:=zH (Yb G' wr (by omega));have gl:(nd G').length <= 1:=JX (by omega);have hgp:(0:Int) < (G':Int):=(by omega);have hg32:(G':Int) % 4294967296 = (G':Int):=(by omega);go_wp2_with fail;refine S1.out.mono ?_;clear S1;rintro e w6 ⟨SA,Sc,rfl,s1,s2,s3,s4⟩;have S2:=zH (Zh (some ⟨bv,ov,none⟩) SA Vc Sc (nd v) (nd G') w6 (HV1.out.below s4) (Jz s1 s2 s3) (by rw [HLV.out];omega) (by omega) (v * G') (zH (by rw [Jo,Jo];simp)));rw [HLV.out] at S2;have B6:=zH (HB0.out.trans (s4.mono HB0.out.size));clear s1 s2 s3 s4;go_wp2_with fail;refine S2.out.mono ?_;clear S2;rintro e w7 ⟨MA,Mc,rfl,m1,m2,m3,m4⟩;have ml:(nd (v * G')).length <= lv + 1:=(by have:=JO v G';have:=HLV.out;omega);have S3:=zH (ZaI MA Mc (v * G') j w7 (Jz m1 m2 m3) (by omega) (by omega));have B7:=zH (B6.out.trans (m4.mono B6.out.size));clear m1 m2 m3 m4;go_wp2_with fail;refine S3.out.mono ?_;clear S3;rintro e w8 ⟨PA,Pc,rfl,p1,p2,p3,p4⟩;have pl:(nd (v * G' * 4294967296 ^ j)).length <= 900000:=(by have:=Za1 (v * G') j;omega);have B8:=zH (B7.out.trans (p4.mono B7.out.size));have DP:=zH (Jz p1 p2 p3);have DR8:=zH (DRD.out.below B8.out);clear p1 p2 p3 p4 B6 B7 ml;generalize hpt:v * G' * 4294967296 ^ j = pt at *
     have HPT:=zH hpt;clear hpt;rcases Nat.lt_or_ge rest pt with hc | hc
     ·have S4:=zH (Yp PA RA1 Pc Rc1 pt rest w8 DP.out DR8.out (by omega) 1 (zH (XX hc)));have HG2:Hid (rest < v * (G' - 1 + 1) * 4294967296 ^ j):=zH (by rw [show G' - 1 + 1 = G' by omega,HPT.out];exact hc);go_wp2_with fail;refine S4.out.mono ?_;rintro e w9 ⟨rfl,n9,rfl⟩;have B9:Hid (Below W0.heap.size W0 (w8.drewN n9)):=zH (B8.out.trans (Ja _ _));clear S4;generalize w8.drewN n9 = w9 at *
      go_wp2_with fail;exact ⟨⟨G' - 1,by go_num,by omega,HG2,rfl,B9⟩,by simp [intOf];omega⟩
     ·obtain ⟨r2,hr2,hr20⟩:∃ r2,Ue pt rest = r2 /\ ¬ 0 < r2:=by
       rcases Nat.lt_or_ge pt rest with h | h
       ·exact ⟨-1,Yk h,by decide⟩
       ·exact ⟨0,Yl (by omega),by decide⟩
      have S4:=zH (Yp PA RA1 Pc Rc1 pt rest w8 DP.out DR8.out (by omega) r2 (zH hr2));clear hr2;obtain ⟨hn1,HDN⟩:=HN.out G' (by rw [HPT.out];exact hc) HGS'.out;rw [HPT.out] at HDN;have HDH:=zH HDN;clear hn1 HDN;go_wp2_with fail;refine S4.out.mono ?_;rintro e w9 ⟨rfl,n9,rfl⟩;have B9:Hid (Below W0.heap.size W0 (w8.drewN n9)):=zH (B8.out.trans (Ja _ _));have DP9:Hid (Dg (w8.drewN n9) PA Pc (nd pt)):=zH (DP.out.below (Ja _ _));have DR9:Hid (Dg (w8.drewN n9) RA1 Rc1 (nd rest)):=zH (DR8.out.below (Ja _ _));clear S4 DP DR8 B8;generalize w8.drewN n9 = w9 at *
      have S5:=zH (Zcl RA1 PA Rc1 Pc (nd rest) (nd pt) w9 DR9.out DP9.out (Ji hc) (by omega) (rest - pt) (zH (by rw [Jo,Jo];omega)));go_wp2_with fail;refine S5.out.mono ?_;rintro e wx ⟨XA,Xc,rfl,x1,x2⟩;have BX:=zH (B9.out.trans (x2.mono B9.out.size));have HX1:=zH (J9 x1 (tR hsr B9.out.size));have HQX:=zH (Jr HQO.out BX.out);have HBX:=zH (HB.out.trans (BX.out.mono (by omega)));obtain ⟨q1,q2⟩:=J5 HQX.out HD.out.len hjm;clear x1 x2 S5;go_wp2_with fail;exact ⟨⟨j,by omega,rfl,_,_,_,_,HDH,rfl,zH (J1 HX1.out (by simp) _),zH (Xi HQX.out j _),zH (HBX.out.setCell (by simp) _)⟩,by simp [intOf]⟩
theorem QR (A B:Option Addr) (c d x y:Nat) (w:World) (hA:Dg w A c (nd x)) (hB:Dg w B d (nd y)) (hx:(nd x).length <= 400000) (y0:y ≠ 0) :
  Calls Tryz.prog 186 #[.slice A (nd x).length c,.slice B (nd y).length d] w (UY (x / y) (x % y) w):=by
 rcases Nat.lt_or_ge x y with h | h
 ·exact Zhx A B c d x y w hA hB hx h
 ·by_cases h1:(nd y).length = 1
  ·have h2:=ZE y;rw [h1] at h2;exact ZfQ A B c d x y w hA hB hx h y0 (by omega)
  ·exact Zd1 A B c d x y w hA hB hx h y0 h1
theorem ZfP (A B:Option Addr) (c d x y:Nat) (w:World) (hA:Dg w A c (nd x)) (hB:Dg w B d (nd y)) (hx:(nd x).length <= 400000) (hy:(nd y).length <= 400000) :
  Calls Tryz.prog 185 #[.slice A (nd x).length c,.slice B (nd y).length d] w (Yo (x.gcd y) w):=by
 have HA:=zH hA;have HB:=zH hB;have HG:Hid (x.gcd y = x.gcd y):=zH rfl;have H0:=zH (Below.refl w.heap.size w);clear hA hB;generalize hg:x.gcd y = g at *
 have HG2:=zH hg;clear hg HG;go_enter Tryz.func185,Tryz.ntmps185;go_wp2_with fail
 go_loopg [0,1,5,6] y (fun k a b _ _ wr=>∃ p A c B d,a = .slice A (nd p).length c /\ b = .slice B (nd k).length d /\ Hid (Dg wr A c (nd p)) /\ Hid (Dg wr B d (nd k)) /\ (nd p).length <= 400000 /\ (nd k).length <= 400000 /\ Hid (p.gcd k = g) /\ Hid (Below w.heap.size w wr))
 case atStart=>exact ⟨x,A,c,B,d,rfl,rfl,HA,HB,hx,hy,HG2,H0⟩
 case round=>
  obtain ⟨p,PA,pc,QA,qc,rfl,rfl,HP,HQ,lp,lq,HGG,HBW⟩:=hrel;by_cases h0:gk = 0
  ·subst h0;have hl:((nd 0).length:Nat) = 0:=(by rw [JE];rfl);have HE:Hid (p = g):=zH (by have:=HGG.out;rwa [Nat.gcd_zero_right] at this);rw [hl];clear hl;go_wp2_with fail;go_ret;rw [<- HE.out];exact ⟨PA,pc,rfl,HP.out.lies,HP.out.cap,HP.out.nil,HBW.out⟩
  ·have hl:(nd gk).length ≠ 0:=fun e=>h0 (Js.1 e);have hl2:(0:Int) < ((nd gk).length:Int):=(by omega);have C:=zH (QR PA QA pc qc p gk wr HP.out HQ.out lp h0);have hm:p % gk < gk:=Nat.mod_lt _ (by omega);have lm:(nd (p % gk)).length <= 400000:=tR (Ji (Nat.le_of_lt hm)) lq;have HE:Hid (gk.gcd (p % gk) = g):=zH (by rw [<- HGG.out,Nat.gcd_comm,<- Nat.gcd_rec,Nat.gcd_comm]);generalize p % gk = r at *
   generalize p / gk = q at *
   clear hl;go_wp2_with fail;refine C.out.mono ?_;rintro e w' ⟨A1,c1,A2,c2,rfl,d1,d2,hb⟩;have HQ2:=zH (HQ.out.below hb);have HD2:=zH d2;have HB2:=zH (HBW.out.trans (hb.mono HBW.out.size));clear d1 d2 hb;go_wp2_with fail
   go_roundg r
   case measure=>exact hm
   case rel=>exact ⟨gk,QA,qc,A2,c2,rfl,rfl,HQ2,HD2,lq,lm,HE,HB2⟩
theorem Uh (A B:Option Addr) (c d:Nat) (a b:List Int) (w:World) (hA0:Dg w A c a) (hB0:Dg w B d b) (hn:a.length <= 900000) (hm:b.length <= 900000)
  (v:Nat) (hv:Hid (vl a + vl b = v)) :
  Calls Tryz.prog 95 #[.slice A a.length c,.slice B b.length d] w (Yo v w):=by
 obtain ⟨j0,hj0,ky0,ky1,ky2⟩:=info_parts XJ;have KI:=zH hj0;have KZ0:=zH ky0;have KZ1:=zH ky1;have KZ2:=zH ky2;clear hj0 ky0 ky1 ky2;obtain ⟨N,hN⟩:∃ N:Nat,N = max a.length b.length:=⟨_,rfl⟩;have la:a.length <= N:=by omega
 have lb:b.length <= N:=by omega
 have NB:N <= 900000:=by omega
 have HST:=zH (PlusAt.start a b);have da:=zH hA0.dig;have db:=zH hB0.dig;have hA:=hA0.lies;have hB:=hB0.lies;have HZ:∀ k out q,Hid (PlusAt a b out k q -> N + 1 <= k -> q = 0):=fun k out q=>zH (fun HM hk=>by
  have hval:=HM.val;rw [List.take_of_length_le (show a.length <= k by omega),List.take_of_length_le (show b.length <= k by omega)] at hval;have e1:=Xx (vl a).toNat (vl b).toNat N (tR (JD da.out (by have:=Jw da.out;omega)) la) (tR (JD db.out (by have:=Jw db.out;omega)) lb);have e2:v < 4294967296 ^ k:=by
   have a0:=Jw da.out;have b0:=Jw db.out;have e3:(vl a).toNat + (vl b).toNat = v:=(by have:=hv.out;omega);rw [e3] at e1;exact Nat.lt_of_lt_of_le (ZE v) (Nat.pow_le_pow_right (by decide) (by omega))
  have e4:=Jw HM.dig;rw [Qa] at hval;have:=hv.out;have h0:=HM.c0;have h1:=HM.c1;rcases (show q = 0 ∨ q = 1 by omega) with rfl | rfl
  ·rfl
  ·exfalso;rw [Int.mul_one] at hval;omega)
 clear hA0 hB0 hN;go_enter Tryz.func95,Tryz.ntmps95;go_wp2_with fail;go_loopw [5,6,7] (fun s cy i wr=>∃ k:Nat,k <= N + 1 /\ i = .int .i64 k /\ ∃ out A' c' q,Hid (PlusAt a b out k q) /\ cy = .int .u64 q /\ s = .slice A' k c' /\ wr.ownsRow w.heap.size 170 1 (.slice A' k c') k (ucs out) /\ Below w.heap.size w wr) (fun _ _ i _=>N + 1 - (intOf i).toNat)
 case atStart=>exact ⟨0,by omega,rfl,[],none,0,0,HST,rfl,rfl,World.ownsRow_nil _ _ _ _,Below.refl _ _⟩
 case round=>
  obtain ⟨k,hk,rfl,out,A',c',q,HM,rfl,rfl,r1,r2⟩:=hrel;clear HST;have h0:=HM.out.c0;have h1:=HM.out.c1;have hs2:w.heap.size <= wr.heap.size:=r2.size;have d1:=JH da.out k;have d2:=JH db.out k;have hz:=(HZ k out q).out HM.out;have hk2:k = N + 1 -> q = 0:=fun e=>hz (by omega);have HX0:=zH (HM.out.next da.out db.out (t:=q + a[k]?.getD 0 + b[k]?.getD 0) rfl);have HB:=zH (hB.below r2);have HA:=zH (hA.below r2);clear hz;by_cases hka:k < a.length
  ·obtain ⟨b1,o1,rfl,hb1,hc1⟩:=HA.out.uat hka;clear hk2;by_cases hkb:k < b.length
   ·obtain ⟨b2,o2,rfl,hb2,hc2⟩:=HB.out.uat hkb;have HX:=zH HX0.out;generalize a[k]?.getD 0 = x at *
    generalize b[k]?.getD 0 = y at *
    go_wp2_with (at_builtin;refine Jg _ rfl (.tmp 46) (.tmp 49) _ rfl w.heap.size 170 j0 _ 1 4 Tryz.underlying29 KI.out KZ0.out KZ1.out KZ2.out rfl (by omega) (.slice A' k c') k (ucs out) rfl (r1.alloc _) (some ⟨wr.heap.size,0,none⟩) 1 1 [Value.int .u32 ((q + x + y) % 4294967296)] rfl (fun e=>by cases e) (Xm _ _ _) (by simp) (by simp [Value.oneCell']) (by unfold maxLen;omega) (by omega) (by simp;omega) (k + 1) rfl ?_;intro A4 c4 w4 ho4 hg4 _);have hbel:Below w.heap.size w w4:=(r2.alloc hs2 _).grown hg4 (by simp;omega) (fun k hk=>(r1.lt k hk).1);exact ⟨⟨k + 1,by omega,by go_num,_,A4,c4,_,HX,rfl,rfl,by rw [Xh];exact ho4,hbel⟩,by simp [intOf];omega⟩
   ·have ey:b[k]?.getD 0 = 0:=(by rw [List.getElem?_eq_none (by omega)];rfl);have HX:=zH HX0.out;rw [ey,Int.add_zero] at HX;clear ey d2 HX0;generalize a[k]?.getD 0 = x at *
    go_wp2_with (at_builtin;refine Jg _ rfl (.tmp 46) (.tmp 49) _ rfl w.heap.size 170 j0 _ 1 4 Tryz.underlying29 KI.out KZ0.out KZ1.out KZ2.out rfl (by omega) (.slice A' k c') k (ucs out) rfl (r1.alloc _) (some ⟨wr.heap.size,0,none⟩) 1 1 [Value.int .u32 ((q + x) % 4294967296)] rfl (fun e=>by cases e) (Xm _ _ _) (by simp) (by simp [Value.oneCell']) (by unfold maxLen;omega) (by omega) (by simp;omega) (k + 1) rfl ?_;intro A4 c4 w4 ho4 hg4 _);have hbel:Below w.heap.size w w4:=(r2.alloc hs2 _).grown hg4 (by simp;omega) (fun k hk=>(r1.lt k hk).1);exact ⟨⟨k + 1,by omega,by go_num,_,A4,c4,_,HX,rfl,rfl,by rw [Xh];exact ho4,hbel⟩,by simp [intOf];omega⟩
  ·have ex:a[k]?.getD 0 = 0:=by rw [List.getElem?_eq_none (by omega)];rfl
   by_cases hkb:k < b.length
   ·obtain ⟨b2,o2,rfl,hb2,hc2⟩:=HB.out.uat hkb;have HX:=zH HX0.out;rw [ex,Int.add_zero] at HX;clear ex d1 HX0 hk2;generalize b[k]?.getD 0 = y at *
    go_wp2_with (at_builtin;refine Jg _ rfl (.tmp 46) (.tmp 49) _ rfl w.heap.size 170 j0 _ 1 4 Tryz.underlying29 KI.out KZ0.out KZ1.out KZ2.out rfl (by omega) (.slice A' k c') k (ucs out) rfl (r1.alloc _) (some ⟨wr.heap.size,0,none⟩) 1 1 [Value.int .u32 ((q + y) % 4294967296)] rfl (fun e=>by cases e) (Xm _ _ _) (by simp) (by simp [Value.oneCell']) (by unfold maxLen;omega) (by omega) (by simp;omega) (k + 1) rfl ?_;intro A4 c4 w4 ho4 hg4 _);have hbel:Below w.heap.size w w4:=(r2.alloc hs2 _).grown hg4 (by simp;omega) (fun k hk=>(r1.lt k hk).1);exact ⟨⟨k + 1,by omega,by go_num,_,A4,c4,_,HX,rfl,rfl,by rw [Xh];exact ho4,hbel⟩,by simp [intOf];omega⟩
   ·have ey:b[k]?.getD 0 = 0:=(by rw [List.getElem?_eq_none (by omega)];rfl);by_cases hq:q = 0
    ·have HD:Hid (vl out = v):=zH (by
      have h2:=HM.out;rw [hq] at h2;rw [h2.done (by omega) (by omega),hv.out])
     have DG:=zH HM.out.dig;have LN:=zH HM.out.len;have LO:=zH (Lies.of_own r1);obtain ⟨k1,k2⟩:=Xj r1;have hcall:=fun W (hW:Lies W A' (ucs out))=>JL A' c' out W hW DG (by rw [LN.out];exact k1) (by rw [LN.out];omega) v HD;rw [LN.out] at hcall;have HC:=zH hcall;subst hq;clear hcall h0 h1 ex ey d1 d2 HX0 hk2;go_wp2_with fail;refine (HC.out _ LO.out).mono ?_;rintro e w' ⟨rfl,rfl⟩;go_wp2_with fail;go_ret;exact ⟨A',c',rfl,LO.out.ndl DG.out HD.out,by have:=JD DG.out HD.out;rw [LN.out] at this;omega,k2,r2⟩
    ·obtain rfl:q = 1:=(by omega);have hkN:k < N + 1:=by
      rcases Nat.lt_or_ge k (N + 1) with h | h
      ·exact h
      ·exact absurd (hk2 (by omega)) (by decide)
     have HX:=zH HX0.out;rw [ex,ey,show (1:Int) + 0 + 0 = 1 by rfl,show (1:Int) % 4294967296 = 1 by rfl,show (1:Int) / 4294967296 = 0 by rfl] at HX;clear ex ey d1 d2 HX0 hk2;go_wp2_with (at_builtin;refine Jg _ rfl (.tmp 46) (.tmp 49) _ rfl w.heap.size 170 j0 _ 1 4 Tryz.underlying29 KI.out KZ0.out KZ1.out KZ2.out rfl (by omega) (.slice A' k c') k (ucs out) rfl (r1.alloc _) (some ⟨wr.heap.size,0,none⟩) 1 1 [Value.int .u32 (1)] rfl (fun e=>by cases e) (Xm _ _ _) (by simp) (by simp [Value.oneCell']) (by unfold maxLen;omega) (by omega) (by simp;omega) (k + 1) rfl ?_;intro A4 c4 w4 ho4 hg4 _);have hbel:Below w.heap.size w w4:=(r2.alloc hs2 _).grown hg4 (by simp;omega) (fun k hk=>(r1.lt k hk).1);exact ⟨⟨k + 1,by omega,by go_num,_,A4,c4,_,HX,rfl,rfl,by rw [Xh];exact ho4,hbel⟩,by simp [intOf];omega⟩
theorem Zc2 (x:Int) (h0 : 0 <= x) (h1:x <= 4294967295):bits .and .u32 x 1 = x % 2:=by
 obtain ⟨n,rfl⟩:=Int.eq_ofNat_of_zero_le h0;have h:=u32_and_nat n 1 (by omega) (by omega);rw [Nat.and_one_is_mod] at h;exact h.trans (by simp)
theorem Uk (A:Option Addr) (c:Nat) (a:List Int) (w:World) (hA:Dg w A c a) (hn:a.length <= 900000) (v:Nat) (hv:Hid (vl a = v)) :
  Calls Tryz.prog 146 #[.slice A a.length c] w (Yo (v / 2) w):=by
 obtain ⟨w1,hmk,ho1,hb1⟩:=XN w a.length (by omega) w.heap.size nR;obtain ⟨g,hg⟩:∃ g,g = w.heap.size:=⟨_,rfl⟩;rw [<- hg] at ho1 hmk;have HG:Hid (w.heap.size <= g):=by show _ <= _;omega
 have da:=zH hA.dig;have LA:=zH hA.lies;have HST:Hid ((List.replicate a.length (0:Int)).length = a.length /\ dgs (List.replicate a.length 0) /\ ∀ j,a.length <= j -> j < a.length -> (List.replicate a.length (0:Int))[j]?.getD 0 = Zie a j):=zH ⟨by simp,J7 _,fun j h1 h2=>by omega⟩;have HC0:Hid (a[a.length]?.getD 0 % 2 = 0):=zH (by rw [List.getElem?_eq_none nR];rfl);clear hg hA;go_enter Tryz.func146,Tryz.ntmps146;go_wp2_with fail;clear hmk;go_loopw [4,5] (fun cy i wr=>∃ k:Nat,k <= a.length /\ i = .int .i64 ((k:Int) - 1) /\ cy = .int .u32 (a[k]?.getD 0 % 2) /\ ∃ out,Hid (out.length = a.length /\ dgs out /\ ∀ j,k <= j -> j < a.length -> out[j]?.getD 0 = Zie a j) /\ wr.ownsRow g 170 1 (.slice (some ⟨g,0,none⟩) a.length a.length) a.length (ucs out) /\ Below w.heap.size w wr) (fun _ i _=>(intOf i + 1).toNat)
 case atStart=>exact ⟨a.length,Nat.le_refl _,rfl,by rw [HC0.out],_,HST,ho1,hb1⟩
 case round=>
  obtain ⟨k,hk,rfl,rfl,out,HM,r1,r2⟩:=hrel;clear HST ho1 HC0;have hol:=HM.out.1;by_cases h0:k = 0
  ·subst h0;have VV:Hid (vl out = ((v / 2:Nat):Int)):=zH (by rw [ZjA da.out hol (fun i hi=>HM.out.2.2 i (Nat.zero_le _) hi),hv.out];simp);have DG:=zH HM.out.2.1;have LO:=zH (Lies.of_own r1);have HL:=zH hol;have hcall:=fun W (hW:Lies W (some ⟨g,0,none⟩) (ucs out))=>JL (some ⟨g,0,none⟩) a.length out W hW DG (by omega) (by omega) (v / 2) VV;rw [hol] at hcall;have HC:=zH hcall;have HR2:=zH r2;clear hcall hol r1 r2;go_wp2_with fail;refine (HC.out _ LO.out).mono ?_;rintro e w' ⟨rfl,rfl⟩;go_wp2_with fail;go_ret;exact ⟨_,_,rfl,LO.out.ndl DG.out VV.out,by have:=JD DG.out VV.out;rw [HL.out] at this;omega,(fun e=>by cases e),HR2.out⟩
  ·obtain ⟨j,rfl⟩:∃ j,k = j + 1:=⟨k - 1,by omega⟩;have ej:(((j + 1:Nat):Int) - 1) = (j:Int):=(by omega);rw [ej];obtain ⟨b1,o1,eA,hb0,-⟩:=LA.out.uat (k:=j) (by omega);subst eA;have hc1:wr.cell? ⟨b1,o1 + j,none⟩ = some (.int .u32 (a[j]?.getD 0)):=by
    obtain ⟨b2,o2,e2,hb2,hc2⟩:=(LA.out.below r2).uat (k:=j) (by omega);cases e2;exact hc2
   have hne:¬ b1 = g:=(by have:=HG.out;omega);have hne':¬ g = b1:=(by have:=HG.out;omega);have dx:=JH da.out j;have dy:=JH da.out (j + 1);obtain ⟨q1,q2⟩:=J5 r1 hol (show j < a.length by omega);have HO:=zH r1;have HR2:=zH r2;have HS:Hid (∀ t,t = Zie a j -> 0 <= t -> t <= 4294967295 -> (out.set j t).length = a.length /\ dgs (out.set j t) /\ ∀ q,j <= q -> q < a.length -> (out.set j t)[q]?.getD 0 = Zie a q):=zH (fun t ht t0 t1=>⟨by simp [hol],Zd HM.out.2.1 _ t0 t1,fun q h1 h2=>by
    by_cases e:q = j
    ·subst e;rw [List.getElem?_set_self (by omega),<- ht];rfl
    ·rw [List.getElem?_set_ne (by omega)];exact HM.out.2.2 q (by omega) h2⟩)
   have HAt:Hid (Zie a j = a[j]?.getD 0 / 2 + a[j + 1]?.getD 0 % 2 * 2147483648):=zH rfl;generalize hx:a[j]?.getD 0 = x at *
   have HXE:=zH hx;clear hx;generalize a[j + 1]?.getD 0 = y at *
   have po:=QD (x / 2) (y % 2 * 2147483648) 31 (by omega) (by have:((2:Int) ^ 31) = 2147483648:=rfl;omega) (by omega) (by omega) (by have:((2:Int) ^ 31) = 2147483648:=rfl;omega) (by omega);have pw:IntKind.u32.wrap (y % 2 * 2147483648) = y % 2 * 2147483648:=IntWalk.u32_in _ (by omega);have pa:=Zc2 x dx.1 dx.2;have HF:=zH (HS.out _ HAt.out.symm (by omega) (by omega));clear r1 r2 hol HS hv ej;go_wp2_with fail;exact ⟨⟨j,by omega,rfl,by rw [HXE.out],_,HF,Xi HO.out j _,HR2.out.setCell (by exact HG.out) _⟩,by simp [intOf]⟩
theorem X8 (A:Option Addr) (c x:Nat) (w:World) (hA:Lies w A (ucs (nd x))) (b:Bool) (hb:Hid (decide (x % 2 = 0) = b)) :
  Calls Tryz.prog 145 #[.slice A (nd x).length c] w fun e w'=>e = .returned (.bool b) /\ w = w':=by
 by_cases h0:x = 0
 ·have HB:Hid (b = true):=zH (by rw [<- hb.out,h0];rfl);have hl:(nd x).length = 0:=by rw [h0,JE];rfl
  rw [hl];clear hl h0;go_enter Tryz.func145,Tryz.ntmps145;go_wp2_with fail;go_ret;exact ⟨Jm (by rw [HB.out]),rfl⟩
 ·have hl:(nd x).length ≠ 0:=fun e=>h0 (Js.1 e);have q0:(((nd x).length:Int) == 0) = false:=beq_eq_false_iff_ne.2 (by omega);obtain ⟨b1,o1,rfl,hb1,hc1⟩:=hA.uat (k:=0) (by omega);rw [Za2] at hc1;simp only [Nat.pow_zero,Nat.div_one,Nat.add_zero] at hc1;have hlp:(0:Int) < ((nd x).length:Int):=by omega
  have HB:Hid (b = (((x % 4294967296:Nat):Int) % 2 == 0)):=zH (by
   rw [<- hb.out,Bool.eq_iff_iff];simp;omega)
  have hr : 0 <= ((x % 4294967296:Nat):Int) /\ ((x % 4294967296:Nat):Int) <= 4294967295:=by omega
  generalize ((x % 4294967296:Nat):Int) = z at *
  generalize (nd x).length = m at *
  clear hl h0;go_enter Tryz.func145,Tryz.ntmps145;go_wp2_with fail;go_ret;exact ⟨Jm (by rw [HB.out]),rfl⟩
theorem ZgR (A:Option Addr) (c x:Nat) (w:World) (hA:Lies w A (ucs (nd x))) (hc:(nd x).length <= c) (hn:(nd x).length <= 900000) :
  Calls Tryz.prog 147 #[.slice A (nd x).length c] w fun e w'=>∃ n:Nat,x < 2 ^ n /\ n <= 32 * (nd x).length /\ e = .returned (.int .i64 n) /\ w = w':=by
 have HT:=zH (JL A c (nd x) w hA (zH (Jy x)) hc (by omega) x (zH (Jo x)));by_cases h0:x = 0
 ·have hl:(nd x).length = 0:=by rw [h0,JE];rfl
  rw [hl] at HT ⊢;have HX:Hid (x < 2 ^ 0):=zH (by rw [h0];decide);clear hl h0;go_enter Tryz.func147,Tryz.ntmps147;go_wp2_with fail;refine HT.out.mono ?_;rintro e w' ⟨rfl,rfl⟩;go_wp2_with fail;go_ret;exact ⟨0,HX.out,by omega,rfl,rfl⟩
 ·have hl:(nd x).length ≠ 0:=fun e=>h0 (Js.1 e);have q0:(((nd x).length:Int) == 0) = false:=beq_eq_false_iff_ne.2 (by omega);obtain ⟨t1,t2,t3⟩:=ZeG h0;obtain ⟨b1,o1,rfl,hb1,hc1⟩:=hA.uat (k:=(nd x).length - 1) (by omega);rw [t1] at hc1;have i0:(((nd x).length:Int) - 1).toNat = (nd x).length - 1:=by omega
  have HXB:Hid (∀ s,x / 4294967296 ^ ((nd x).length - 1) / 2 ^ s = 0 -> x < 2 ^ (32 * ((nd x).length - 1) + s)):=zH (fun s hs=>by
   rw [Nat.div_div_eq_div_mul,U9,<- Nat.pow_add] at hs;exact (Nat.div_eq_zero_iff_lt (Nat.pow_pos (by decide))).1 hs)
  generalize ht:x / 4294967296 ^ ((nd x).length - 1) = t at *
  clear ht t1;generalize hm:(nd x).length = m at *
  have HS:Hid ((t:Int) = ((t / 2 ^ 0:Nat):Int)):=zH (by simp);have em:((32 * (m - 1):Nat):Int) = 32 * ((m:Int) - 1):=by omega
  go_enter Tryz.func147,Tryz.ntmps147;go_wp2_with fail;refine HT.out.mono ?_;rintro e w' ⟨rfl,rfl⟩;go_wp2_with fail;go_loop [3,4] (fun n y=>∃ s:Nat,s <= 32 /\ n = .int .i64 (32 * ((m:Int) - 1) + s) /\ y = .int .u32 ((t / 2 ^ s:Nat):Int)) (fun _ y=>(intOf y).toNat)
  case atStart=>exact ⟨0,by omega,by simp,by rw [HS.out]⟩
  case round=>
   obtain ⟨s,hs,rfl,rfl⟩:=hrel;clear HS;by_cases hz:t / 2 ^ s = 0
   ·have HF:=zH (HXB.out s hz);have hz':((t / 2 ^ s:Nat):Int) = 0:=(by omega);rw [hz'];clear hz hz';go_wp2_with fail;go_ret;exact ⟨32 * (m - 1) + s,HF.out,by omega,JU (by omega),rfl⟩
   ·have hs2:s < 32:=by
     rcases Nat.lt_or_ge s 32 with h | h
     ·exact h
     ·exfalso;have h1:=Nat.pow_le_pow_right (show 0 < 2 by decide) h;exact hz (Nat.div_eq_of_lt (by omega))
    have hd:t / 2 ^ (s + 1) = t / 2 ^ s / 2:=(by rw [Nat.pow_succ,Nat.div_div_eq_div_mul]);have hb:t / 2 ^ s <= 4294967295:=tR (Nat.div_le_self _ _) (by omega);have HD:=zH hd;clear hd;generalize t / 2 ^ s = y at *
    have hy:(0:Int) < (y:Int):=(by omega);go_wp2_with fail;exact ⟨⟨s + 1,by omega,by go_num,by rw [HD.out];simp⟩,by simp [intOf];omega⟩
end Go.Proofs.YtlgdlenoohkipaaGreat
