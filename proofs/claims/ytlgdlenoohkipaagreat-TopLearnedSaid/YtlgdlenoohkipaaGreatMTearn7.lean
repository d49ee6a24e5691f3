/- TopLearned -/
import Derived.Test.YtlgdlenoohkipaaGreatMTearn6
import Derived.Deep.CutBlock
set_option maxRecDepth 100000
set_option maxHeartbeats 32000000
namespace Go.Proofs.YtlgdlenoohkipaaGreat
open Go.RowKit Ear

theorem QV (A:Option Addr) (c n:Nat) (w:World) (h:Dg w A c (nd n)) (hn:(nd n).length <= 1000000):Calls Tryz.prog 43 #[.slice A (nd n).length c] w fun e w'=>e = .returned (.slice A (nd n).length c) /\ w = w':=
 JL A c (nd n) w h.lies (zH h.dig) h.cap (by omega) n (zH (Jo n))
theorem ZaX {w:World} {base n c:Nat} {A:Option Addr} {l:List Int} (h:w.ownsRow base 170 1 (.slice A n c) n (ucs l)) (hl:l.length = n) (hd:dgs l) (hn:n <= 1000000) {v:Nat} (hv:vl l = v) :
  Calls Tryz.prog 43 #[.slice A n c] w fun e w'=>e = .returned (.slice A (nd v).length c) /\ w = w' /\ Dg w A c (nd v):=by
 subst hl;have hD:=ZY h hd;exact (JL A c l w hD.lies (zH hd) hD.cap (by omega) v (zH hv)).mono fun e w' hR=>⟨hR.1,hR.2,hD.nd hv⟩
theorem ZdG (A B:Option Addr) (c d x y:Nat) (w:World) (hA:Dg w A c (nd x)) (hB:Dg w B d (nd y)) (hn:(nd x).length <= 900000) (y0:y ≠ 0) (y1:y <= 4294967295) :
  Calls Tryz.prog 100 #[.slice A (nd x).length c,.slice B (nd y).length d] w (UY (x / y) (x % y) w):=by
 have e:nd y = [(y:Int)]:=by
  rw [YO y0,show y / 4294967296 = 0 by omega,JE,show y % 4294967296 = y by omega]
 have T1:=zH (QV A c x w hA (by omega));have T2:=zH (QV B d y w hB (by rw [e];simp));rw [e] at hB T2;rw [e];obtain ⟨bk,off,rfl,hbk,hc⟩:=hB.lies.uat (k:=0) (by simp);simp only [List.getElem?_cons_zero,Option.getD_some,Nat.add_zero] at hc;simp only [List.length_cons,List.length_nil,Nat.zero_add] at T2 ⊢;obtain ⟨w1,hmk,ho1,hb1⟩:=XN w (nd x).length (by omega) w.heap.size nR;obtain ⟨g,hg⟩:∃ g,g = w.heap.size:=⟨_,rfl⟩;have hne:¬ bk = g:=by omega
 have hne':¬ g = bk:=by omega
 have HBK:Hid (bk < w.heap.size):=hbk;rw [<- hg] at ho1 hmk;have HG:Hid (w.heap.size <= g):=by show _ <= _;omega
 have HST:=zH (OverAt.start (nd x) (d:=y) (by omega));have HC:=zH hc;have LA:=zH hA.lies;have DX:=zH (Jy x);have VX:=zH (Jo x);clear hg hA hB e hc;have hmod:x % y <= 4294967295:=by have:=Nat.mod_lt x (show 0 < y by omega);omega
 generalize nd x = a at *
 go_enter Tryz.func100,Tryz.ntmps100;go_wp2_with fail;refine T1.out.mono ?_;rintro e w' ⟨rfl,rfl⟩;go_wp2_with fail;refine T2.out.mono ?_;rintro e w' ⟨rfl,rfl⟩;clear T1 T2;go_wp2_with fail;clear hmk;go_loopw [7,8] (fun rs i wr=>∃ k:Nat,k <= a.length /\ i = .int .i64 ((k:Int) - 1) /\ ∃ out r,Hid (OverAt a out y k r) /\ rs = .int .u64 r /\ wr.ownsRow g 170 1 (.slice (some ⟨g,0,none⟩) a.length a.length) a.length (ucs out) /\ Below w.heap.size w wr) (fun _ i _=>(intOf i + 1).toNat)
 case atStart=>exact ⟨a.length,Nat.le_refl _,rfl,_,_,HST,rfl,ho1,hb1⟩
 case round=>
  obtain ⟨k,hk,rfl,out,r,HM,rfl,r1,r2⟩:=hrel;clear HST ho1;have h0:=HM.out.r0;have h1:=HM.out.r1;have hol:=HM.out.len;by_cases hz:k = 0
  ·subst hz;obtain ⟨f1,f2⟩:=HM.out.done;have HT:=zH (ZaX r1 hol HM.out.dig (by omega) (v:=x / y) (by rw [f1,VX.out];simp));have HR2:=zH r2;have HE:Hid (r = ((x % y:Nat):Int)):=zH (by rw [f2,VX.out];simp);obtain rfl:=HE.out;have HV1:Hid (vl [((x % y:Nat):Int)] = ((x % y:Nat):Int)):=zH (by simp [vl]);generalize x % y = z at *
   have hz0 : 0 <= (z:Int) /\ (z:Int) <= 4294967295:=(by omega);clear r1 r2 hol f1 f2 HM HE;go_wp2_with fail;refine HT.out.mono ?_;rintro e w' ⟨rfl,rfl,t1⟩;have D1:=zH (Zfv wr (z:Int) hz0 170);have T3:=zH (JL (some ⟨wr.heap.size,0,none⟩) 1 [(z:Int)] _ D1.out.lies (zH D1.out.dig) (by simp) (by simp) z HV1);have HD1:=zH (D1.out.nd HV1.out);have HA1:=zH (t1.below ((Below.refl _ wr).alloc nR (.cells #[.int .u32 (z:Int)] 170)));have HB1:=zH (HR2.out.alloc HR2.out.size (.cells #[.int .u32 (z:Int)] 170));simp only [List.length_cons,List.length_nil,Nat.zero_add] at T3;clear t1 D1;go_wp2_with fail;refine T3.out.mono ?_;rintro e w' ⟨rfl,rfl⟩;go_wp2_with fail;go_ret2;exact ⟨_,_,_,_,rfl,HA1.out,HD1.out,HB1.out⟩
  ·obtain ⟨j,rfl⟩:∃ j,k = j + 1:=⟨k - 1,by omega⟩;have ej:(((j + 1:Nat):Int) - 1) = (j:Int):=(by omega);rw [ej];obtain ⟨b1,o1,rfl,hb1,hc1⟩:=(LA.out.below r2).uat (k:=j) (by omega);have hc:wr.cell? ⟨bk,off,none⟩ = some (.int .u32 (y:Int)):=(r2.cell (p:=⟨bk,off,none⟩) HBK.out).trans HC.out;have dx:=JH DX.out j;obtain ⟨q1,q2⟩:=J5 r1 hol (show j < a.length by omega);have HN:=zH (fun t ht=>HM.out.next DX.out (by omega) (t:=t) ht);generalize a[j]?.getD 0 = x1 at *
   have HF:=zH (HN.out _ rfl);have HO:=zH r1;have HR2:=zH r2;have dz:((y:Int) == 0) = false:=(by simp;omega);have pw:IntKind.u64.wrap (r * 4294967296) = r * 4294967296:=IntWalk.u64_in _ (by omega);have po:=VK r x1 (by omega) (by omega) dx.1 dx.2;have pq:=VJ h0 h1 dx.1 dx.2;have e32:(r * 4294967296 + x1) / (y:Int) % 4294967296 = (r * 4294967296 + x1) / (y:Int):=(by omega);clear HN hol r1 r2 pq ej;go_wp2_with fail;exact ⟨⟨j,by omega,rfl,_,_,HF,rfl,Xi HO.out j _,HR2.out.setCell (by exact HG.out) _⟩,by simp [intOf]⟩
theorem ZeD {a b:Nat} {out:List Int} {m i rest:Nat} (h:BitAt a b out m (i + 1) rest):bits .or .u32 (out[i / 32]?.getD 0) ((2:Int) ^ (i % 32)) = out[i / 32]?.getD 0 + (2:Int) ^ (i % 32):=by
 have h1:=Za7 h.low;rw [Zfu h.dig];generalize hx:(vl out).toNat / 4294967296 ^ (i / 32) % 4294967296 = x at *
 have hp : 2 ^ (i % 32) <= 2147483648:=Nat.pow_le_pow_right (show 0 < 2 by decide) (show i % 32 <= 31 by omega);rw [<- Z7,u32_or_nat _ _ (by omega) (by omega),ZiY h1];omega
theorem Zce (A B:Option Addr) (c d x y:Nat) (w:World) (hA:Dg w A c (nd x)) (hB:Dg w B d (nd y)) (hn:(nd x).length <= 400000) (hm:(nd y).length <= 400000) (y0:y ≠ 0) (y1:(nd y).length ≠ 1) :
  Calls Tryz.prog 100 #[.slice A (nd x).length c,.slice B (nd y).length d] w (UY (x / y) (x % y) w):=by
 have T1:=zH (QV A c x w hA (by omega));have T2:=zH (QV B d y w hB (by omega));have q1:(((nd y).length:Int) == 1) = false:=beq_eq_false_iff_ne.2 (by omega);obtain ⟨w1,hmk,ho1,hb1⟩:=XN w (nd x).length (by omega) w.heap.size nR;obtain ⟨g,hg⟩:∃ g,g = w.heap.size:=⟨_,rfl⟩;rw [<- hg] at ho1 hmk;have HG:Hid (w.heap.size <= g):=by show _ <= _;omega
 have HGE:=zH hg;have TB:=zH (ZgR A c x w1 (hA.lies.below hb1) hA.cap (by omega));have DA:=zH hA;have DB:=zH hB;have HY:Hid (0 < y):=zH (by omega);clear hA hB hg y1;go_enter Tryz.func100,Tryz.ntmps100;go_wp2_with fail;refine T1.out.mono ?_;rintro e w' ⟨rfl,rfl⟩;go_wp2_with fail;refine T2.out.mono ?_;rintro e w' ⟨rfl,rfl⟩;clear T1 T2;go_wp2_with fail;refine TB.out.mono ?_;rintro e w' ⟨n,hxn,hn32,rfl,rfl⟩;clear TB hmk;have HST:=zH (BitAt.start (m:=(nd x).length) hxn HY.out);have D0:Hid (Dg w1 none 0 (nd 0)):=zH (by rw [JE];exact Dg.none _);have L0:Hid ((nd 0).length = 0):=zH (by rw [JE];rfl);clear hxn;go_wp2_with fail;go_loopw [9,10] (fun rs i wr=>∃ k:Nat,k <= n /\ i = .int .i64 ((k:Int) - 1) /\ ∃ out rest RA Rc,Hid (BitAt x y out (nd x).length k rest) /\ rs = .slice RA (nd rest).length Rc /\ Hid (Dg wr RA Rc (nd rest)) /\ Hid (wr.ownsRow g 170 1 (.slice (some ⟨g,0,none⟩) (nd x).length (nd x).length) (nd x).length (ucs out)) /\ Hid (Below w.heap.size w wr)) (fun _ i _=>(intOf i + 1).toNat)
 case atStart=>exact ⟨n,Nat.le_refl _,rfl,_,0,none,0,HST,by rw [L0.out],D0,zH ho1,zH hb1⟩
 case round=>
  obtain ⟨k,hk,rfl,out,rest,RA,Rc,HM,rfl,HR,HO,HB⟩:=hrel;clear HST D0 L0 ho1 hb1;have hrs:=HM.out.small;have hrl:(nd rest).length <= 400000:=tR (Ji (Nat.le_of_lt hrs)) hm;by_cases hz:k = 0
  ·subst hz;obtain ⟨f1,f2⟩:=HM.out.done;have HT:=zH (ZaX HO.out HM.out.len HM.out.dig (by omega) (v:=x / y) f1);have HE:=zH f2;clear f1 f2;go_wp2_with fail;refine HT.out.mono ?_;rintro e w' ⟨rfl,rfl,t1⟩;go_wp2_with fail;go_ret2;exact ⟨_,_,RA,Rc,by rw [<- HE.out];rfl,t1,by rw [<- HE.out];exact HR.out,HB.out⟩
  ·obtain ⟨j,rfl⟩:∃ j,k = j + 1:=⟨k - 1,by omega⟩;have ej:(((j + 1:Nat):Int) - 1) = (j:Int):=(by omega);rw [ej];have hjx:j / 32 < (nd x).length:=(by omega);obtain ⟨b1,o1,eA,hb1,-⟩:=DA.out.lies.uat (k:=j / 32) hjx;subst eA;have HA1:=zH (fun W (hW:Below w.heap.size w W)=>(DA.out.below hW).lies);have hx1:=Za2 x (j / 32);have HBIT:=zH (Zi7 x j);have hx1b:x / 4294967296 ^ (j / 32) % 4294967296 <= 4294967295:=(by omega);generalize hxd:x / 4294967296 ^ (j / 32) % 4294967296 = xd at *
   have HXD:=zH hxd;clear hxd ej hz;have P1:=zH (Uh RA RA Rc Rc (nd rest) (nd rest) wr HR.out HR.out (by omega) (by omega) (2 * rest) (zH (by rw [Jo];omega)));go_wp2_with fail;refine P1.out.mono ?_;clear P1;rintro e w2 ⟨RA2,Rc2,rfl,p1,p2,p3,p4⟩;have DR2:=zH (Jz p1 p2 p3);have B2:=zH (HB.out.trans (p4.mono HB.out.size));have O2:=zH (Jr HO.out p4);clear p1 p2 p3 p4 HO HB HR;obtain ⟨b1',o1',e1,hb1',hc1⟩:=(HA1.out w2 B2.out).uat (k:=j / 32) hjx;cases e1;rw [hx1] at hc1;have hbd:xd / 2 ^ (j % 32) <= 4294967295:=tR (Nat.div_le_self _ _) hx1b;have eP:(xd:Int) / (2:Int) ^ (j % 32) = ((xd / 2 ^ (j % 32):Nat):Int):=(by rw [<- Z7];simp);have pa:=(fun (z:Nat) (hz:z <= 4294967295)=>Zc2 (z:Int) (by omega) (by omega)) _ hbd;rw [<- eP] at pa;have pb:((xd:Int) / (2:Int) ^ (j % 32)) % 2 = ((x / 2 ^ j % 2:Nat):Int):=(by rw [eP,<- HBIT.out];simp);rw [pb] at pa;clear eP pb hbd;by_cases hbit:x / 2 ^ j % 2 = 1
   ·rw [hbit] at pa;have pa1:bits BinOp.and IntKind.u32 ((xd:Int) / (2:Int) ^ (j % 32)) 1 = 1:=pa;have HB1:=zH hbit;clear pa hbit;have D1:=zH (Zfv w2 1 ⟨by decide,by decide⟩ 170);have A1:=zH ((Below.refl w2.heap.size w2).alloc nR (.cells #[.int .u32 1] 170));have P2:=zH (Uh RA2 (some ⟨w2.heap.size,0,none⟩) Rc2 1 (nd (2 * rest)) [1] _ (DR2.out.below A1.out) D1.out (by have:=Xx rest rest 400000 hrl hrl;rw [show 2 * rest = rest + rest by omega];omega) (by simp) (2 * rest + 1) (zH (by rw [Jo];simp [vl])));simp only [List.length_cons,List.length_nil,Nat.zero_add] at P2;go_wp2_with fail;refine P2.out.mono ?_;clear P2;rintro e w3 ⟨RA3,Rc3,rfl,p1,p2,p3,p4⟩;have DR3:=zH (Jz p1 p2 p3);have A2:=zH (A1.out.trans (p4.mono A1.out.size));have B3:=zH (B2.out.trans (A2.out.mono B2.out.size));have O3:=zH (Jr O2.out A2.out);clear p1 p2 p3 p4 D1 A1 A2 hc1;have rl:(nd (2 * rest + 1)).length <= 400001:=(by have:=Xx rest (rest + 1) 400000 hrl (tR (Ji (show rest + 1 <= y by omega)) hm);have:=Ji (show 2 * rest + 1 <= rest + (rest + 1) by omega);omega);have DB2:=zH (DB.out.below B3.out);by_cases hlt : 2 * rest + 1 < y
    ·have S4:=zH (XQ RA3 B Rc3 d (nd (2 * rest + 1)) (nd y) w3 DR3.out.lies DB2.out.lies (zH (Jy _)) (zH (Jy _)) DR3.out.cap DB2.out.cap (by omega) (by omega) (2 * rest + 1) y (zH (Jo _)) (zH (Jo _)) (-1) (zH (Yk hlt)));have HF:=zH (HM.out.next (r2:=2 * rest + 1) (by rw [HB1.out]) hlt);go_wp2_with fail;refine S4.out.mono ?_;rintro e w9 ⟨rfl,n9,rfl⟩;have B9:Hid (Below w.heap.size w (w3.drewN n9)):=zH (B3.out.trans (Ja _ _));have D9:Hid (Dg (w3.drewN n9) RA3 Rc3 (nd (2 * rest + 1))):=zH (DR3.out.below (Ja _ _));have O9:Hid ((w3.drewN n9).ownsRow g 170 1 (.slice (some ⟨g,0,none⟩) (nd x).length (nd x).length) (nd x).length (ucs out)):=zH (Jr O3.out (Ja _ _));clear S4;generalize w3.drewN n9 = w9 at *
     go_wp2_with fail;exact ⟨⟨j,by omega,rfl,_,_,_,_,HF,rfl,D9,O9,B9⟩,by simp [intOf]⟩
    ·obtain ⟨r3,hr3,hr30⟩:∃ r3,Ue (2 * rest + 1) y = r3 /\ 0 <= r3:=by
      rcases Nat.lt_or_ge y (2 * rest + 1) with h | h
      ·exact ⟨1,XX h,by decide⟩
      ·exact ⟨0,Yl (by omega),by decide⟩
     have S4:=zH (XQ RA3 B Rc3 d (nd (2 * rest + 1)) (nd y) w3 DR3.out.lies DB2.out.lies (zH (Jy _)) (zH (Jy _)) DR3.out.cap DB2.out.cap (by omega) (by omega) (2 * rest + 1) y (zH (Jo _)) (zH (Jo _)) r3 (zH hr3));clear hr3;obtain ⟨d0,d1,HF0⟩:=HM.out.take (r2:=2 * rest + 1) (by rw [HB1.out]) (by omega) hjx (d:=out[j / 32]?.getD 0 + (2:Int) ^ (j % 32)) rfl;have po:=ZeD HM.out;have HF:=zH HF0;clear HF0;go_wp2_with fail;refine S4.out.mono ?_;rintro e w9 ⟨rfl,n9,rfl⟩;have B9:Hid (Below w.heap.size w (w3.drewN n9)):=zH (B3.out.trans (Ja _ _));have D9:Hid (Dg (w3.drewN n9) RA3 Rc3 (nd (2 * rest + 1))):=zH (DR3.out.below (Ja _ _));have DB9:Hid (Dg (w3.drewN n9) B d (nd y)):=zH (DB2.out.below (Ja _ _));have O9:Hid ((w3.drewN n9).ownsRow g 170 1 (.slice (some ⟨g,0,none⟩) (nd x).length (nd x).length) (nd x).length (ucs out)):=zH (Jr O3.out (Ja _ _));clear S4;generalize w3.drewN n9 = w9 at *
     have S5:=zH (UI RA3 B Rc3 d (nd (2 * rest + 1)) (nd y) w9 D9.out.lies DB9.out.lies (zH (Jy _)) (zH (Jy _)) (Ji (by omega)) (by omega) (2 * rest + 1 - y) (zH (by rw [Jo,Jo];omega)));go_wp2_with fail;refine S5.out.mono ?_;rintro e wx ⟨XA,Xc,rfl,x1,x2,x3,x4,x5⟩;have BX:=zH (B9.out.trans (x4.mono B9.out.size));have OX:=zH (Jr O9.out x4);have hgl:g < w9.heap.size:=by
      obtain ⟨_,h2⟩:=O9.out;rcases h2 with ⟨h3,_⟩ | ⟨g',cap,cur,h3,_,h4,_⟩
      ·cases h3
      ·cases h3;exact (aE h4).1
     have DX:Hid (∀ v,Dg (wx.drew.setCell ⟨g,j / 32,none⟩ v) XA Xc (nd (2 * rest + 1 - y))):=zH (fun v=>⟨fun h0=>by
      obtain ⟨b,off,e,hb,hc⟩:=x1 h0;have h5:w9.heap.size <= b:=x5 _ e;exact ⟨b,off,e,by simpa using hb,fun q u hu=>by
       rw [<- hc q u hu];exact World.cell?_of_block (a:=⟨b,off + q,none⟩) (Below.heap_setCell _ ⟨g,j / 32,none⟩ v b (show b ≠ g by omega))⟩,Jy _,x2,x3⟩)
     obtain ⟨q1,q2⟩:=J5 OX.out HM.out.len hjx;have HS:=zH (fun v=>Xi (OX.out.drew) (j / 32) v);have pd:(out[j / 32]?.getD 0) % 4294967296 = out[j / 32]?.getD 0:=(by have:=JH HM.out.dig (j / 32);omega);have p2:((2:Int) ^ (j % 32)) % 4294967296 = (2:Int) ^ (j % 32):=by
      have h1:(2:Nat) ^ (j % 32) <= 2147483648:=Nat.pow_le_pow_right (show 0 < 2 by decide) (show j % 32 <= 31 by omega);rw [<- Z7 (j % 32)];generalize (2:Nat) ^ (j % 32) = P at *
      omega
     have pw:IntKind.u32.wrap ((2:Int) ^ (j % 32)) = (2:Int) ^ (j % 32):=(by rw [IntKind.wrap_u32'];exact p2);have i1:(j:Int) / 32 < ((nd x).length:Int):=(by omega);have i2:(0:Int) <= (j:Int) / 32:=(by omega);have i3:((j:Int) / 32).toNat = j / 32:=(by omega);have i4:IntKind.i64.wrap ((j:Int) / 32) = (j:Int) / 32:=IntWalk.i64_in _ (by omega);have i5:IntKind.i64.wrap ((j:Int) % 32) = (j:Int) % 32:=IntWalk.i64_in _ (by omega);have i6:((j:Int) % 32).toNat = j % 32:=(by omega);have it:(j:Int).tmod 32 = (j:Int) % 32:=Int.tmod_eq_emod_of_nonneg (by omega);have i7:(0:Int) <= (j:Int) % 32:=(by omega);have i8:(j:Int) % 32 < 32:=(by omega);have i9:Op.shift .shl .u32 1 .i64 ((j:Int) % 32) = pure (Value.int .u32 ((2:Int) ^ (j % 32))):=by
      rw [shift_shl_any _ _ _ _ i7,i6,show IntKind.u32.bits = 32 from rfl,Nat.min_eq_left (by omega),Int.one_mul,pw]
     clear x1 x2 x3 x4 x5 S5 d0 d1;generalize out[j / 32]?.getD 0 = od at *
     go_wp2_with fail;go_still_tail 13,(by kernel_rfl);repeat still_step
     go_wp2_with fail
    
     exact ⟨⟨j,by omega,rfl,_,_,_,_,HF,rfl,zH (DX.out _),zH (HS.out _),zH (BX.out.drew.setCell (by exact HG.out) _)⟩,by simp [intOf]⟩
   ·have hb0:x / 2 ^ j % 2 = 0:=(by omega);rw [hb0] at pa;have pa1:bits BinOp.and IntKind.u32 ((xd:Int) / (2:Int) ^ (j % 32)) 1 = 0:=pa;have HB1:=zH hb0;clear pa hbit hb0;have rl:(nd (2 * rest)).length <= 400001:=(by have:=Xx rest (rest + 1) 400000 hrl (tR (Ji (show rest + 1 <= y by omega)) hm);have:=Ji (show 2 * rest <= rest + (rest + 1) by omega);omega);have DB2:=zH (DB.out.below B2.out);by_cases hlt : 2 * rest < y
    ·have S4:=zH (XQ RA2 B Rc2 d (nd (2 * rest)) (nd y) w2 DR2.out.lies DB2.out.lies (zH (Jy _)) (zH (Jy _)) DR2.out.cap DB2.out.cap (by omega) (by omega) (2 * rest) y (zH (Jo _)) (zH (Jo _)) (-1) (zH (Yk hlt)));have HF:=zH (HM.out.next (r2:=2 * rest) (by rw [HB1.out];rfl) hlt);go_wp2_with fail;refine S4.out.mono ?_;rintro e w9 ⟨rfl,n9,rfl⟩;have B9:Hid (Below w.heap.size w (w2.drewN n9)):=zH (B2.out.trans (Ja _ _));have D9:Hid (Dg (w2.drewN n9) RA2 Rc2 (nd (2 * rest))):=zH (DR2.out.below (Ja _ _));have O9:Hid ((w2.drewN n9).ownsRow g 170 1 (.slice (some ⟨g,0,none⟩) (nd x).length (nd x).length) (nd x).length (ucs out)):=zH (Jr O2.out (Ja _ _));clear S4;generalize w2.drewN n9 = w9 at *
     go_wp2_with fail;exact ⟨⟨j,by omega,rfl,_,_,_,_,HF,rfl,D9,O9,B9⟩,by simp [intOf]⟩
    ·obtain ⟨r3,hr3,hr30⟩:∃ r3,Ue (2 * rest) y = r3 /\ 0 <= r3:=by
      rcases Nat.lt_or_ge y (2 * rest) with h | h
      ·exact ⟨1,XX h,by decide⟩
      ·exact ⟨0,Yl (by omega),by decide⟩
     have S4:=zH (XQ RA2 B Rc2 d (nd (2 * rest)) (nd y) w2 DR2.out.lies DB2.out.lies (zH (Jy _)) (zH (Jy _)) DR2.out.cap DB2.out.cap (by omega) (by omega) (2 * rest) y (zH (Jo _)) (zH (Jo _)) r3 (zH hr3));clear hr3;obtain ⟨d0,d1,HF0⟩:=HM.out.take (r2:=2 * rest) (by rw [HB1.out];rfl) (by omega) hjx (d:=out[j / 32]?.getD 0 + (2:Int) ^ (j % 32)) rfl;have po:=ZeD HM.out;have HF:=zH HF0;clear HF0;go_wp2_with fail;refine S4.out.mono ?_;rintro e w9 ⟨rfl,n9,rfl⟩;have B9:Hid (Below w.heap.size w (w2.drewN n9)):=zH (B2.out.trans (Ja _ _));have D9:Hid (Dg (w2.drewN n9) RA2 Rc2 (nd (2 * rest))):=zH (DR2.out.below (Ja _ _));have DB9:Hid (Dg (w2.drewN n9) B d (nd y)):=zH (DB2.out.below (Ja _ _));have O9:Hid ((w2.drewN n9).ownsRow g 170 1 (.slice (some ⟨g,0,none⟩) (nd x).length (nd x).length) (nd x).length (ucs out)):=zH (Jr O2.out (Ja _ _));clear S4;generalize w2.drewN n9 = w9 at *
     have S5:=zH (UI RA2 B Rc2 d (nd (2 * rest)) (nd y) w9 D9.out.lies DB9.out.lies (zH (Jy _)) (zH (Jy _)) (Ji (by omega)) (by omega) (2 * rest - y) (zH (by rw [Jo,Jo];omega)));go_wp2_with fail;refine S5.out.mono ?_;rintro e wx ⟨XA,Xc,rfl,x1,x2,x3,x4,x5⟩;have BX:=zH (B9.out.trans (x4.mono B9.out.size));have OX:=zH (Jr O9.out x4);have hgl:g < w9.heap.size:=by
      obtain ⟨_,h2⟩:=O9.out;rcases h2 with ⟨h3,_⟩ | ⟨g',cap,cur,h3,_,h4,_⟩
      ·cases h3
      ·cases h3;exact (aE h4).1
     have DX:Hid (∀ v,Dg (wx.drew.setCell ⟨g,j / 32,none⟩ v) XA Xc (nd (2 * rest - y))):=zH (fun v=>⟨fun h0=>by
      obtain ⟨b,off,e,hb,hc⟩:=x1 h0;have h5:w9.heap.size <= b:=x5 _ e;exact ⟨b,off,e,by simpa using hb,fun q u hu=>by
       rw [<- hc q u hu];exact World.cell?_of_block (a:=⟨b,off + q,none⟩) (Below.heap_setCell _ ⟨g,j / 32,none⟩ v b (show b ≠ g by omega))⟩,Jy _,x2,x3⟩)
     obtain ⟨q1,q2⟩:=J5 OX.out HM.out.len hjx;have HS:=zH (fun v=>Xi (OX.out.drew) (j / 32) v);have pd:(out[j / 32]?.getD 0) % 4294967296 = out[j / 32]?.getD 0:=(by have:=JH HM.out.dig (j / 32);omega);have p2:((2:Int) ^ (j % 32)) % 4294967296 = (2:Int) ^ (j % 32):=by
      have h1:(2:Nat) ^ (j % 32) <= 2147483648:=Nat.pow_le_pow_right (show 0 < 2 by decide) (show j % 32 <= 31 by omega);rw [<- Z7 (j % 32)];generalize (2:Nat) ^ (j % 32) = P at *
      omega
     have pw:IntKind.u32.wrap ((2:Int) ^ (j % 32)) = (2:Int) ^ (j % 32):=(by rw [IntKind.wrap_u32'];exact p2);have i1:(j:Int) / 32 < ((nd x).length:Int):=(by omega);have i2:(0:Int) <= (j:Int) / 32:=(by omega);have i3:((j:Int) / 32).toNat = j / 32:=(by omega);have i4:IntKind.i64.wrap ((j:Int) / 32) = (j:Int) / 32:=IntWalk.i64_in _ (by omega);have i5:IntKind.i64.wrap ((j:Int) % 32) = (j:Int) % 32:=IntWalk.i64_in _ (by omega);have i6:((j:Int) % 32).toNat = j % 32:=(by omega);have it:(j:Int).tmod 32 = (j:Int) % 32:=Int.tmod_eq_emod_of_nonneg (by omega);have i7:(0:Int) <= (j:Int) % 32:=(by omega);have i8:(j:Int) % 32 < 32:=(by omega);have i9:Op.shift .shl .u32 1 .i64 ((j:Int) % 32) = pure (Value.int .u32 ((2:Int) ^ (j % 32))):=by
      rw [shift_shl_any _ _ _ _ i7,i6,show IntKind.u32.bits = 32 from rfl,Nat.min_eq_left (by omega),Int.one_mul,pw]
     clear x1 x2 x3 x4 x5 S5 d0 d1;generalize out[j / 32]?.getD 0 = od at *
     go_wp2_with fail;go_still_tail 13,(by kernel_rfl);repeat still_step
     go_wp2_with fail
    
     exact ⟨⟨j,by omega,rfl,_,_,_,_,HF,rfl,zH (DX.out _),zH (HS.out _),zH (BX.out.drew.setCell (by exact HG.out) _)⟩,by simp [intOf]⟩
theorem QK (A B:Option Addr) (c d x y:Nat) (w:World) (hA:Dg w A c (nd x)) (hB:Dg w B d (nd y)) (hn:(nd x).length <= 400000) (hm:(nd y).length <= 400000) (y0:y ≠ 0) :
  Calls Tryz.prog 100 #[.slice A (nd x).length c,.slice B (nd y).length d] w (UY (x / y) (x % y) w):=by
 by_cases h1:(nd y).length = 1
 ·have h2:=ZE y;rw [h1] at h2;exact ZdG A B c d x y w hA hB (by omega) y0 (by omega)
 ·exact Zce A B c d x y w hA hB hn hm y0 h1
theorem Zhy {t p x n:Nat} (h:x = 2 ^ t * p) (hp:p ≠ 0) (hx:(nd x).length <= n):t < 32 * n:=by
 have h1:=ZE x;have h2 : 2 ^ t <= x:=by rw [h];exact Nat.le_mul_of_pos_right _ (by omega)
 have h3:(4294967296:Nat) ^ (nd x).length <= 4294967296 ^ n:=Nat.pow_le_pow_right (by decide) hx;rw [U9 n] at h3;have h4 : 2 ^ t < 2 ^ (32 * n):=Nat.lt_of_le_of_lt h2 (Nat.lt_of_lt_of_le h1 h3);exact (Nat.pow_lt_pow_iff_right (by decide)).1 h4
theorem Zgo (A B:Option Addr) (c d x y:Nat) (w:World) (hA:Dg w A c (nd x)) (hB:Dg w B d (nd y)) (hx:(nd x).length <= 400000) (hy:(nd y).length <= 400000) (x0:x ≠ 0) (y0:y ≠ 0) :
  Calls Tryz.prog 99 #[.slice A (nd x).length c,.slice B (nd y).length d] w (Yo (x.gcd y) w):=by
 have HA:=zH hA;have HB:=zH hB;have H0:=zH (Below.refl w.heap.size w);have HX0:Hid (x = 2 ^ 0 * x):=zH (by simp);have HY0:Hid (y = 2 ^ 0 * y):=zH (by simp);clear hA hB;go_enter Tryz.func99,Tryz.ntmps99;go_upto_block 0 with fail;go_cut [0,1,5] from 7 to 18 (fun a b tw wx=>∃ p q t g:Nat,∃ A c B d,a = .slice A (nd p).length c /\ b = .slice B (nd q).length d /\ tw = .int .i64 t /\ Hid (Dg wx A c (nd p)) /\ Hid (Dg wx B d (nd q)) /\ (nd p).length <= 400000 /\ (nd q).length <= 400000 /\ q ≠ 0 /\ t < 12800000 /\ Hid (GcdAt g p q) /\ Hid (x.gcd y = 2 ^ t * g) /\ Hid (Below w.heap.size w wx))
 case first=>
  go_wp2_with fail
  go_loopg [0,1,5] x (fun k a b tw wr=>∃ q t:Nat,∃ A c B d,k ≠ 0 /\ q ≠ 0 /\ a = .slice A (nd k).length c /\ b = .slice B (nd q).length d /\ tw = .int .i64 t /\ Hid (Dg wr A c (nd k)) /\ Hid (Dg wr B d (nd q)) /\ Hid (x = 2 ^ t * k) /\ Hid (y = 2 ^ t * q) /\ Hid (Below w.heap.size w wr))
  case atStart=>exact ⟨y,0,A,c,B,d,x0,y0,rfl,rfl,rfl,HA,HB,HX0,HY0,H0⟩
  case round=>
   obtain ⟨q,t,PA,pc,QA,qc,k0,q0,rfl,rfl,rfl,DP,DQ,EX,EY,HB⟩:=hrel;clear HA H0 HX0 HY0;have lk:(nd gk).length <= 400000:=tR (Ji (by rw [EX.out];exact Nat.le_mul_of_pos_left _ (Nat.pow_pos (by decide)))) hx;have lq:(nd q).length <= 400000:=tR (Ji (by rw [EY.out];exact Nat.le_mul_of_pos_left _ (Nat.pow_pos (by decide)))) hy;have ht:=Zhy EX.out k0 hx;obtain ⟨W0,rfl⟩:∃ X,X = wr:=⟨_,rfl⟩;by_cases hev:gk % 2 = 0 /\ q % 2 = 0
   ·have E1:=zH (X8 PA pc gk W0 DP.out.lies true (zH (by simp [hev.1])));have E2:=zH (X8 QA qc q W0 DQ.out.lies true (zH (by simp [hev.2])));have F1:=zH (Uk PA pc (nd gk) W0 DP.out (by omega) gk (zH (Jo gk)));have EX2:Hid (x = 2 ^ (t + 1) * (gk / 2)):=zH (by rw [Nat.pow_succ,Nat.mul_assoc,show 2 * (gk / 2) = gk by omega];exact EX.out);have EY2:Hid (y = 2 ^ (t + 1) * (q / 2)):=zH (by rw [Nat.pow_succ,Nat.mul_assoc,show 2 * (q / 2) = q by omega];exact EY.out);have hk2:gk / 2 ≠ 0 /\ q / 2 ≠ 0 /\ gk / 2 < gk:=(by omega);clear hev;go_wp2_with fail;refine E1.out.mono ?_;rintro e w' ⟨rfl,rfl⟩;go_wp2_with fail;refine E2.out.mono ?_;rintro e w' ⟨rfl,rfl⟩;clear E1 E2;go_wp2_with fail;refine F1.out.mono ?_;rintro e w2 ⟨A2,c2,rfl,s1,s2,s3,s4⟩;have D2:=zH (Jz s1 s2 s3);have F2:=zH (Uk QA qc (nd q) w2 (DQ.out.below s4) (by omega) q (zH (Jo q)));have B2:=zH (HB.out.trans (s4.mono HB.out.size));clear F1 s1 s2 s3 s4;go_wp2_with fail;refine F2.out.mono ?_;rintro e w3 ⟨A3,c3,rfl,s1,s2,s3,s4⟩;have D3:=zH (Jz s1 s2 s3);have D2':=zH (D2.out.below s4);have B3:=zH (B2.out.trans (s4.mono B2.out.size));clear F2 s1 s2 s3 s4;go_wp2_with fail
    go_roundg (gk / 2)
    case measure=>exact hk2.2.2
    case rel=>exact ⟨q / 2,t + 1,A2,c2,A3,c3,hk2.1,hk2.2.1,rfl,rfl,by simp,D2',D3,EX2,EY2,B3⟩
   ·-- the rest is behind the loop
    have HG0:Hid (GcdAt (gk.gcd q) gk q):=zH ⟨by omega,by omega,rfl⟩;have HGT:Hid (x.gcd y = 2 ^ t * gk.gcd q):=zH (by conv=>lhs;rw [EX.out,EY.out,Nat.gcd_mul_left]);by_cases hk2:gk % 2 = 0
    ·have E1:=zH (X8 PA pc gk W0 DP.out.lies true (zH (by simp [hk2])));have E2:=zH (X8 QA qc q W0 DQ.out.lies false (zH (by have:¬ q % 2 = 0:=fun h2=>hev ⟨hk2,h2⟩;simp [this])));clear hev hk2;go_wp2_with fail;refine E1.out.mono ?_;rintro e w' ⟨rfl,rfl⟩;go_wp2_with fail;refine E2.out.mono ?_;rintro e w' ⟨rfl,rfl⟩;go_wp2_with fail;go_meet;exact ⟨gk,q,t,_,PA,pc,QA,qc,rfl,rfl,rfl,DP,DQ,lk,lq,q0,ht,HG0,HGT,HB⟩
    ·have E1:=zH (X8 PA pc gk W0 DP.out.lies false (zH (by simp [hk2])));clear hev hk2;go_wp2_with fail;refine E1.out.mono ?_;rintro e w' ⟨rfl,rfl⟩;go_wp2_with fail;go_meet;exact ⟨gk,q,t,_,PA,pc,QA,qc,rfl,rfl,rfl,DP,DQ,lk,lq,q0,ht,HG0,HGT,HB⟩
 case rest=>
  obtain ⟨p,q,t,g,PA,pc,QA,qc,rfl,rfl,rfl,DP,DQ,lp,lq,q0,ht,HG,HGT,HB⟩:=hcut;clear HA H0 HX0 HY0;have lg : 2 ^ t * g <= x:=by rw [<- HGT.out];exact Nat.gcd_le_left _ (by omega)
  have lxg:∀ s,s <= t -> (nd (2 ^ s * g)).length <= 400000:=fun s hs=>tR (Ji (tR (Nat.mul_le_mul_right g (Nat.pow_le_pow_right (show 0 < 2 by decide) hs)) lg)) hx;have LXG:=zH lxg;clear lxg lg;obtain ⟨W0,rfl⟩:∃ X,X = wc:=⟨_,rfl⟩;go_wp2_with fail
  go_loopg [0,1] (p + q) (fun k a b wr=>∃ p q:Nat,∃ A c B d,p + q = k /\ a = .slice A (nd p).length c /\ b = .slice B (nd q).length d /\ Hid (Dg wr A c (nd p)) /\ Hid (Dg wr B d (nd q)) /\ (nd p).length <= 400000 /\ (nd q).length <= 400000 /\ Hid (GcdAt g p q) /\ Hid (Below w.heap.size w wr))
  case atStart=>exact ⟨p,q,PA,pc,QA,qc,rfl,rfl,rfl,DP,DQ,lp,lq,HG,HB⟩
  case round=>
   obtain ⟨p1,q1,PA1,pc1,QA1,qc1,rfl,rfl,rfl,DP1,DQ1,lp1,lq1,HG1,HB1⟩:=hrel;clear DP DQ lp lq HG HB q0;obtain ⟨W1,rfl⟩:∃ X,X = wr:=⟨_,rfl⟩;by_cases hq0:q1 = 0
   ·subst hq0;have hl:(nd 0).length = 0:=(by rw [JE];rfl);rw [hl];obtain rfl:p1 = g:=HG1.out.done;clear hl;have D0:Hid (Dg W1 PA1 pc1 (nd (2 ^ 0 * p1))):=zH (by simpa using DP1.out);have L0:Hid ((nd p1).length = (nd (2 ^ 0 * p1)).length):=zH (by simp);go_wp2_with fail;go_loopw [0,6] (fun a i wr=>∃ s:Nat,s <= t /\ i = .int .i64 s /\ ∃ A c,a = .slice A (nd (2 ^ s * p1)).length c /\ Hid (Dg wr A c (nd (2 ^ s * p1))) /\ Hid (Below w.heap.size w wr)) (fun _ i _=>t - (intOf i).toNat)
    case atStart=>exact ⟨0,by omega,rfl,PA1,pc1,by rw [<- L0.out],D0,HB1⟩
    case round=>
     obtain ⟨s,hs,rfl,A5,c5,rfl,D5,HB5⟩:=hrel;clear D0 L0;by_cases hst:s < t
     ·have l5:=LXG.out s hs;have P5:=zH (Uh A5 A5 c5 c5 _ _ wr D5.out D5.out (by omega) (by omega) (2 ^ (s + 1) * p1) (zH (by rw [Jo,Nat.pow_succ,Nat.mul_assoc,Nat.mul_left_comm];omega)));go_wp2_with fail;refine P5.out.mono ?_;rintro e w2 ⟨A6,c6,rfl,s1,s2,s3,s4⟩;have D6:=zH (Jz s1 s2 s3);have B6:=zH (HB5.out.trans (s4.mono HB5.out.size));clear s1 s2 s3 s4;go_wp2_with fail;exact ⟨⟨s + 1,by omega,by go_num,A6,c6,rfl,D6,B6⟩,by simp [intOf];omega⟩
     ·obtain rfl:s = t:=(by omega);go_wp2_with fail;go_ret;rw [HGT.out];exact ⟨A5,c5,rfl,D5.out.lies,D5.out.cap,D5.out.nil,HB5.out⟩
   ·have hql0:(nd q1).length ≠ 0:=fun e=>hq0 (Js.1 e);have hql:(0:Int) < ((nd q1).length:Int):=(by omega);have hqd:decide (0 < (nd q1).length) = true:=decide_eq_true (by omega);clear hql0;have BW1:=zH (Below.refl W1.heap.size W1);go_wp2_with fail
    go_loopg [0] p1 (fun k a wr=>∃ A c,a = .slice A (nd k).length c /\ Hid (Dg wr A c (nd k)) /\ k <= p1 /\ Hid (GcdAt g k q1) /\ Hid (Below W1.heap.size W1 wr))
    case atStart=>exact ⟨PA1,pc1,rfl,DP1,Nat.le_refl _,HG1,BW1⟩
    case round=>
     obtain ⟨PA2,pc2,rfl,DP2,hp2,HG2,HB2⟩:=hrel;clear DP1 HG1 BW1;obtain ⟨p2,rfl⟩:∃ X,X = gk:=⟨_,rfl⟩;obtain ⟨W2,rfl⟩:∃ X,X = wr:=⟨_,rfl⟩;have lp2:(nd p2).length <= 400000:=tR (Ji hp2) lp1;by_cases hev:p2 % 2 = 0
     ·have E1:=zH (X8 PA2 pc2 p2 W2 DP2.out.lies true (zH (by simp [hev])));have F1:=zH (Uk PA2 pc2 (nd p2) W2 DP2.out (by omega) p2 (zH (Jo p2)));obtain ⟨g1,g2⟩:=HG2.out.left hev;have G1:=zH g1;clear g1 hev;go_wp2_with fail;refine E1.out.mono ?_;rintro e w' ⟨rfl,rfl⟩;clear E1;go_wp2_with fail;refine F1.out.mono ?_;rintro e w2 ⟨A6,c6,rfl,s1,s2,s3,s4⟩;have D6:=zH (Jz s1 s2 s3);have B6:=zH (HB2.out.trans (s4.mono HB2.out.size));clear s1 s2 s3 s4;go_wp2_with fail
      go_roundg (p2 / 2)
      case measure=>exact g2
      case rel=>exact ⟨A6,c6,rfl,D6,by omega,G1,B6⟩
     ·have E1:=zH (X8 PA2 pc2 p2 W2 DP2.out.lies false (zH (by simp [hev])));have DQ2:=zH (DQ1.out.below HB2.out);have BW2:=zH (HB1.out.trans (HB2.out.mono HB1.out.size));have BR:=zH (Below.refl W2.heap.size W2);go_wp2_with fail;refine E1.out.mono ?_;rintro e w' ⟨rfl,rfl⟩;clear E1;go_wp2_with fail
      go_loopg [1] q1 (fun k b wr=>∃ B d,b = .slice B (nd k).length d /\ Hid (Dg wr B d (nd k)) /\ k <= q1 /\ k ≠ 0 /\ Hid (GcdAt g p2 k) /\ Hid (Below W2.heap.size W2 wr))
      case atStart=>exact ⟨QA1,qc1,rfl,DQ2,Nat.le_refl _,hq0,HG2,BR⟩
      case round=>
       obtain ⟨QA3,qc3,rfl,DQ3,hq3,q30,HG3,HB3⟩:=hrel;clear BR DQ2 HG2;obtain ⟨q3,rfl⟩:∃ X,X = gk:=⟨_,rfl⟩;obtain ⟨W3,rfl⟩:∃ X,X = wr:=⟨_,rfl⟩;have lq3:(nd q3).length <= 400000:=tR (Ji hq3) lq1;by_cases hev3:q3 % 2 = 0
       ·have E1:=zH (X8 QA3 qc3 q3 W3 DQ3.out.lies true (zH (by simp [hev3])));have F1:=zH (Uk QA3 qc3 (nd q3) W3 DQ3.out (by omega) q3 (zH (Jo q3)));obtain ⟨g1,g2,g3⟩:=HG3.out.right hev3 q30;have G1:=zH g1;clear g1 hev3;go_wp2_with fail;refine E1.out.mono ?_;rintro e w' ⟨rfl,rfl⟩;clear E1;go_wp2_with fail;refine F1.out.mono ?_;rintro e w2 ⟨A6,c6,rfl,s1,s2,s3,s4⟩;have D6:=zH (Jz s1 s2 s3);have B6:=zH (HB3.out.trans (s4.mono HB3.out.size));clear s1 s2 s3 s4;go_wp2_with fail
        go_roundg (q3 / 2)
        case measure=>exact g2
        case rel=>exact ⟨A6,c6,rfl,D6,by omega,g3,G1,B6⟩
       ·have E1:=zH (X8 QA3 qc3 q3 W3 DQ3.out.lies false (zH (by simp [hev3])));have DP3:=zH (DP2.out.below HB3.out);have BW3:=zH (BW2.out.trans (HB3.out.mono BW2.out.size));have hp0:=HG3.out.pos;rcases Nat.lt_or_ge q3 p2 with hc | hc
        ·have O1:=zH (XQ PA2 QA3 pc2 qc3 (nd p2) (nd q3) W3 DP3.out.lies DQ3.out.lies (zH (Jy _)) (zH (Jy _)) DP3.out.cap DQ3.out.cap (by omega) (by omega) p2 q3 (zH (Jo _)) (zH (Jo _)) 1 (zH (XX hc)));have G1:=zH ((HG3.out.swap q30).sub (by omega) (by omega));go_wp2_with fail;refine E1.out.mono ?_;rintro e w' ⟨rfl,rfl⟩;clear E1;go_wp2_with fail;refine O1.out.mono ?_;rintro e w' ⟨rfl,n9,rfl⟩;clear O1;have B9:Hid (Below w.heap.size w (W3.drewN n9)):=zH (BW3.out.trans (Ja _ _));have DP9:Hid (Dg (W3.drewN n9) PA2 pc2 (nd p2)):=zH (DP3.out.below (Ja _ _));have DQ9:Hid (Dg (W3.drewN n9) QA3 qc3 (nd q3)):=zH (DQ3.out.below (Ja _ _));generalize W3.drewN n9 = w9 at *
         have M1:=zH (Z8 PA2 QA3 pc2 qc3 (nd p2) (nd q3) w9 DP9.out.lies DQ9.out.lies (zH (Jy _)) (zH (Jy _)) (Ji (by omega)) (by omega) (p2 - q3) (zH (by rw [Jo,Jo];omega)));go_wp2_with fail;refine M1.out.mono ?_;rintro e w2 ⟨A6,c6,rfl,s1,s2,s3,s4⟩;have D6:=zH (Jz s1 s2 s3);have D7:=zH (DQ9.out.below s4);have B6:=zH (B9.out.trans (s4.mono B9.out.size));have l6:(nd (p2 - q3)).length <= 400000:=tR (Ji (Nat.sub_le _ _)) lp2;clear s1 s2 s3 s4;go_wp2_with fail
         go_roundg (q3 + (p2 - q3))
         case measure=>omega
         case rel=>exact ⟨q3,p2 - q3,QA3,qc3,A6,c6,rfl,rfl,rfl,D7,D6,lq3,l6,G1,B6⟩
        ·obtain ⟨r3,hr3,hr30⟩:∃ r3,Ue p2 q3 = r3 /\ ¬ 0 < r3:=by
          rcases Nat.lt_or_ge p2 q3 with h | h
          ·exact ⟨-1,Yk h,by decide⟩
          ·exact ⟨0,Yl (by omega),by decide⟩
         have O1:=zH (XQ PA2 QA3 pc2 qc3 (nd p2) (nd q3) W3 DP3.out.lies DQ3.out.lies (zH (Jy _)) (zH (Jy _)) DP3.out.cap DQ3.out.cap (by omega) (by omega) p2 q3 (zH (Jo _)) (zH (Jo _)) r3 (zH hr3));clear hr3;have G1:=zH (HG3.out.sub (by omega) hc);go_wp2_with fail;refine E1.out.mono ?_;rintro e w' ⟨rfl,rfl⟩;clear E1;go_wp2_with fail;refine O1.out.mono ?_;rintro e w' ⟨rfl,n9,rfl⟩;clear O1;have B9:Hid (Below w.heap.size w (W3.drewN n9)):=zH (BW3.out.trans (Ja _ _));have DP9:Hid (Dg (W3.drewN n9) PA2 pc2 (nd p2)):=zH (DP3.out.below (Ja _ _));have DQ9:Hid (Dg (W3.drewN n9) QA3 qc3 (nd q3)):=zH (DQ3.out.below (Ja _ _));generalize W3.drewN n9 = w9 at *
         have M1:=zH (Z8 QA3 PA2 qc3 pc2 (nd q3) (nd p2) w9 DQ9.out.lies DP9.out.lies (zH (Jy _)) (zH (Jy _)) (Ji hc) (by omega) (q3 - p2) (zH (by rw [Jo,Jo];omega)));go_wp2_with fail;refine M1.out.mono ?_;rintro e w2 ⟨A6,c6,rfl,s1,s2,s3,s4⟩;have D6:=zH (Jz s1 s2 s3);have D7:=zH (DP9.out.below s4);have B6:=zH (B9.out.trans (s4.mono B9.out.size));have l6:(nd (q3 - p2)).length <= 400000:=tR (Ji (Nat.sub_le _ _)) lq3;clear s1 s2 s3 s4;go_wp2_with fail
         go_roundg (p2 + (q3 - p2))
         case measure=>omega
         case rel=>exact ⟨p2,q3 - p2,PA2,pc2,A6,c6,rfl,rfl,rfl,D7,D6,lp2,l6,G1,B6⟩
end Go.Proofs.YtlgdlenoohkipaaGreat
