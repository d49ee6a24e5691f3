/- TalkHears -/
import Derived.Test.YtcjicjfbippmnaaGreatMTHear7
import Derived.Deep.CutBlock
set_option maxRecDepth 100000
set_option maxHeartbeats 32000000
namespace Go.Proofs.YtcjicjfbippmnaaGreat
open Go.RowKit Ear

theorem Zcm (A B:Option Addr) (c d x y:Nat) (w:World) (hA:Dg w A c (nd x)) (hB:Dg w B d (nd y)) (hn:(nd x).length <= 400000) (hm:(nd y).length <= 400000) (y0:y ≠ 0) (y1:(nd y).length ≠ 1) :
  Calls Tryz.prog 147 #[.slice A (nd x).length c,.slice B (nd y).length d] w (Qo (x / y) (x % y) w):=by
 have T1:=zH (Zao A c x w hA (by omega));have T2:=zH (Zao B d y w hB (by omega));have q1:(((nd y).length:Int) == 1) = false:=Wz.2 (by omega);obtain ⟨w1,hmk,ho1,hb1⟩:=XW w (nd x).length (by omega) w.heap.size nR;obtain ⟨g,hg⟩:∃ g,g = w.heap.size:=⟨_,rfl⟩;rw [<- hg] at ho1 hmk;have HG:Hid (w.heap.size <= g):=by show _ <= _;omega
 have HGE:=zH hg;have TB:=zH (ZgG A c x w1 (hA.lies.below hb1) hA.cap (by omega));have DA:=zH hA;have DB:=zH hB;have HY:Hid (0 < y):=zH (by omega);clear hA hB hg y1;go_enter Tryz.func147,Tryz.ntmps147;go_wp2_with fail;refine T1.out.mono ?_;rintro e w' ⟨rfl,rfl⟩;go_wp2_with fail;refine T2.out.mono ?_;rintro e w' ⟨rfl,rfl⟩;clear T1 T2;go_wp2_with fail;refine TB.out.mono ?_;rintro e w' ⟨n,hxn,hn32,rfl,rfl⟩;clear TB hmk;have HST:=zH (BitAt.start (m:=(nd x).length) hxn HY.out);have D0:Hid (Dg w1 none 0 (nd 0)):=zH (by rw [JG];exact Dg.none _);have L0:Hid ((nd 0).length = 0):=zH (by rw [JG];rfl);clear hxn;go_wp2_with fail;go_loopw [9,10] (fun rs i wr=>∃ k:Nat,k <= n /\ i = .int .i64 ((k:Int) - 1) /\ ∃ out rest RA Rc,Hid (BitAt x y out (nd x).length k rest) /\ rs = .slice RA (nd rest).length Rc /\ Hid (Dg wr RA Rc (nd rest)) /\ Hid (wr.ownsRow g 173 1 (.slice (some ⟨g,0,none⟩) (nd x).length (nd x).length) (nd x).length (ucs out)) /\ Hid (Below w.heap.size w wr)) (fun _ i _=>(intOf i + 1).toNat)
 case atStart=>exact ⟨n,WK _,rfl,_,0,none,0,HST,by rw [L0.out],D0,zH ho1,zH hb1⟩
 case round=>
  obtain ⟨k,hk,rfl,out,rest,RA,Rc,HM,rfl,HR,HO,HB⟩:=hrel;clear HST D0 L0 ho1 hb1;have hrs:=HM.out.small;have hrl:(nd rest).length <= 400000:=tR (Jl (Wd9 hrs)) hm;by_cases hz:k = 0
  ·subst hz;obtain ⟨f1,f2⟩:=HM.out.done;have HT:=zH (Zbl HO.out HM.out.len HM.out.dig (by omega) (v:=x / y) f1);have HE:=zH f2;clear f1 f2;go_wp2_with fail;refine HT.out.mono ?_;rintro e w' ⟨rfl,rfl,t1⟩;go_wp2_with fail;go_ret2;exact ⟨_,_,RA,Rc,by rw [<- HE.out];rfl,t1,by rw [<- HE.out];exact HR.out,HB.out⟩
  ·obtain ⟨j,rfl⟩:∃ j,k = j + 1:=⟨k - 1,by omega⟩;have ej:(((j + 1:Nat):Int) - 1) = (j:Int):=(by omega);rw [ej];have hjx:j / 32 < (nd x).length:=(by omega);obtain ⟨b1,o1,eA,hb1,-⟩:=DA.out.lies.uat (k:=j / 32) hjx;subst eA;have HA1:=zH (fun W (hW:Below w.heap.size w W)=>(DA.out.below hW).lies);have hx1:=Zbo x (j / 32);have HBIT:=zH (Zix x j);have hx1b:x / 4294967296 ^ (j / 32) % 4294967296 <= 4294967295:=(by omega);generalize hxd:x / 4294967296 ^ (j / 32) % 4294967296 = xd at *
   have HXD:=zH hxd;clear hxd ej hz;have P1:=zH (UB RA RA Rc Rc (nd rest) (nd rest) wr HR.out HR.out (by omega) (by omega) (2 * rest) (zH (by rw [Ju];omega)));go_wp2_with fail;refine P1.out.mono ?_;clear P1;rintro e w2 ⟨RA2,Rc2,rfl,p1,p2,p3,p4⟩;have DR2:=zH (Jz p1 p2 p3);have B2:=zH (HB.out.trans (p4.mono HB.out.size));have O2:=zH (Jh HO.out p4);clear p1 p2 p3 p4 HO HB HR;obtain ⟨b1',o1',e1,hb1',hc1⟩:=(HA1.out w2 B2.out).uat (k:=j / 32) hjx;cases e1;rw [hx1] at hc1;have hbd:xd / 2 ^ (j % 32) <= 4294967295:=tR (WdK _ _) hx1b;have eP:(xd:Int) / (2:Int) ^ (j % 32) = ((xd / 2 ^ (j % 32):Nat):Int):=(by rw [<- Vt];simp);have pa:=(fun (z:Nat) (hz:z <= 4294967295)=>Zc0 (z:Int) (by omega) (by omega)) _ hbd;rw [<- eP] at pa;have pb:((xd:Int) / (2:Int) ^ (j % 32)) % 2 = ((x / 2 ^ j % 2:Nat):Int):=(by rw [eP,<- HBIT.out];simp);rw [pb] at pa;clear eP pb hbd;by_cases hbit:x / 2 ^ j % 2 = 1
   ·rw [hbit] at pa;have pa1:bits BinOp.and IntKind.u32 ((xd:Int) / (2:Int) ^ (j % 32)) 1 = 1:=pa;have HB1:=zH hbit;clear pa hbit;have D1:=zH (Zfc w2 1 ⟨by decide,by decide⟩ 173);have A1:=zH ((Wp w2.heap.size w2).alloc nR (.cells #[.int .u32 1] 173));have P2:=zH (UB RA2 (some ⟨w2.heap.size,0,none⟩) Rc2 1 (nd (2 * rest)) [1] _ (DR2.out.below A1.out) D1.out (by have:=Xx rest rest 400000 hrl hrl;rw [show 2 * rest = rest + rest by omega];omega) (by simp) (2 * rest + 1) (zH (by rw [Ju];simp [vl])));simp only [List.length_cons,List.length_nil,Nat.zero_add] at P2;go_wp2_with fail;refine P2.out.mono ?_;clear P2;rintro e w3 ⟨RA3,Rc3,rfl,p1,p2,p3,p4⟩;have DR3:=zH (Jz p1 p2 p3);have A2:=zH (A1.out.trans (p4.mono A1.out.size));have B3:=zH (B2.out.trans (A2.out.mono B2.out.size));have O3:=zH (Jh O2.out A2.out);clear p1 p2 p3 p4 D1 A1 A2 hc1;have rl:(nd (2 * rest + 1)).length <= 400001:=(by have:=Xx rest (rest + 1) 400000 hrl (tR (Jl (show rest + 1 <= y by omega)) hm);have:=Jl (show 2 * rest + 1 <= rest + (rest + 1) by omega);omega);have DB2:=zH (DB.out.below B3.out);by_cases hlt : 2 * rest + 1 < y
    ·have S4:=zH (X8 RA3 B Rc3 d (nd (2 * rest + 1)) (nd y) w3 DR3.out.lies DB2.out.lies (zH (JC _)) (zH (JC _)) DR3.out.cap DB2.out.cap (by omega) (by omega) (2 * rest + 1) y (zH (Ju _)) (zH (Ju _)) (-1) (zH (Yu hlt)));have HF:=zH (HM.out.next (r2:=2 * rest + 1) (by rw [HB1.out]) hlt);go_wp2_with fail;refine S4.out.mono ?_;rintro e w9 ⟨rfl,n9,rfl⟩;have B9:Hid (Below w.heap.size w (w3.drewN n9)):=zH (B3.out.trans (Jb _ _));have D9:Hid (Dg (w3.drewN n9) RA3 Rc3 (nd (2 * rest + 1))):=zH (DR3.out.below (Jb _ _));have O9:Hid ((w3.drewN n9).ownsRow g 173 1 (.slice (some ⟨g,0,none⟩) (nd x).length (nd x).length) (nd x).length (ucs out)):=zH (Jh O3.out (Jb _ _));clear S4;generalize w3.drewN n9 = w9 at *
     go_wp2_with fail;exact ⟨⟨j,by omega,rfl,_,_,_,_,HF,rfl,D9,O9,B9⟩,by simp [intOf]⟩
    ·obtain ⟨r3,hr3,hr30⟩:∃ r3,Uv (2 * rest + 1) y = r3 /\ 0 <= r3:=by
      rcases WaS y (2 * rest + 1) with h | h
      ·exact ⟨1,Yf h,by decide⟩
      ·exact ⟨0,Yv (by omega),by decide⟩
     have S4:=zH (X8 RA3 B Rc3 d (nd (2 * rest + 1)) (nd y) w3 DR3.out.lies DB2.out.lies (zH (JC _)) (zH (JC _)) DR3.out.cap DB2.out.cap (by omega) (by omega) (2 * rest + 1) y (zH (Ju _)) (zH (Ju _)) r3 (zH hr3));clear hr3;obtain ⟨d0,d1,HF0⟩:=HM.out.take (r2:=2 * rest + 1) (by rw [HB1.out]) (by omega) hjx (d:=out[j / 32]?.getD 0 + (2:Int) ^ (j % 32)) rfl;have po:=Zeu HM.out;have HF:=zH HF0;clear HF0;go_wp2_with fail;refine S4.out.mono ?_;rintro e w9 ⟨rfl,n9,rfl⟩;have B9:Hid (Below w.heap.size w (w3.drewN n9)):=zH (B3.out.trans (Jb _ _));have D9:Hid (Dg (w3.drewN n9) RA3 Rc3 (nd (2 * rest + 1))):=zH (DR3.out.below (Jb _ _));have DB9:Hid (Dg (w3.drewN n9) B d (nd y)):=zH (DB2.out.below (Jb _ _));have O9:Hid ((w3.drewN n9).ownsRow g 173 1 (.slice (some ⟨g,0,none⟩) (nd x).length (nd x).length) (nd x).length (ucs out)):=zH (Jh O3.out (Jb _ _));clear S4;generalize w3.drewN n9 = w9 at *
     have S5:=zH (UY RA3 B Rc3 d (nd (2 * rest + 1)) (nd y) w9 D9.out.lies DB9.out.lies (zH (JC _)) (zH (JC _)) (Jl (by omega)) (by omega) (2 * rest + 1 - y) (zH (by rw [Ju,Ju];omega)));go_wp2_with fail;refine S5.out.mono ?_;rintro e wx ⟨XA,Xc,rfl,x1,x2,x3,x4,x5⟩;have BX:=zH (B9.out.trans (x4.mono B9.out.size));have OX:=zH (Jh O9.out x4);have hgl:g < w9.heap.size:=by
      obtain ⟨_,h2⟩:=O9.out;rcases h2 with ⟨h3,_⟩ | ⟨g',cap,cur,h3,_,h4,_⟩
      ·cases h3
      ·cases h3;exact (aE h4).1
     have DX:Hid (∀ v,Dg (wx.drew.setCell ⟨g,j / 32,none⟩ v) XA Xc (nd (2 * rest + 1 - y))):=zH (fun v=>⟨fun h0=>by
      obtain ⟨b,off,e,hb,hc⟩:=x1 h0;have h5:w9.heap.size <= b:=x5 _ e;exact ⟨b,off,e,by simpa using hb,fun q u hu=>by
       rw [<- hc q u hu];exact Ws (a:=⟨b,off + q,none⟩) (Wu _ ⟨g,j / 32,none⟩ v b (show b ≠ g by omega))⟩,JC _,x2,x3⟩)
     obtain ⟨q1,q2⟩:=J1 OX.out HM.out.len hjx;have HS:=zH (fun v=>Xk (OX.out.drew) (j / 32) v);have pd:(out[j / 32]?.getD 0) % 4294967296 = out[j / 32]?.getD 0:=(by have:=JH HM.out.dig (j / 32);omega);have p2:((2:Int) ^ (j % 32)) % 4294967296 = (2:Int) ^ (j % 32):=by
      have h1:(2:Nat) ^ (j % 32) <= 2147483648:=Wa4 (show 0 < 2 by decide) (show j % 32 <= 31 by omega);rw [<- Vt (j % 32)];generalize (2:Nat) ^ (j % 32) = P at *
      omega
     have pw:IntKind.u32.wrap ((2:Int) ^ (j % 32)) = (2:Int) ^ (j % 32):=(by rw [IntKind.wrap_u32'];exact p2);have i1:(j:Int) / 32 < ((nd x).length:Int):=(by omega);have i2:(0:Int) <= (j:Int) / 32:=(by omega);have i3:((j:Int) / 32).toNat = j / 32:=(by omega);have i4:IntKind.i64.wrap ((j:Int) / 32) = (j:Int) / 32:=WM _ (by omega);have i5:IntKind.i64.wrap ((j:Int) % 32) = (j:Int) % 32:=WM _ (by omega);have i6:((j:Int) % 32).toNat = j % 32:=(by omega);have it:(j:Int).tmod 32 = (j:Int) % 32:=Int.tmod_eq_emod_of_nonneg (by omega);have i7:(0:Int) <= (j:Int) % 32:=(by omega);have i8:(j:Int) % 32 < 32:=(by omega);have i9:Op.shift .shl .u32 1 .i64 ((j:Int) % 32) = pure (Value.int .u32 ((2:Int) ^ (j % 32))):=by
      rw [shift_shl_any _ _ _ _ i7,i6,show IntKind.u32.bits = 32 from rfl,WbO (by omega),Int.one_mul,pw]
     clear x1 x2 x3 x4 x5 S5 d0 d1;generalize out[j / 32]?.getD 0 = od at *
     go_wp2_with fail;go_still_tail 13,(by kernel_rfl);repeat still_step
     go_wp2_with fail
    
     exact ⟨⟨j,by omega,rfl,_,_,_,_,HF,rfl,zH (DX.out _),zH (HS.out _),zH (BX.out.drew.setCell (by exact HG.out) _)⟩,by simp [intOf]⟩
   ·have hb0:x / 2 ^ j % 2 = 0:=(by omega);rw [hb0] at pa;have pa1:bits BinOp.and IntKind.u32 ((xd:Int) / (2:Int) ^ (j % 32)) 1 = 0:=pa;have HB1:=zH hb0;clear pa hbit hb0;have rl:(nd (2 * rest)).length <= 400001:=(by have:=Xx rest (rest + 1) 400000 hrl (tR (Jl (show rest + 1 <= y by omega)) hm);have:=Jl (show 2 * rest <= rest + (rest + 1) by omega);omega);have DB2:=zH (DB.out.below B2.out);by_cases hlt : 2 * rest < y
    ·have S4:=zH (X8 RA2 B Rc2 d (nd (2 * rest)) (nd y) w2 DR2.out.lies DB2.out.lies (zH (JC _)) (zH (JC _)) DR2.out.cap DB2.out.cap (by omega) (by omega) (2 * rest) y (zH (Ju _)) (zH (Ju _)) (-1) (zH (Yu hlt)));have HF:=zH (HM.out.next (r2:=2 * rest) (by rw [HB1.out];rfl) hlt);go_wp2_with fail;refine S4.out.mono ?_;rintro e w9 ⟨rfl,n9,rfl⟩;have B9:Hid (Below w.heap.size w (w2.drewN n9)):=zH (B2.out.trans (Jb _ _));have D9:Hid (Dg (w2.drewN n9) RA2 Rc2 (nd (2 * rest))):=zH (DR2.out.below (Jb _ _));have O9:Hid ((w2.drewN n9).ownsRow g 173 1 (.slice (some ⟨g,0,none⟩) (nd x).length (nd x).length) (nd x).length (ucs out)):=zH (Jh O2.out (Jb _ _));clear S4;generalize w2.drewN n9 = w9 at *
     go_wp2_with fail;exact ⟨⟨j,by omega,rfl,_,_,_,_,HF,rfl,D9,O9,B9⟩,by simp [intOf]⟩
    ·obtain ⟨r3,hr3,hr30⟩:∃ r3,Uv (2 * rest) y = r3 /\ 0 <= r3:=by
      rcases WaS y (2 * rest) with h | h
      ·exact ⟨1,Yf h,by decide⟩
      ·exact ⟨0,Yv (by omega),by decide⟩
     have S4:=zH (X8 RA2 B Rc2 d (nd (2 * rest)) (nd y) w2 DR2.out.lies DB2.out.lies (zH (JC _)) (zH (JC _)) DR2.out.cap DB2.out.cap (by omega) (by omega) (2 * rest) y (zH (Ju _)) (zH (Ju _)) r3 (zH hr3));clear hr3;obtain ⟨d0,d1,HF0⟩:=HM.out.take (r2:=2 * rest) (by rw [HB1.out];rfl) (by omega) hjx (d:=out[j / 32]?.getD 0 + (2:Int) ^ (j % 32)) rfl;have po:=Zeu HM.out;have HF:=zH HF0;clear HF0;go_wp2_with fail;refine S4.out.mono ?_;rintro e w9 ⟨rfl,n9,rfl⟩;have B9:Hid (Below w.heap.size w (w2.drewN n9)):=zH (B2.out.trans (Jb _ _));have D9:Hid (Dg (w2.drewN n9) RA2 Rc2 (nd (2 * rest))):=zH (DR2.out.below (Jb _ _));have DB9:Hid (Dg (w2.drewN n9) B d (nd y)):=zH (DB2.out.below (Jb _ _));have O9:Hid ((w2.drewN n9).ownsRow g 173 1 (.slice (some ⟨g,0,none⟩) (nd x).length (nd x).length) (nd x).length (ucs out)):=zH (Jh O2.out (Jb _ _));clear S4;generalize w2.drewN n9 = w9 at *
     have S5:=zH (UY RA2 B Rc2 d (nd (2 * rest)) (nd y) w9 D9.out.lies DB9.out.lies (zH (JC _)) (zH (JC _)) (Jl (by omega)) (by omega) (2 * rest - y) (zH (by rw [Ju,Ju];omega)));go_wp2_with fail;refine S5.out.mono ?_;rintro e wx ⟨XA,Xc,rfl,x1,x2,x3,x4,x5⟩;have BX:=zH (B9.out.trans (x4.mono B9.out.size));have OX:=zH (Jh O9.out x4);have hgl:g < w9.heap.size:=by
      obtain ⟨_,h2⟩:=O9.out;rcases h2 with ⟨h3,_⟩ | ⟨g',cap,cur,h3,_,h4,_⟩
      ·cases h3
      ·cases h3;exact (aE h4).1
     have DX:Hid (∀ v,Dg (wx.drew.setCell ⟨g,j / 32,none⟩ v) XA Xc (nd (2 * rest - y))):=zH (fun v=>⟨fun h0=>by
      obtain ⟨b,off,e,hb,hc⟩:=x1 h0;have h5:w9.heap.size <= b:=x5 _ e;exact ⟨b,off,e,by simpa using hb,fun q u hu=>by
       rw [<- hc q u hu];exact Ws (a:=⟨b,off + q,none⟩) (Wu _ ⟨g,j / 32,none⟩ v b (show b ≠ g by omega))⟩,JC _,x2,x3⟩)
     obtain ⟨q1,q2⟩:=J1 OX.out HM.out.len hjx;have HS:=zH (fun v=>Xk (OX.out.drew) (j / 32) v);have pd:(out[j / 32]?.getD 0) % 4294967296 = out[j / 32]?.getD 0:=(by have:=JH HM.out.dig (j / 32);omega);have p2:((2:Int) ^ (j % 32)) % 4294967296 = (2:Int) ^ (j % 32):=by
      have h1:(2:Nat) ^ (j % 32) <= 2147483648:=Wa4 (show 0 < 2 by decide) (show j % 32 <= 31 by omega);rw [<- Vt (j % 32)];generalize (2:Nat) ^ (j % 32) = P at *
      omega
     have pw:IntKind.u32.wrap ((2:Int) ^ (j % 32)) = (2:Int) ^ (j % 32):=(by rw [IntKind.wrap_u32'];exact p2);have i1:(j:Int) / 32 < ((nd x).length:Int):=(by omega);have i2:(0:Int) <= (j:Int) / 32:=(by omega);have i3:((j:Int) / 32).toNat = j / 32:=(by omega);have i4:IntKind.i64.wrap ((j:Int) / 32) = (j:Int) / 32:=WM _ (by omega);have i5:IntKind.i64.wrap ((j:Int) % 32) = (j:Int) % 32:=WM _ (by omega);have i6:((j:Int) % 32).toNat = j % 32:=(by omega);have it:(j:Int).tmod 32 = (j:Int) % 32:=Int.tmod_eq_emod_of_nonneg (by omega);have i7:(0:Int) <= (j:Int) % 32:=(by omega);have i8:(j:Int) % 32 < 32:=(by omega);have i9:Op.shift .shl .u32 1 .i64 ((j:Int) % 32) = pure (Value.int .u32 ((2:Int) ^ (j % 32))):=by
      rw [shift_shl_any _ _ _ _ i7,i6,show IntKind.u32.bits = 32 from rfl,WbO (by omega),Int.one_mul,pw]
     clear x1 x2 x3 x4 x5 S5 d0 d1;generalize out[j / 32]?.getD 0 = od at *
     go_wp2_with fail;go_still_tail 13,(by kernel_rfl);repeat still_step
     go_wp2_with fail
    
     exact ⟨⟨j,by omega,rfl,_,_,_,_,HF,rfl,zH (DX.out _),zH (HS.out _),zH (BX.out.drew.setCell (by exact HG.out) _)⟩,by simp [intOf]⟩
theorem Zac (A B:Option Addr) (c d x y:Nat) (w:World) (hA:Dg w A c (nd x)) (hB:Dg w B d (nd y)) (hn:(nd x).length <= 400000) (hm:(nd y).length <= 400000) (y0:y ≠ 0) :
  Calls Tryz.prog 147 #[.slice A (nd x).length c,.slice B (nd y).length d] w (Qo (x / y) (x % y) w):=by
 by_cases h1:(nd y).length = 1
 ·have h2:=Vr y;rw [h1] at h2;exact ZdC A B c d x y w hA hB (by omega) y0 (by omega)
 ·exact Zcm A B c d x y w hA hB hn hm y0 h1
theorem Zhe {t p x n:Nat} (h:x = 2 ^ t * p) (hp:p ≠ 0) (hx:(nd x).length <= n):t < 32 * n:=by
 have h1:=Vr x;have h2 : 2 ^ t <= x:=by rw [h];exact Nat.le_mul_of_pos_right _ (by omega)
 have h3:(4294967296:Nat) ^ (nd x).length <= 4294967296 ^ n:=Wa4 (by decide) hx;rw [Qs n] at h3;have h4 : 2 ^ t < 2 ^ (32 * n):=Wa9 h2 (Wk h1 h3);exact (Nat.pow_lt_pow_iff_right (by decide)).1 h4
theorem Zf4 (A B:Option Addr) (c d x y:Nat) (w:World) (hA:Dg w A c (nd x)) (hB:Dg w B d (nd y)) (hx:(nd x).length <= 400000) (hy:(nd y).length <= 400000) (x0:x ≠ 0) (y0:y ≠ 0) :
  Calls Tryz.prog 146 #[.slice A (nd x).length c,.slice B (nd y).length d] w (Yx (x.gcd y) w):=by
 have HA:=zH hA;have HB:=zH hB;have H0:=zH (Wp w.heap.size w);have HX0:Hid (x = 2 ^ 0 * x):=zH (by simp);have HY0:Hid (y = 2 ^ 0 * y):=zH (by simp);clear hA hB;go_enter Tryz.func146,Tryz.ntmps146;go_upto_block 0 with fail;go_cut [0,1,5] from 7 to 18 (fun a b tw wx=>∃ p q t g:Nat,∃ A c B d,a = .slice A (nd p).length c /\ b = .slice B (nd q).length d /\ tw = .int .i64 t /\ Hid (Dg wx A c (nd p)) /\ Hid (Dg wx B d (nd q)) /\ (nd p).length <= 400000 /\ (nd q).length <= 400000 /\ q ≠ 0 /\ t < 12800000 /\ Hid (GcdAt g p q) /\ Hid (x.gcd y = 2 ^ t * g) /\ Hid (Below w.heap.size w wx))
 case first=>
  go_wp2_with fail
  go_loopg [0,1,5] x (fun k a b tw wr=>∃ q t:Nat,∃ A c B d,k ≠ 0 /\ q ≠ 0 /\ a = .slice A (nd k).length c /\ b = .slice B (nd q).length d /\ tw = .int .i64 t /\ Hid (Dg wr A c (nd k)) /\ Hid (Dg wr B d (nd q)) /\ Hid (x = 2 ^ t * k) /\ Hid (y = 2 ^ t * q) /\ Hid (Below w.heap.size w wr))
  case atStart=>exact ⟨y,0,A,c,B,d,x0,y0,rfl,rfl,rfl,HA,HB,HX0,HY0,H0⟩
  case round=>
   obtain ⟨q,t,PA,pc,QA,qc,k0,q0,rfl,rfl,rfl,DP,DQ,EX,EY,HB⟩:=hrel;clear HA H0 HX0 HY0;have lk:(nd gk).length <= 400000:=tR (Jl (by rw [EX.out];exact Nat.le_mul_of_pos_left _ (Wb5 (by decide)))) hx;have lq:(nd q).length <= 400000:=tR (Jl (by rw [EY.out];exact Nat.le_mul_of_pos_left _ (Wb5 (by decide)))) hy;have ht:=Zhe EX.out k0 hx;obtain ⟨W0,rfl⟩:∃ X,X = wr:=⟨_,rfl⟩;by_cases hev:gk % 2 = 0 /\ q % 2 = 0
   ·have E1:=zH (Yk PA pc gk W0 DP.out.lies true (zH (by simp [hev.1])));have E2:=zH (Yk QA qc q W0 DQ.out.lies true (zH (by simp [hev.2])));have F1:=zH (UE PA pc (nd gk) W0 DP.out (by omega) gk (zH (Ju gk)));have EX2:Hid (x = 2 ^ (t + 1) * (gk / 2)):=zH (by rw [WbC,Wa0,show 2 * (gk / 2) = gk by omega];exact EX.out);have EY2:Hid (y = 2 ^ (t + 1) * (q / 2)):=zH (by rw [WbC,Wa0,show 2 * (q / 2) = q by omega];exact EY.out);have hk2:gk / 2 ≠ 0 /\ q / 2 ≠ 0 /\ gk / 2 < gk:=(by omega);clear hev;go_wp2_with fail;refine E1.out.mono ?_;rintro e w' ⟨rfl,rfl⟩;go_wp2_with fail;refine E2.out.mono ?_;rintro e w' ⟨rfl,rfl⟩;clear E1 E2;go_wp2_with fail;refine F1.out.mono ?_;rintro e w2 ⟨A2,c2,rfl,s1,s2,s3,s4⟩;have D2:=zH (Jz s1 s2 s3);have F2:=zH (UE QA qc (nd q) w2 (DQ.out.below s4) (by omega) q (zH (Ju q)));have B2:=zH (HB.out.trans (s4.mono HB.out.size));clear F1 s1 s2 s3 s4;go_wp2_with fail;refine F2.out.mono ?_;rintro e w3 ⟨A3,c3,rfl,s1,s2,s3,s4⟩;have D3:=zH (Jz s1 s2 s3);have D2':=zH (D2.out.below s4);have B3:=zH (B2.out.trans (s4.mono B2.out.size));clear F2 s1 s2 s3 s4;go_wp2_with fail
    go_roundg (gk / 2)
    case measure=>exact hk2.2.2
    case rel=>exact ⟨q / 2,t + 1,A2,c2,A3,c3,hk2.1,hk2.2.1,rfl,rfl,by simp,D2',D3,EX2,EY2,B3⟩
   ·-- the rest is behind the loop
    have HG0:Hid (GcdAt (gk.gcd q) gk q):=zH ⟨by omega,by omega,rfl⟩;have HGT:Hid (x.gcd y = 2 ^ t * gk.gcd q):=zH (by conv=>lhs;rw [EX.out,EY.out,Nat.gcd_mul_left]);by_cases hk2:gk % 2 = 0
    ·have E1:=zH (Yk PA pc gk W0 DP.out.lies true (zH (by simp [hk2])));have E2:=zH (Yk QA qc q W0 DQ.out.lies false (zH (by have:¬ q % 2 = 0:=fun h2=>hev ⟨hk2,h2⟩;simp [this])));clear hev hk2;go_wp2_with fail;refine E1.out.mono ?_;rintro e w' ⟨rfl,rfl⟩;go_wp2_with fail;refine E2.out.mono ?_;rintro e w' ⟨rfl,rfl⟩;go_wp2_with fail;go_meet;exact ⟨gk,q,t,_,PA,pc,QA,qc,rfl,rfl,rfl,DP,DQ,lk,lq,q0,ht,HG0,HGT,HB⟩
    ·have E1:=zH (Yk PA pc gk W0 DP.out.lies false (zH (by simp [hk2])));clear hev hk2;go_wp2_with fail;refine E1.out.mono ?_;rintro e w' ⟨rfl,rfl⟩;go_wp2_with fail;go_meet;exact ⟨gk,q,t,_,PA,pc,QA,qc,rfl,rfl,rfl,DP,DQ,lk,lq,q0,ht,HG0,HGT,HB⟩
 case rest=>
  obtain ⟨p,q,t,g,PA,pc,QA,qc,rfl,rfl,rfl,DP,DQ,lp,lq,q0,ht,HG,HGT,HB⟩:=hcut;clear HA H0 HX0 HY0;have lg : 2 ^ t * g <= x:=by rw [<- HGT.out];exact WeR _ (by omega)
  have lxg:∀ s,s <= t -> (nd (2 ^ s * g)).length <= 400000:=fun s hs=>tR (Jl (tR (WbW g (Wa4 (show 0 < 2 by decide) hs)) lg)) hx;have LXG:=zH lxg;clear lxg lg;obtain ⟨W0,rfl⟩:∃ X,X = wc:=⟨_,rfl⟩;go_wp2_with fail
  go_loopg [0,1] (p + q) (fun k a b wr=>∃ p q:Nat,∃ A c B d,p + q = k /\ a = .slice A (nd p).length c /\ b = .slice B (nd q).length d /\ Hid (Dg wr A c (nd p)) /\ Hid (Dg wr B d (nd q)) /\ (nd p).length <= 400000 /\ (nd q).length <= 400000 /\ Hid (GcdAt g p q) /\ Hid (Below w.heap.size w wr))
  case atStart=>exact ⟨p,q,PA,pc,QA,qc,rfl,rfl,rfl,DP,DQ,lp,lq,HG,HB⟩
  case round=>
   obtain ⟨p1,q1,PA1,pc1,QA1,qc1,rfl,rfl,rfl,DP1,DQ1,lp1,lq1,HG1,HB1⟩:=hrel;clear DP DQ lp lq HG HB q0;obtain ⟨W1,rfl⟩:∃ X,X = wr:=⟨_,rfl⟩;by_cases hq0:q1 = 0
   ·subst hq0;have hl:(nd 0).length = 0:=(by rw [JG];rfl);rw [hl];obtain rfl:p1 = g:=HG1.out.done;clear hl;have D0:Hid (Dg W1 PA1 pc1 (nd (2 ^ 0 * p1))):=zH (by simpa using DP1.out);have L0:Hid ((nd p1).length = (nd (2 ^ 0 * p1)).length):=zH (by simp);go_wp2_with fail;go_loopw [0,6] (fun a i wr=>∃ s:Nat,s <= t /\ i = .int .i64 s /\ ∃ A c,a = .slice A (nd (2 ^ s * p1)).length c /\ Hid (Dg wr A c (nd (2 ^ s * p1))) /\ Hid (Below w.heap.size w wr)) (fun _ i _=>t - (intOf i).toNat)
    case atStart=>exact ⟨0,by omega,rfl,PA1,pc1,by rw [<- L0.out],D0,HB1⟩
    case round=>
     obtain ⟨s,hs,rfl,A5,c5,rfl,D5,HB5⟩:=hrel;clear D0 L0;by_cases hst:s < t
     ·have l5:=LXG.out s hs;have P5:=zH (UB A5 A5 c5 c5 _ _ wr D5.out D5.out (by omega) (by omega) (2 ^ (s + 1) * p1) (zH (by rw [Ju,WbC,Wa0,Nat.mul_left_comm];omega)));go_wp2_with fail;refine P5.out.mono ?_;rintro e w2 ⟨A6,c6,rfl,s1,s2,s3,s4⟩;have D6:=zH (Jz s1 s2 s3);have B6:=zH (HB5.out.trans (s4.mono HB5.out.size));clear s1 s2 s3 s4;go_wp2_with fail;exact ⟨⟨s + 1,by omega,by go_num,A6,c6,rfl,D6,B6⟩,by simp [intOf];omega⟩
     ·obtain rfl:s = t:=(by omega);go_wp2_with fail;go_ret;rw [HGT.out];exact ⟨A5,c5,rfl,D5.out.lies,D5.out.cap,D5.out.nil,HB5.out⟩
   ·have hql0:(nd q1).length ≠ 0:=fun e=>hq0 (Jw.1 e);have hql:(0:Int) < ((nd q1).length:Int):=(by omega);have hqd:decide (0 < (nd q1).length) = true:=Wi (by omega);clear hql0;have BW1:=zH (Wp W1.heap.size W1);go_wp2_with fail
    go_loopg [0] p1 (fun k a wr=>∃ A c,a = .slice A (nd k).length c /\ Hid (Dg wr A c (nd k)) /\ k <= p1 /\ Hid (GcdAt g k q1) /\ Hid (Below W1.heap.size W1 wr))
    case atStart=>exact ⟨PA1,pc1,rfl,DP1,WK _,HG1,BW1⟩
    case round=>
     obtain ⟨PA2,pc2,rfl,DP2,hp2,HG2,HB2⟩:=hrel;clear DP1 HG1 BW1;obtain ⟨p2,rfl⟩:∃ X,X = gk:=⟨_,rfl⟩;obtain ⟨W2,rfl⟩:∃ X,X = wr:=⟨_,rfl⟩;have lp2:(nd p2).length <= 400000:=tR (Jl hp2) lp1;by_cases hev:p2 % 2 = 0
     ·have E1:=zH (Yk PA2 pc2 p2 W2 DP2.out.lies true (zH (by simp [hev])));have F1:=zH (UE PA2 pc2 (nd p2) W2 DP2.out (by omega) p2 (zH (Ju p2)));obtain ⟨g1,g2⟩:=HG2.out.left hev;have G1:=zH g1;clear g1 hev;go_wp2_with fail;refine E1.out.mono ?_;rintro e w' ⟨rfl,rfl⟩;clear E1;go_wp2_with fail;refine F1.out.mono ?_;rintro e w2 ⟨A6,c6,rfl,s1,s2,s3,s4⟩;have D6:=zH (Jz s1 s2 s3);have B6:=zH (HB2.out.trans (s4.mono HB2.out.size));clear s1 s2 s3 s4;go_wp2_with fail
      go_roundg (p2 / 2)
      case measure=>exact g2
      case rel=>exact ⟨A6,c6,rfl,D6,by omega,G1,B6⟩
     ·have E1:=zH (Yk PA2 pc2 p2 W2 DP2.out.lies false (zH (by simp [hev])));have DQ2:=zH (DQ1.out.below HB2.out);have BW2:=zH (HB1.out.trans (HB2.out.mono HB1.out.size));have BR:=zH (Wp W2.heap.size W2);go_wp2_with fail;refine E1.out.mono ?_;rintro e w' ⟨rfl,rfl⟩;clear E1;go_wp2_with fail
      go_loopg [1] q1 (fun k b wr=>∃ B d,b = .slice B (nd k).length d /\ Hid (Dg wr B d (nd k)) /\ k <= q1 /\ k ≠ 0 /\ Hid (GcdAt g p2 k) /\ Hid (Below W2.heap.size W2 wr))
      case atStart=>exact ⟨QA1,qc1,rfl,DQ2,WK _,hq0,HG2,BR⟩
      case round=>
       obtain ⟨QA3,qc3,rfl,DQ3,hq3,q30,HG3,HB3⟩:=hrel;clear BR DQ2 HG2;obtain ⟨q3,rfl⟩:∃ X,X = gk:=⟨_,rfl⟩;obtain ⟨W3,rfl⟩:∃ X,X = wr:=⟨_,rfl⟩;have lq3:(nd q3).length <= 400000:=tR (Jl hq3) lq1;by_cases hev3:q3 % 2 = 0
       ·have E1:=zH (Yk QA3 qc3 q3 W3 DQ3.out.lies true (zH (by simp [hev3])));have F1:=zH (UE QA3 qc3 (nd q3) W3 DQ3.out (by omega) q3 (zH (Ju q3)));obtain ⟨g1,g2,g3⟩:=HG3.out.right hev3 q30;have G1:=zH g1;clear g1 hev3;go_wp2_with fail;refine E1.out.mono ?_;rintro e w' ⟨rfl,rfl⟩;clear E1;go_wp2_with fail;refine F1.out.mono ?_;rintro e w2 ⟨A6,c6,rfl,s1,s2,s3,s4⟩;have D6:=zH (Jz s1 s2 s3);have B6:=zH (HB3.out.trans (s4.mono HB3.out.size));clear s1 s2 s3 s4;go_wp2_with fail
        go_roundg (q3 / 2)
        case measure=>exact g2
        case rel=>exact ⟨A6,c6,rfl,D6,by omega,g3,G1,B6⟩
       ·have E1:=zH (Yk QA3 qc3 q3 W3 DQ3.out.lies false (zH (by simp [hev3])));have DP3:=zH (DP2.out.below HB3.out);have BW3:=zH (BW2.out.trans (HB3.out.mono BW2.out.size));have hp0:=HG3.out.pos;rcases WaS q3 p2 with hc | hc
        ·have O1:=zH (X8 PA2 QA3 pc2 qc3 (nd p2) (nd q3) W3 DP3.out.lies DQ3.out.lies (zH (JC _)) (zH (JC _)) DP3.out.cap DQ3.out.cap (by omega) (by omega) p2 q3 (zH (Ju _)) (zH (Ju _)) 1 (zH (Yf hc)));have G1:=zH ((HG3.out.swap q30).sub (by omega) (by omega));go_wp2_with fail;refine E1.out.mono ?_;rintro e w' ⟨rfl,rfl⟩;clear E1;go_wp2_with fail;refine O1.out.mono ?_;rintro e w' ⟨rfl,n9,rfl⟩;clear O1;have B9:Hid (Below w.heap.size w (W3.drewN n9)):=zH (BW3.out.trans (Jb _ _));have DP9:Hid (Dg (W3.drewN n9) PA2 pc2 (nd p2)):=zH (DP3.out.below (Jb _ _));have DQ9:Hid (Dg (W3.drewN n9) QA3 qc3 (nd q3)):=zH (DQ3.out.below (Jb _ _));generalize W3.drewN n9 = w9 at *
         have M1:=zH (Vv PA2 QA3 pc2 qc3 (nd p2) (nd q3) w9 DP9.out.lies DQ9.out.lies (zH (JC _)) (zH (JC _)) (Jl (by omega)) (by omega) (p2 - q3) (zH (by rw [Ju,Ju];omega)));go_wp2_with fail;refine M1.out.mono ?_;rintro e w2 ⟨A6,c6,rfl,s1,s2,s3,s4⟩;have D6:=zH (Jz s1 s2 s3);have D7:=zH (DQ9.out.below s4);have B6:=zH (B9.out.trans (s4.mono B9.out.size));have l6:(nd (p2 - q3)).length <= 400000:=tR (Jl (Wd3 _ _)) lp2;clear s1 s2 s3 s4;go_wp2_with fail
         go_roundg (q3 + (p2 - q3))
         case measure=>omega
         case rel=>exact ⟨q3,p2 - q3,QA3,qc3,A6,c6,rfl,rfl,rfl,D7,D6,lq3,l6,G1,B6⟩
        ·obtain ⟨r3,hr3,hr30⟩:∃ r3,Uv p2 q3 = r3 /\ ¬ 0 < r3:=by
          rcases WaS p2 q3 with h | h
          ·exact ⟨-1,Yu h,by decide⟩
          ·exact ⟨0,Yv (by omega),by decide⟩
         have O1:=zH (X8 PA2 QA3 pc2 qc3 (nd p2) (nd q3) W3 DP3.out.lies DQ3.out.lies (zH (JC _)) (zH (JC _)) DP3.out.cap DQ3.out.cap (by omega) (by omega) p2 q3 (zH (Ju _)) (zH (Ju _)) r3 (zH hr3));clear hr3;have G1:=zH (HG3.out.sub (by omega) hc);go_wp2_with fail;refine E1.out.mono ?_;rintro e w' ⟨rfl,rfl⟩;clear E1;go_wp2_with fail;refine O1.out.mono ?_;rintro e w' ⟨rfl,n9,rfl⟩;clear O1;have B9:Hid (Below w.heap.size w (W3.drewN n9)):=zH (BW3.out.trans (Jb _ _));have DP9:Hid (Dg (W3.drewN n9) PA2 pc2 (nd p2)):=zH (DP3.out.below (Jb _ _));have DQ9:Hid (Dg (W3.drewN n9) QA3 qc3 (nd q3)):=zH (DQ3.out.below (Jb _ _));generalize W3.drewN n9 = w9 at *
         have M1:=zH (Vv QA3 PA2 qc3 pc2 (nd q3) (nd p2) w9 DQ9.out.lies DP9.out.lies (zH (JC _)) (zH (JC _)) (Jl hc) (by omega) (q3 - p2) (zH (by rw [Ju,Ju];omega)));go_wp2_with fail;refine M1.out.mono ?_;rintro e w2 ⟨A6,c6,rfl,s1,s2,s3,s4⟩;have D6:=zH (Jz s1 s2 s3);have D7:=zH (DP9.out.below s4);have B6:=zH (B9.out.trans (s4.mono B9.out.size));have l6:(nd (q3 - p2)).length <= 400000:=tR (Jl (Wd3 _ _)) lq3;clear s1 s2 s3 s4;go_wp2_with fail
         go_roundg (p2 + (q3 - p2))
         case measure=>omega
         case rel=>exact ⟨p2,q3 - p2,PA2,pc2,A6,c6,rfl,rfl,rfl,D7,D6,lp2,l6,G1,B6⟩
theorem Js {w:World} {k:Nat} {cs:Array Value} {t:TypeId} (h:w.heap[k]? = some (.cells cs t (0,0))) (j:Nat):w.frozen? ⟨k,j,none⟩ = false:=by simp [World.frozen?,h]
theorem ZeF (neg:Bool) (A B:Option Addr) (c d:Nat) (a b:List Int) (w:World) (hA:Dg w A c a) (hB:Dg w B d b) (hn:a.length <= 400000) (hm:b.length <= 400000) (x v:Nat) (hx:Hid (vl a = x)) (hv:Hid (vl b = v)) (x0:x ≠ 0) (v2 : 2 <= v) :
  Calls Tryz.prog 94 #[.bool neg,.slice A a.length c,.slice B b.length d] w (RetFr neg (x / x.gcd v) (v / x.gcd v) w):=by
 obtain ⟨j0,hj0,ky0,ky1,ky2⟩:=WaI XT;have KI:=zH hj0;have KZ0:=zH ky0;have KZ1:=zH ky1;have KZ2:=zH ky2;clear hj0 ky0 ky1 ky2;have T1:=zH (fun o=>JJ A c a (w.alloc o) (hA.lies.alloc o) (zH hA.dig) hA.cap (by omega) x hx);have T2:=zH (fun o=>JJ B d b (w.alloc o) (hB.lies.alloc o) (zH hB.dig) hB.cap (by omega) v hv);have DX:=zH (hA.nd hx.out);have DV:=zH (hB.nd hv.out);have lx:(nd x).length <= 400000:=tR (JD hA.dig hx.out) hn;have lv:(nd v).length <= 400000:=tR (JD hB.dig hv.out) hm;have nx:(nd x).length ≠ 0:=fun h=>x0 (Jw.1 h);have nv:(nd v).length ≠ 0:=fun h=>by have:=Jw.1 h;omega
 have q0:(((nd x).length:Int) == 0) = false:=Wz.2 (by omega);have q1:(((nd v).length:Int) == 0) = false:=Wz.2 (by omega);clear hA hB nx nv;go_enter Tryz.func94,Tryz.ntmps94;go_wp2_with fail;refine (T1.out _).mono ?_;rintro e w' ⟨rfl,rfl⟩;go_wp2_with fail;refine (T2.out _).mono ?_;rintro e w' ⟨rfl,rfl⟩;clear T1 T2;go_upto_region 7 with fail;obtain ⟨W2,hW2⟩:∃ W2:World,W2 = ((w.alloc (.cells #[.bool false,.slice none 0 0,.slice none 0 0] 28)).alloc (.cells #[.int .u32 1] 173)):=⟨_,rfl⟩;have B2:Hid (Below w.heap.size w W2):=zH (by rw [hW2];exact (bR.alloc nR _).alloc (by simp) _);have BX2:Hid (Bx W2 w.heap.size):=zH (by rw [hW2];exact (Bx.new w).alloc _);have D1:Hid (Dg W2 (some ⟨w.heap.size + 1,0,none⟩) 1 [1]):=zH (by rw [hW2];have:=Zfc (w.alloc (.cells #[.bool false,.slice none 0 0,.slice none 0 0] 28)) 1 ⟨by decide,by decide⟩ 173;simpa using this);rw [<- hW2];clear hW2;have DX2:=zH (DX.out.below B2.out);have DV2:=zH (DV.out.below B2.out);go_cut [29] (fun t29 wx=>t29 = .bool (decide (x ≠ 1)) /\ wx = W2)
 case first=>
  have O1:=zH (Uf B d v W2 DV2.out.lies (by omega) false (zH (by simp;omega)));have O2:=zH (Uf A c x W2 DX2.out.lies (by omega) (decide (x = 1)) (zH rfl));go_wp2_with fail;refine O1.out.mono ?_;rintro e w' ⟨rfl,rfl⟩;go_wp2_with fail;refine O2.out.mono ?_;rintro e w' ⟨rfl,rfl⟩;go_wp2_with fail;go_meet;exact ⟨by simp,rfl⟩
 case rest=>
  obtain ⟨rfl,rfl⟩:=hcut;obtain ⟨W2,rfl⟩:∃ X,X = wc:=⟨_,rfl⟩;have BR:=zH (Wp W2.heap.size W2);go_upto_if 29 with fail;go_cut [7] (fun t7 wx=>∃ GA gc,t7 = .slice GA (nd (x.gcd v)).length gc /\ Hid (Dg wx GA gc (nd (x.gcd v))) /\ Hid (Below W2.heap.size W2 wx))
  case first=>
   by_cases h1:x = 1
   ·have HQ:Hid (nd (x.gcd v) = [1]):=zH (by rw [h1,Nat.gcd_one_left,YN]);have hd:decide (x ≠ 1) = false:=(by simp [h1]);rw [hd];clear h1 hd;go_wp2_with fail;go_meet;exact ⟨some ⟨w.heap.size + 1,0,none⟩,1,by rw [HQ.out];rfl,by rw [HQ.out];exact D1,BR⟩
   ·have hd:decide (x ≠ 1) = true:=(by simp [h1]);rw [hd];have GC:=zH (Zf4 A B c d x v W2 DX2.out DV2.out lx lv x0 (by omega));clear h1 hd;go_wp2_with fail;refine GC.out.mono ?_;rintro e w3 ⟨GA,gc,rfl,g1,g2,g3,g4⟩;go_wp2_with fail;go_meet;exact ⟨GA,gc,rfl,zH (Jz g1 g2 g3),zH g4⟩
  case rest=>
   obtain ⟨GA,gc,rfl,DG,B3⟩:=hcut;clear D1;have hg0:x.gcd v ≠ 0:=(by have:=WeI v (show 0 < x by omega);omega);have lg:(nd (x.gcd v)).length <= 400000:=tR (Jl (WeR v (by omega))) lx;have HX1:Hid (x / x.gcd v ≠ 0):=zH (by have:=Nat.div_pos (WeR v (show 0 < x by omega)) (WfA hg0);omega);obtain ⟨W3,rfl⟩:∃ X,X = wc:=⟨_,rfl⟩;have DX3:=zH (DX2.out.below B3.out);have DV3:=zH (DV2.out.below B3.out);have BX3:=zH (BX2.out.below B3.out);have BW3:=zH (B2.out.trans (B3.out.mono B2.out.size));generalize x.gcd v = g at *
   have O3:=zH (Uf GA gc g W3 DG.out.lies (by omega) (decide (g = 1)) (zH rfl));have BR3:=zH (Wp W3.heap.size W3);clear DX2 DV2 BX2 B2 B3 BR DX DV;go_upto_if 35 with (go_at_call 145;refine O3.out.mono ?_;rintro e w' ⟨rfl,rfl⟩)
   go_cut [1,2] (fun t1 t2 wx=>∃ A1 c1 A2 c2,t1 = .slice A1 (nd (x / g)).length c1 /\ t2 = .slice A2 (nd (v / g)).length c2 /\ Hid (Dg wx A1 c1 (nd (x / g))) /\ Hid (Dg wx A2 c2 (nd (v / g))) /\ Hid (Below W3.heap.size W3 wx))
   case first=>
    by_cases h1:g = 1
    ·subst h1;have E1:Hid (x / 1 = x):=zH (WeJ x);have E2:Hid (v / 1 = v):=zH (WeJ v);go_wp2_with fail;go_meet;rw [E1.out,E2.out];exact ⟨A,c,B,d,rfl,rfl,DX3,DV3,BR3⟩
    ·have hd:(!decide (g = 1)) = true:=(by simp [h1]);have V1:=zH (Zac A GA c gc x g W3 DX3.out DG.out lx lg hg0);rw [hd];clear hd;go_wp2_with fail;refine V1.out.mono ?_;rintro e w4 ⟨A4,c4,A5,c5,rfl,d1,d2,hb⟩;have V2:=zH (Zac B GA d gc v g w4 (DV3.out.below hb) (DG.out.below hb) lv lg hg0);have D4:=zH d1;have B4:=zH hb;clear d1 d2 hb V1;go_wp2_with fail;refine V2.out.mono ?_;rintro e w5 ⟨A6,c6,A7,c7,rfl,d1,d2,hb⟩;have D6:=zH d1;have D5:=zH (D4.out.below hb);have B5:=zH (B4.out.trans (hb.mono B4.out.size));clear d1 d2 hb V2;go_wp2_with fail;go_meet;exact ⟨A4,c4,A6,c6,rfl,rfl,D5,D6,B5⟩
   case rest=>
    obtain ⟨A1,c1,A2,c2,rfl,rfl,DN,DD,B4⟩:=hcut;have BX4:=zH (BX3.out.below B4.out);have BW4:=zH (BW3.out.trans (B4.out.mono BW3.out.size));have ln:(nd (x / g)).length <= 400000:=tR (Jl (WdK _ _)) lx;have ld:(nd (v / g)).length <= 400000:=tR (Jl (WdK _ _)) lv;clear BX3 BW3 B4 DX3 DV3 DG O3 BR3 hx hv;obtain ⟨W4,rfl⟩:∃ X,X = wc:=⟨_,rfl⟩;generalize x / g = n at *
    generalize v / g = m at *
    have NA:=zH DN.out.nil;have LN:=zH DN.out.lies;have DGN:=zH DN.out.dig;have hs4:w.heap.size < W4.heap.size:=BX4.out.lt;generalize hxs:nd n = xs at *
    have HXS:=zH hxs;clear hxs DN;go_wp2_with (at_builtin;refine Jf _ rfl (.const (.slice none 0 0)) (.tmp 49) _ rfl W4.heap.size 173 j0 _ 1 4 Tryz.underlying26 KI.out KZ0.out KZ1.out KZ2.out rfl (by omega) (.slice none 0 0) 0 [] rfl (WJ _ _ _ _) A1 xs.length c1 (ucs xs) rfl NA.out LN.out (by simp) (ZX _) (by unfold maxLen;omega) (by omega) nR xs.length (WH _) ?_;intro A4 c4 w4 ho4 hg4 _);have hb4:Below W4.heap.size W4 w4:=JQ hg4;have DD4:=zH ((DD.out.below hb4).below ((Wp w4.heap.size w4).alloc nR (.cells #[.bool neg,.slice A4 xs.length c4,.slice none 0 0] 28)));have BX5:=zH ((BX4.out.below hb4).alloc (.cells #[.bool neg,.slice A4 xs.length c4,.slice none 0 0] 28));have BW5:=zH ((BW4.out.trans (hb4.mono BW4.out.size)).alloc (BW4.out.trans (hb4.mono BW4.out.size)).size (.cells #[.bool neg,.slice A4 xs.length c4,.slice none 0 0] 28));have DN5:Hid (Dg (w4.alloc (.cells #[.bool neg,.slice A4 xs.length c4,.slice none 0 0] 28)) A4 c4 xs):=zH (Vq (ho4.alloc _) DGN.out);have DN4:Hid (Dg w4 A4 c4 xs):=zH (Vq ho4 DGN.out);have hs5:w.heap.size < w4.heap.size:=Wk hs4 hb4.size;have HW5:Hid ((w4.alloc (.cells #[.bool neg,.slice A4 xs.length c4,.slice none 0 0] 28)).heap[w4.heap.size]? = some (.cells #[.bool neg,.slice A4 xs.length c4,.slice none 0 0] 28)):=zH (Wg _ _);clear hb4 ho4 hg4 LN DD BX4 BW4;by_cases h1:m = 1
    ·subst h1;have O5:=zH (Uf A2 c2 1 _ DD4.out.lies (by omega) true (zH (by simp)));obtain ⟨k0,k1,k2,f0,f1,f2⟩:=BX5.out.facts;go_wp2_with fail;refine O5.out.mono ?_;rintro e w' ⟨rfl,rfl⟩;generalize hW5:w4.alloc (.cells #[.bool neg,.slice A4 xs.length c4,.slice none 0 0] 28) = W5 at *
     have u0:=Wx W5 w4.heap.size 0 _ _ _ HW5.out;have u1:=Wx W5 w4.heap.size 1 _ _ _ HW5.out;have u2:=Wx W5 w4.heap.size 2 _ _ _ HW5.out;simp at u0 u1 u2;go_wp2_with fail;obtain ⟨e0,e1,e2⟩:=Zy (.bool neg) (.slice A4 xs.length c4) (.slice none 0 0) k0 k1 k2;refine WB (v:=.agg #[.bool neg,.slice A4 xs.length c4,.slice none 0 0]) (by simp [results,Tryz.results94,go_sem,e0,e1,e2]) rfl ?_;exact ⟨⟨neg,A4,c4,xs,none,0,[]⟩,rfl,FrOk.boxed (x:=⟨neg,A4,c4,xs,none,0,[]⟩) ⟨DN5.out,Dg.none _⟩ BX5.out _ _ _,rfl,HXS.out.symm,rfl,((BW5.out.setCell (by simp) _).setCell (by simp) _).setCell (by simp) _⟩
    ·have O5:=zH (Uf A2 c2 m _ DD4.out.lies (by omega) false (zH (by simp [h1])));have HD:Hid (den m = nd m):=zH (by unfold den;rw [Ww h1]);go_wp2_with fail;refine O5.out.mono ?_;rintro e w' ⟨rfl,rfl⟩;have NB:=zH DD4.out.nil;have LB:=zH DD4.out.lies;have DGB:=zH DD4.out.dig;have B45:Hid (Below w4.heap.size w4 (w4.alloc (.cells #[.bool neg,.slice A4 xs.length c4,.slice none 0 0] 28))):=zH ((Wp w4.heap.size w4).alloc nR _);have hs6:w4.heap.size < (w4.alloc (.cells #[.bool neg,.slice A4 xs.length c4,.slice none 0 0] 28)).heap.size:=(by simp);generalize hW5:w4.alloc (.cells #[.bool neg,.slice A4 xs.length c4,.slice none 0 0] 28) = W5 at *
     clear hW5 DD4 O5 h1;generalize hys:nd m = ys at *
     go_wp2_with (at_builtin;refine Jf _ rfl (.const (.slice none 0 0)) (.tmp 55) _ rfl W5.heap.size 173 j0 _ 1 4 Tryz.underlying26 KI.out KZ0.out KZ1.out KZ2.out rfl (by omega) (.slice none 0 0) 0 [] rfl (WJ _ _ _ _) A2 ys.length c2 (ucs ys) rfl NB.out LB.out (by simp) (ZX _) (by unfold maxLen;omega) (by omega) nR ys.length (WH _) ?_;intro A6 c6 w6 ho6 hg6 _;have HB6:Hid (Below W5.heap.size W5 w6):=zH (JQ hg6);have hk6:w6.heap[w4.heap.size]? = _:=(HB6.out.block w4.heap.size hs6).trans HW5.out;have u0:=Wx w6 w4.heap.size 0 _ _ _ hk6;have u1:=Wx w6 w4.heap.size 1 _ _ _ hk6;have u2:=Wx w6 w4.heap.size 2 _ _ _ hk6;have uf:=Js hk6 2;simp at u0 u1 u2;obtain ⟨k0,k1,k2,f0,f1,f2⟩:=(BX5.out.below HB6.out).facts;have hne:¬ w.heap.size = w4.heap.size:=(by omega);have hne':¬ w4.heap.size = w.heap.size:=(by omega);have HO6:=zH ho6;have HK6:=zH hk6;clear ho6 hg6 hk6);have BX7:Hid (Bx (w6.setCell ⟨w4.heap.size,2,none⟩ (.slice A6 ys.length c6)) w.heap.size):=zH ((Wu w6 ⟨w4.heap.size,2,none⟩ (.slice A6 ys.length c6) w.heap.size hne).trans (BX5.out.below HB6.out));have B47:=zH ((B45.out.trans (HB6.out.mono B45.out.size)).setCell (p:=⟨w4.heap.size,2,none⟩) nR (.slice A6 ys.length c6));have BW7:=zH ((BW5.out.trans (HB6.out.mono BW5.out.size)).setCell (p:=⟨w4.heap.size,2,none⟩) (Wd9 hs5) (.slice A6 ys.length c6));have DN7:=zH (DN4.out.below B47.out);have DM7:Hid (Dg (w6.setCell ⟨w4.heap.size,2,none⟩ (.slice A6 ys.length c6)) A6 c6 ys):=zH (Vq (JU HO6.out hs6 _) DGB.out);obtain ⟨m0,m1,m2,-,-,-⟩:=BX7.out.facts;obtain ⟨e0,e1,e2⟩:=Zy (.bool neg) (.slice A4 xs.length c4) (.slice A6 ys.length c6) m0 m1 m2;refine WB (v:=.agg #[.bool neg,.slice A4 xs.length c4,.slice A6 ys.length c6]) (by simp [results,Tryz.results94,go_sem,e0,e1,e2]) rfl ?_;exact ⟨⟨neg,A4,c4,xs,A6,c6,ys⟩,rfl,FrOk.boxed (x:=⟨neg,A4,c4,xs,A6,c6,ys⟩) ⟨DN7.out,DM7.out⟩ BX7.out _ _ _,rfl,HXS.out.symm,HD.out.symm,((BW7.out.setCell (by simp) _).setCell (by simp) _).setCell (by simp) _⟩
structure Fq (w:World) (x:Fr) (q:Rat):Prop where
 ok:FrOk w x
 neg:x.neg = qs q
 num:x.N = nd (qn q)
 dn:x.D = den q.den
def Zk (q:Rat) (w:World) (e:Ending) (w':World):Prop:=∃ x:Fr,e = .returned x.val /\ Fq w' x q /\ Below w.heap.size w w'
theorem RetFr.fq {b:Bool} {n d:Nat} {q:Rat} {w w':World} {e:Ending} (h:RetFr b n d w e w') (hb:b = qs q) (hn:n = qn q) (hd:d = q.den):Zk q w e w':=by
 obtain ⟨x,he,hx,h1,h2,h3,h4⟩:=h;exact ⟨x,he,⟨hx,h1.trans hb,by rw [h2,hn],by rw [h3,hd]⟩,h4⟩
theorem Zu (neg:Bool) (A B:Option Addr) (c d:Nat) (a b:List Int) (w:World) (hA:Dg w A c a) (hB:Dg w B d b) (hn:a.length <= 400000) (hm:b.length <= 400000) (x v:Nat) (hx:Hid (vl a = x)) (hv:Hid (vl b = v)) :
  Calls Tryz.prog 94 #[.bool neg,.slice A a.length c,.slice B b.length d] w (Zk (fq neg x v) w):=by
 by_cases hv2 : 2 <= v
 ·obtain ⟨p1,p2,p3⟩:=ZG (a:=neg) (n:=x) (d:=v) (by omega);by_cases x0:x = 0
  ·subst x0;refine (Q6 neg A B c d a b w hA hB (by omega) (by omega) (zH (by rw [hx.out];rfl))).mono fun e w' h=>h.fq ?_ ?_ ?_
   ·rw [p1];simp
   ·rw [p2];simp
   ·rw [p3,Nat.gcd_zero_left,Nat.div_self (by omega)]
  ·refine (ZeF neg A B c d a b w hA hB hn hm x v hx hv x0 hv2).mono fun e w' h=>h.fq ?_ p2.symm p3.symm;rw [p1];simp [x0]
 ·have hv1:vl b = 0 ∨ vl b = 1:=by have:=hv.out;omega
  have e1:fq neg x v = fq neg x 1:=by
   rcases (show v = 0 ∨ v = 1 by omega) with rfl | rfl
   ·rfl
   ·rfl
  obtain ⟨p1,p2,p3⟩:=ZG (a:=neg) (n:=x) (d:=1) (by omega);rw [e1];refine (Zbp neg A B c d a b w hA hB (by omega) (by omega) x hx (zH hv1)).mono fun e w' h=>h.fq p1.symm ?_ ?_
  ·rw [p2];simp
  ·rw [p3];simp
end Go.Proofs.YtcjicjfbippmnaaGreat
