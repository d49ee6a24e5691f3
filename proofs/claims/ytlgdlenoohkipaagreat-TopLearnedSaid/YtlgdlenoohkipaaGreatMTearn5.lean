/- TopLearned -/
import Derived.Test.YtlgdlenoohkipaaGreatMTearn4
set_option maxRecDepth 100000
set_option maxHeartbeats 32000000
namespace Go.Proofs.YtlgdlenoohkipaaGreat
open Go.RowKit Ear

theorem QC (a b:Nat) (ha:a < 18446744073709551616) (hb:b < 18446744073709551616):bits .or .u64 (a:Int) (b:Int) = ((a ||| b:Nat):Int):=by
 have hx:a ||| b < 2 ^ 64:=Nat.or_lt_two_pow (by omega) (by omega);have h1:(BitVec.ofInt 64 (a:Int)).toNat = a:=by
  rw [BitVec.ofInt_natCast,BitVec.toNat_ofNat];exact Nat.mod_eq_of_lt (by omega)
 have h2:(BitVec.ofInt 64 (b:Int)).toNat = b:=by
  rw [BitVec.ofInt_natCast,BitVec.toNat_ofNat];exact Nat.mod_eq_of_lt (by omega)
 show IntKind.u64.wrap ((BitVec.ofInt 64 (a:Int) ||| BitVec.ofInt 64 (b:Int)).toNat:Int) = _;rw [BitVec.toNat_or,h1,h2,IntKind.wrap_u64];omega
theorem ZeE (a b i:Nat) (ha:a < 2 ^ i) (hb:b % 2 ^ i = 0):a ||| b = a + b:=by
 obtain ⟨t,rfl⟩:=Nat.dvd_of_mod_eq_zero hb;rw [Nat.or_comm,<- Nat.two_pow_add_eq_or_of_lt ha,Nat.add_comm]
theorem VK (r x:Int) (r0 : 0 <= r) (r1:r <= 4294967295) (x0 : 0 <= x) (x1:x <= 4294967295):bits .or .u64 (r * 4294967296) x = r * 4294967296 + x:=by
 obtain ⟨n,rfl⟩:=Int.eq_ofNat_of_zero_le r0;obtain ⟨y,rfl⟩:=Int.eq_ofNat_of_zero_le x0;have e:((n:Int) * 4294967296) = ((n * 4294967296:Nat):Int):=by simp
 rw [e,QC _ _ (by omega) (by omega),Nat.or_comm,ZeE y (n * 4294967296) 32 (by omega) (by omega)];omega
theorem Zdp (r x:Int) (r0 : 0 <= r) (r1:r <= 4294967295) (x0 : 0 <= x) (x1:x <= 4294967295):bits .or .u64 x (r * 4294967296) = x + r * 4294967296:=by
 obtain ⟨n,rfl⟩:=Int.eq_ofNat_of_zero_le r0;obtain ⟨y,rfl⟩:=Int.eq_ofNat_of_zero_le x0;have e:((n:Int) * 4294967296) = ((n * 4294967296:Nat):Int):=by simp
 rw [e,QC _ _ (by omega) (by omega),ZeE y (n * 4294967296) 32 (by omega) (by omega)];omega
def ZjY (q r:Nat) (w:World) (e:Ending) (w':World):Prop:=
 ∃ A c,e = .returned (.tuple #[.slice A (nd q).length c,.int .u32 r]) /\ Lies w' A (ucs (nd q)) /\ (nd q).length <= c /\ (A = none -> c = 0) /\ Below w.heap.size w w'
theorem ZdZ (A:Option Addr) (c:Nat) (a:List Int) (d:Nat) (w:World) (hA:Dg w A c a) (hn:a.length <= 900000) (d0 : 0 < d) (d1:d <= 4294967295) (v:Nat) (hv:Hid (vl a = v)) :
  Calls Tryz.prog 203 #[.slice A a.length c,.int .u32 d] w (ZjY (v / d) (v % d) w):=by
 obtain ⟨w1,hmk,ho1,hb1⟩:=XN w a.length (by omega) w.heap.size nR;obtain ⟨g,hg⟩:∃ g,g = w.heap.size:=⟨_,rfl⟩;rw [<- hg] at ho1 hmk;have HG:Hid (w.heap.size <= g):=by show _ <= _;omega
 have HST:=zH (OverAt.start a (d:=d) (by omega));have da:=zH hA.dig;have LA:=zH hA.lies;clear hg hA;go_enter Tryz.func203,Tryz.ntmps203;go_wp2_with fail;clear hmk;go_loopw [7,8] (fun rs i wr=>∃ k:Nat,k <= a.length /\ i = .int .i64 ((k:Int) - 1) /\ ∃ out r,Hid (OverAt a out d k r) /\ rs = .int .u64 r /\ wr.ownsRow g 170 1 (.slice (some ⟨g,0,none⟩) a.length a.length) a.length (ucs out) /\ Below w.heap.size w wr) (fun _ i _=>(intOf i + 1).toNat)
 case atStart=>exact ⟨a.length,Nat.le_refl _,rfl,_,_,HST,rfl,ho1,hb1⟩
 case round=>
  obtain ⟨k,hk,rfl,out,r,HM,rfl,r1,r2⟩:=hrel;clear HST ho1;have h0:=HM.out.r0;have h1:=HM.out.r1;have hol:=HM.out.len;by_cases hz:k = 0
  ·subst hz;obtain ⟨f1,f2⟩:=HM.out.done;have HT:=zH (ZX r1 hol HM.out.dig (by omega) (v:=v / d) (by rw [f1,hv.out];simp));have HR2:=zH r2;have HE:Hid (r = ((v % d:Nat):Int)):=zH (by rw [f2,hv.out];simp);clear r1 r2 hol f1 f2;go_wp2_with fail;refine HT.out.mono ?_;rintro e w' ⟨A2,c2,rfl,t1,t2,t3,t4⟩;go_wp2_with fail;go_ret2;exact ⟨A2,c2,by rw [HE.out];rfl,t1,t2,t3,HR2.out.trans (t4.mono HR2.out.size)⟩
  ·obtain ⟨b1,o1,rfl,hb1,hc1⟩:=(LA.out.below r2).uat (k:=k - 1) (by omega);have dx:=JH da.out (k - 1);obtain ⟨q1,q2⟩:=J5 r1 hol (show k - 1 < a.length by omega);have i0:((k:Int) - 1).toNat = k - 1:=(by omega);have HM':Hid (OverAt a out d (k - 1 + 1) r):=(by rw [show k - 1 + 1 = k by omega];exact HM);have HN:=zH (fun t ht=>HM'.out.next da.out (by omega) (t:=t) ht);generalize a[k - 1]?.getD 0 = x at *
   have HF:=zH (HN.out _ rfl);have HO:=zH r1;have HR2:=zH r2;have dz:((d:Int) == 0) = false:=(by simp;omega);have pw:IntKind.u64.wrap (r * 4294967296) = r * 4294967296:=IntWalk.u64_in _ (by omega);have po:=VK r x (by omega) (by omega) dx.1 dx.2;have pq:=VJ h0 h1 dx.1 dx.2;have HQ:=zH pq;have e32:(r * 4294967296 + x) / (d:Int) % 4294967296 = (r * 4294967296 + x) / (d:Int):=(by clear hv;omega);clear HM' HN hol r1 r2 hv pq;go_wp2_with fail;exact ⟨⟨k - 1,by omega,by go_num,_,_,HF,rfl,Xi HO.out (k - 1) _,HR2.out.setCell (by exact HG.out) _⟩,by simp [intOf];omega⟩
theorem UE {by_:Nat} (h:by_ <= 31):((2:Int) ^ by_) * (2:Int) ^ (32 - by_) = 4294967296:=by
 rw [<- Int.pow_add,show by_ + (32 - by_) = 32 by omega];rfl
theorem ZcG (k:Nat) : 0 < (2:Int) ^ k:=Int.pow_pos (by decide)
theorem Z7 (k:Nat):((2 ^ k:Nat):Int) = (2:Int) ^ k:=by simp
theorem QD (a b:Int) (i:Nat) (a0 : 0 <= a) (a1:a < (2:Int) ^ i) (b0 : 0 <= b) (b1:b <= 4294967295) (hb:b % (2:Int) ^ i = 0) (ha:a <= 4294967295):bits .or .u32 a b = a + b:=by
 obtain ⟨n,rfl⟩:=Int.eq_ofNat_of_zero_le a0;obtain ⟨y,rfl⟩:=Int.eq_ofNat_of_zero_le b0;rw [<- Z7] at a1 hb;rw [u32_or_nat _ _ (by omega) (by omega),ZeE n y i (by exact_mod_cast a1) (by exact_mod_cast hb)];omega
theorem ZbX {x:Int} {i:Nat} (hi:i <= 31):(x * (2:Int) ^ i % 4294967296) % (2:Int) ^ i = 0:=by
 rw [<- UE hi,Int.emod_emod_of_dvd _ (Int.dvd_mul_right _ _)];exact Int.mul_emod_left ..
theorem Qm (A:Option Addr) (c:Nat) (a:List Int) (i:Nat) (w:World) (hA:Dg w A c a) (hn:a.length <= 900000) (hi:i <= 31) (v:Nat) (hv:Hid (vl a = v)) :
  Calls Tryz.prog 205 #[.slice A a.length c,.int .i64 i] w (Yo (v * 2 ^ i) w):=by
 obtain ⟨w1,hmk,ho1,hb1⟩:=XN w (a.length + 1) (by omega) w.heap.size nR;have e2:((a.length + 1:Nat):Int) = (a.length:Int) + 1:=by simp
 rw [e2] at hmk;obtain ⟨g,hg⟩:∃ g,g = w.heap.size:=⟨_,rfl⟩;rw [<- hg] at ho1 hmk;have HG:Hid (w.heap.size <= g):=by show _ <= _;omega
 have HP:=zH (ZcG i);have HPS:=zH (UE hi);have HST:=zH (ShAt.start a HP.out);have da:=zH hA.dig;have LA:=zH hA.lies;have i9:(32 - (i:Int)).toNat = 32 - i:=by omega
 clear hg e2 hA;go_enter Tryz.func205,Tryz.ntmps205;go_wp2_with fail;clear hmk;go_loopw [6,7,14] (fun _ _ j wr=>∃ k:Nat,k <= a.length /\ j = .int .i64 k /\ ∃ out,Hid (ShAt a out ((2:Int) ^ i) k) /\ wr.ownsRow g 170 1 (.slice (some ⟨g,0,none⟩) (a.length + 1) (a.length + 1)) (a.length + 1) (ucs out) /\ Below w.heap.size w wr) (fun _ _ j _=>a.length - (intOf j).toNat)
 case atStart=>exact ⟨0,by omega,rfl,_,HST,ho1,hb1⟩
 case round=>
  obtain ⟨k,hk,rfl,out,HM,r1,r2⟩:=hrel;clear HST ho1;have hol:=HM.out.len;by_cases hlt:k < a.length
  ·obtain ⟨b1,o1,rfl,hb1,hc1⟩:=(LA.out.below r2).uat hlt;have dx:=JH da.out k;have dt:=JH HM.out.dig k;have tp:=HM.out.top;obtain ⟨q1,q2⟩:=J5 r1 hol (show k < a.length + 1 by omega);have HN:=zH (fun x y z hx hy hz=>HM.out.next da.out hlt HP.out HPS.out (x:=x) (y:=y) (z:=z) hx hy hz);have HO:=zH r1;have HR2:=zH r2;generalize hx:a[k]?.getD 0 = x at *
   generalize ht:out[k]?.getD 0 = t at *
   have HF:=zH (HN.out x _ _ rfl rfl rfl);have m0 : 0 <= x * (2:Int) ^ i % 4294967296 /\ x * (2:Int) ^ i % 4294967296 <= 4294967295:=(by omega);have po:=QD t (x * (2:Int) ^ i % 4294967296) i dt.1 tp m0.1 m0.2 (ZbX hi) dt.2;have s0 : 0 <= x / (2:Int) ^ (32 - i) /\ x / (2:Int) ^ (32 - i) <= 4294967295:=⟨HF.out.2.2.1,by have:=Int.ediv_le_self ((2:Int) ^ (32 - i)) dx.1;omega⟩;have HQ:=zH (fun (W:World) (hW:W.ownsRow g 170 1 (.slice (some ⟨g,0,none⟩) (a.length + 1) (a.length + 1)) (a.length + 1) (ucs (out.set k (t + x * (2:Int) ^ i % 4294967296))))=>J5 hW (by simp;exact hol) (show k + 1 < a.length + 1 by omega));have HS1:=zH (Xi HO.out k (t + x * (2:Int) ^ i % 4294967296));have HQ1:=HQ.out _ HS1.out;obtain ⟨q3,q4⟩:=HQ1;have i1:(k:Int) < (a.length:Int) + 1:=(by omega);clear hx ht HN hol r1 r2 hv HQ tp;go_wp2_with fail;go_still_tail 9,(by kernel_rfl);repeat still_step
   go_wp2_with fail;exact ⟨⟨k + 1,by omega,by go_num,_,zH HF.out.2.2.2.2,Xi HS1.out.drew (k + 1) _,(HR2.out.setCell (by exact HG.out) _).drew.setCell (by exact HG.out) _⟩,by simp [intOf];omega⟩
  ·obtain rfl:k = a.length:=by omega
   have HT:=zH (ZX r1 hol HM.out.dig (by omega) (v:=v * 2 ^ i) (by rw [HM.out.done,hv.out];simp));have HR2:=zH r2;clear r1 r2 hol;go_wp2_with fail;refine HT.out.mono ?_;rintro e w' ⟨A2,c2,rfl,t1,t2,t3,t4⟩;go_wp2_with fail;go_ret;exact ⟨A2,c2,rfl,t1,t2,t3,HR2.out.trans (t4.mono HR2.out.size)⟩
end Go.Proofs.YtlgdlenoohkipaaGreat
namespace Go.Proofs.YtlgdlenoohkipaaGreat
open Go.RowKit

theorem Zjz (y:Int) (W:World) (h0 : 0 <= y) (h1:y <= 255):(Instr.index 9 (.string Lib.len8tab) (.int .u8 y)).run Tryz.prog W = .ok (.int .u8 (Lib.bitLen y.toNat)) W:=by
 rw [Lib.run_index_len8tab W 9 .u8 y Tryz.underlying9 h0 h1,Lib.len8_of y h0 h1]
theorem Ze0 (x:Int) (w:World) (h0 : 0 <= x) (h1:x <= 4294967295) :
  Calls Tryz.prog 201 #[.int .u32 x] w fun e w'=>e = .returned (.int .i64 (Lib.bitLen x.toNat)) /\ w' = w:=by
 by_cases a1 : 65536 <= x
 ·by_cases a2 : 16777216 <= x
  ·have b1 : 256 <= x / 65536:=by omega
   have l:=Lib.bitLen_le8' (x / 65536 / 256) (by omega) (by omega);have s:=Lib.bitLen_shift24 x.toNat (by omega) (by omega);have e:(x / 65536 / 256).toNat = x.toNat / 16777216:=(by omega);have hi:=fun W=>Zjz (x / 65536 / 256) W (by omega) (by omega);rw [e] at hi l;rw [s];generalize Lib.bitLen (x.toNat / 16777216) = b at *
   clear s e;have m1:x / 65536 / 256 % 256 = x / 65536 / 256:=(by omega);go_enter Tryz.func201,Tryz.ntmps201;go_wp2_with fail;go_ret;exact ⟨JU (by omega),rfl⟩
  ·have b1:¬ 256 <= x / 65536:=by omega
   have l:=Lib.bitLen_le8' (x / 65536) (by omega) (by omega);have s:=Lib.bitLen_shift16 x.toNat (by omega) (by omega);have e:(x / 65536).toNat = x.toNat / 65536:=(by omega);have hi:=fun W=>Zjz (x / 65536) W (by omega) (by omega);rw [e] at hi l;rw [s];generalize Lib.bitLen (x.toNat / 65536) = b at *
   clear s e;have m1:x / 65536 % 256 = x / 65536:=(by omega);go_enter Tryz.func201,Tryz.ntmps201;go_wp2_with fail;go_ret;exact ⟨JU (by omega),rfl⟩
 ·by_cases a2 : 256 <= x
  ·have l:=Lib.bitLen_le8' (x / 256) (by omega) (by omega);have s:=Lib.bitLen_shift8 x.toNat (by omega) (by omega);have e:(x / 256).toNat = x.toNat / 256:=(by omega);have hi:=fun W=>Zjz (x / 256) W (by omega) (by omega);rw [e] at hi l;rw [s];generalize Lib.bitLen (x.toNat / 256) = b at *
   clear s e;have m1:x / 256 % 256 = x / 256:=(by omega);go_enter Tryz.func201,Tryz.ntmps201;go_wp2_with fail;go_ret;exact ⟨JU (by omega),rfl⟩
  ·have l:=Lib.bitLen_le8' x (by omega) (by omega);have hi:=fun W=>Zjz x W (by omega) (by omega);generalize Lib.bitLen x.toNat = b at *
   have m1:x % 256 = x:=(by omega);go_enter Tryz.func201,Tryz.ntmps201;go_wp2_with fail;go_ret;exact ⟨JU (by omega),rfl⟩
theorem ZdM (x:Nat) (h:x ≠ 0) : 1 <= Lib.bitLen x:=by
 show 1 <= Lib.bitLenAux 64 x;unfold Lib.bitLenAux;rw [if_neg h];omega
open Ear
theorem Zi (A:Option Addr) (c:Nat) (a:List Int) (k:Nat) (w:World) (hA:Lies w A (ucs a)) (x:Int) (hx:Hid (a[k]?.getD 0 = x)) (hb : 0 <= x /\ x <= 4294967295) :
  Calls Tryz.prog 206 #[.slice A a.length c,.int .i64 k] w fun e w'=>e = .returned (.int .u64 x) /\ w = w':=by
 by_cases hlt:k < a.length
 ·obtain ⟨b1,o1,rfl,hb1,hc1⟩:=hA.uat hlt;rw [hx.out] at hc1;have q:¬ (a.length:Int) <= (k:Int):=by omega
  go_enter Tryz.func206,Tryz.ntmps206;go_wp2_with fail;go_ret;exact ⟨rfl,rfl⟩
 ·have HX:Hid (x = 0):=zH (by rw [<- hx.out,List.getElem?_eq_none (by omega)];rfl);have q:(a.length:Int) <= (k:Int):=by omega
  go_enter Tryz.func206,Tryz.ntmps206;go_wp2_with fail;go_ret;exact ⟨by rw [HX.out];rfl,rfl⟩
theorem ZgO (a:List Int) (p:Int) (k:Nat) (hk:k < a.length):(dnL a p).take (k + 1) = (dnL a p).take k ++ [ZiG a p k]:=by
 rw [List.take_succ_eq_append_getElem (by unfold dnL;simpa using hk)];unfold dnL;simp
theorem Zd0 (A:Option Addr) (c:Nat) (a:List Int) (i:Nat) (w:World) (hA:Dg w A c a) (hn:a.length <= 900000) (hi:i <= 31) (v:Nat) (hv:Hid (vl a = v)) :
  Calls Tryz.prog 208 #[.slice A a.length c,.int .i64 i] w (Yo (v / 2 ^ i) w):=by
 obtain ⟨w1,hmk,ho1,hb1⟩:=XN w a.length (by omega) w.heap.size nR;obtain ⟨g,hg⟩:∃ g,g = w.heap.size:=⟨_,rfl⟩;rw [<- hg] at ho1 hmk;have HG:Hid (w.heap.size <= g):=by show _ <= _;omega
 have da:=zH hA.dig;have LA:=zH hA.lies;have HV:Hid (vl (dnL a ((2:Int) ^ i)) = ((v / 2 ^ i:Nat):Int)):=zH (by rw [Zio da.out (ZcG i) (UE hi),hv.out];simp);have HLn:Hid ((dnL a ((2:Int) ^ i)).length = a.length):=zH (by unfold dnL;simp);have HDL:=zH (Zip a ((2:Int) ^ i));clear hg hA;go_enter Tryz.func208,Tryz.ntmps208;go_wp2_with fail;clear hmk;go_loopw [6,12] (fun _ j wr=>∃ k:Nat,k <= a.length /\ j = .int .i64 k /\ wr.ownsRow g 170 1 (.slice (some ⟨g,0,none⟩) a.length a.length) a.length (ucs ((dnL a ((2:Int) ^ i)).take k ++ (List.replicate a.length 0).drop k)) /\ Below w.heap.size w wr) (fun _ j _=>a.length - (intOf j).toNat)
 case atStart=>exact ⟨0,by omega,rfl,by simpa using ho1,hb1⟩
 case round=>
  obtain ⟨k,hk,rfl,r1,r2⟩:=hrel;clear ho1;have hol:((dnL a ((2:Int) ^ i)).take k).length = k:=by rw [List.length_take,HLn.out];omega
  by_cases hlt:k < a.length
  ·have L1:=LA.out.below r2;have d1:=JH da.out k;have d2:=JH da.out (k + 1);obtain ⟨q1,q2⟩:=J5 r1 (by rw [UK hol (by simp;omega)];simp) hlt;have HS:Hid (∀ t,t = ZiG a ((2:Int) ^ i) k -> ((dnL a ((2:Int) ^ i)).take k ++ (List.replicate a.length 0).drop k).set k t = (dnL a ((2:Int) ^ i)).take (k + 1) ++ (List.replicate a.length 0).drop (k + 1)):=zH (fun t ht=>by rw [ZbQ hol (by simp;exact hlt),ZgO a _ k hlt,ht]);have HO:=zH r1;have HR2:=zH r2;have C1:=zH (Zi A c a k wr L1 _ (zH rfl) d1);have C2:=zH (Zi A c a (k + 1) wr L1 _ (zH rfl) d2);have HAt:Hid (ZiG a ((2:Int) ^ i) k = (a[k]?.getD 0 + a[k + 1]?.getD 0 * 4294967296) / (2:Int) ^ i % 4294967296):=zH rfl;generalize a[k]?.getD 0 = x at *
   generalize a[k + 1]?.getD 0 = y at *
   have pw:IntKind.u64.wrap (y * 4294967296) = y * 4294967296:=IntWalk.u64_in _ (by omega);have po:=Zdp y x d2.1 d2.2 d1.1 d1.2;have ek:((k + 1:Nat):Int) = (k:Int) + 1:=(by simp);rw [ek] at C2;clear r1 r2 hol hv L1 ek;go_wp2_with fail;refine C1.out.mono ?_;rintro e w' ⟨rfl,rfl⟩;go_wp2_with fail;refine C2.out.mono ?_;rintro e w' ⟨rfl,rfl⟩;go_wp2_with fail;refine ⟨⟨k + 1,by omega,by go_num,?_,HR2.out.setCell (by exact HG.out) _⟩,by simp [intOf];omega⟩;rw [<- HS.out _ HAt.out.symm];exact Xi HO.out k _
  ·obtain rfl:k = a.length:=by omega
   have HE:Hid ((dnL a ((2:Int) ^ i)).take a.length ++ (List.replicate a.length 0).drop a.length = dnL a ((2:Int) ^ i)):=zH (by rw [List.take_of_length_le (by rw [HLn.out];exact Nat.le_refl _),List.drop_eq_nil_of_le (by simp),List.append_nil]);rw [HE.out] at r1;have HT:=zH (ZX r1 HLn.out HDL.out (by omega) (v:=v / 2 ^ i) HV.out);have HR2:=zH r2;clear r1 r2 hol;go_wp2_with fail;refine HT.out.mono ?_;rintro e w' ⟨A2,c2,rfl,t1,t2,t3,t4⟩;go_wp2_with fail;go_ret;exact ⟨A2,c2,rfl,t1,t2,t3,HR2.out.trans (t4.mono HR2.out.size)⟩
theorem ZfW (j:Nat) (l:List Int):vl (List.replicate j 0 ++ l) = BB ^ j * vl l:=by
 rw [YK,Xd];simp
theorem Zgr {x:Nat} (h:x ≠ 0) (j:Nat):nd (x * 4294967296 ^ j) = List.replicate j 0 ++ nd x:=by
 have hd:dgs (List.replicate j 0 ++ nd x):=by
  intro y hy;rcases List.mem_append.1 hy with hy | hy
  ·exact J7 j y hy
  ·exact Jy x y hy
 have hc:cn (List.replicate j 0 ++ nd x):=by
  have h1:=ZjS x;have h2:(nd x).length ≠ 0:=fun e=>h (Js.1 e);unfold cn at *
  rw [List.length_append,List.length_replicate,List.getElem?_append_right (by simp;omega),List.length_replicate,show j + (nd x).length - 1 - j = (nd x).length - 1 by omega];exact h1
 have e:=Zi5 hd hc;rw [e];congr 1;rw [ZfW,Jo,Qa,Nat.mul_comm];have:((4294967296 ^ j:Nat):Int) * (x:Int) = ((4294967296 ^ j * x:Nat):Int):=by simp
 rw [this];rfl
theorem Zgu (w:World) (n:Nat) (hn:n <= 1000000000) (base:Nat) (hb:base <= w.heap.size) :
  ∃ w',(Instr.makeSlice 194 (.int .i64 (n:Int)) (.int .i64 (n:Int))).run Tryz.prog w = .ok (.slice (some ⟨w.heap.size,0,none⟩) n n) w' /\
   w'.ownsRow base 170 1 (.slice (some ⟨w.heap.size,0,none⟩) n n) n (ucs (List.replicate n 0)) /\ Below w.heap.size w w':=by
 obtain ⟨i0,hi0,hz0,hz1,hz2⟩:=info_parts XJ;obtain ⟨w',h1,h2,h3⟩:=run_make_full (P:=Tryz.prog) w base 194 170 i0 _ 1 Tryz.underlying194 hi0 hz0 hz1 .i64 .i64 n (by rw [hz2];omega) (by unfold maxLen;omega) hb;rw [ZcO] at h2;exact ⟨w',h1,h2,Xa h3⟩
theorem ZaI (A:Option Addr) (c:Nat) (x j:Nat) (w:World) (hA:Dg w A c (nd x)) (hn:(nd x).length <= 900000) (hj:j <= 900000) :
  Calls Tryz.prog 207 #[.slice A (nd x).length c,.int .i64 j] w (Yo (x * 4294967296 ^ j) w):=by
 by_cases h0:x = 0
 ·subst h0;have HE:Hid (nd (0 * 4294967296 ^ j) = []):=zH (by rw [Nat.zero_mul,JE]);have hl:(nd 0).length = 0:=by rw [JE];rfl
  rw [hl];clear hl hn hA;go_enter Tryz.func207,Tryz.ntmps207;go_wp2_with fail;go_ret;exact ⟨none,0,by rw [HE.out];rfl,by rw [HE.out];exact Lies.nil _ _,by rw [HE.out];exact Nat.le_refl _,fun _=>rfl,Below.refl _ _⟩
 ·have HE:=zH (Zgr h0 j);have hne:(nd x).length ≠ 0:=fun e=>h0 (Js.1 e);obtain ⟨w1,hmk,ho1,hb1⟩:=Zgu w j (by omega) w.heap.size nR;obtain ⟨j0,hj0,ky0,ky1,ky2⟩:=info_parts XJ;have KI:=zH hj0;have KZ0:=zH ky0;have KZ1:=zH ky1;have KZ2:=zH ky2;clear hj0 ky0 ky1 ky2;have NA:=zH hA.nil;have LA:=zH (hA.lies.below hb1);clear hA;generalize hxs:nd x = xs at *
  have q:((xs.length:Int) == 0) = false:=beq_eq_false_iff_ne.2 (by omega);have HX:=zH hxs;clear hxs;go_enter Tryz.func207,Tryz.ntmps207;go_wp2_with (at_builtin;refine Jg _ rfl (.tmp 9) (.tmp 10) _ rfl w.heap.size 170 j0 _ 1 4 Tryz.underlying194 KI.out KZ0.out KZ1.out KZ2.out rfl (by omega) (.slice (some ⟨w.heap.size,0,none⟩) j j) j (ucs (List.replicate j 0)) rfl ho1 A xs.length c (ucs xs) rfl NA.out LA.out (by simp) (ZC _) (by unfold maxLen;omega) (by omega) hb1.size (j + xs.length) rfl ?_;intro A4 c4 w4 ho4 hg4 _);go_ret;rw [<- Xh] at ho4;refine ⟨A4,c4,by rw [HE.out];simp,?_,?_,(Xj ho4).2,hb1.grown hg4 hb1.size (fun k hk=>?_)⟩
  ·rw [HE.out];exact Lies.of_own ho4
  ·rw [HE.out];simp;exact (Xj ho4).1
  ·simp [Value.ownBlock] at hk;omega
theorem Ze1 (x:Int) (w:World) (h0 : 1 <= x) (h1:x <= 4294967295) :
  Calls Tryz.prog 204 #[.int .u32 x] w fun e w'=>∃ k:Nat,k <= 31 /\ e = .returned (.int .i64 k) /\ w = w':=by
 have l:=Lib.bitLen_le x.toNat 32 (by omega) (by omega);have l1:=ZdM x.toNat (by omega);have HC:=zH (fun W=>Ze0 x W (by omega) h1);generalize Lib.bitLen x.toNat = b at *
 go_enter Tryz.func204,Tryz.ntmps204;go_wp2_with fail;refine (HC.out _).mono ?_;rintro e w' ⟨rfl,rfl⟩;go_wp2_with fail;go_ret;exact ⟨32 - b,by omega,JU (by omega),rfl⟩
def UY (q r:Nat) (w:World) (e:Ending) (w':World):Prop:=
 ∃ A c B d,e = .returned (.tuple #[.slice A (nd q).length c,.slice B (nd r).length d]) /\ Dg w' A c (nd q) /\ Dg w' B d (nd r) /\ Below w.heap.size w w'
theorem Jz {n:Nat} {w:World} {A:Option Addr} {c:Nat} (h1:Lies w A (ucs (nd n))) (h2:(nd n).length <= c) (h3:A = none -> c = 0):Dg w A c (nd n):=⟨h1,Jy n,h2,h3⟩
theorem Zhx (A B:Option Addr) (c d x y:Nat) (w:World) (hA:Dg w A c (nd x)) (hB:Dg w B d (nd y)) (hx:(nd x).length <= 400000) (hxy:x < y) :
  Calls Tryz.prog 186 #[.slice A (nd x).length c,.slice B (nd y).length d] w (UY (x / y) (x % y) w):=by
 have H0:=zH (Yp A B c d x y w hA hB (by omega) (-1) (zH (Yk hxy)));have H1:=zH (fun n=>Zr A c (nd x) (w.drewN n) (hA.below (Ja _ _)) (by omega));have HQ:Hid (x / y = 0):=zH (Nat.div_eq_of_lt hxy);have HR:Hid (x % y = x):=zH (Nat.mod_eq_of_lt hxy);clear hA hB;go_enter Tryz.func186,Tryz.ntmps186;go_wp2_with fail;go_step3;go_wp2_with fail;refine H0.out.mono ?_;rintro e w' ⟨rfl,n,rfl⟩;go_wp2_with fail;refine (H1.out n).mono ?_;rintro e w' ⟨A2,c2,rfl,ho,hb⟩;go_wp2_with fail;go_ret2;rw [HQ.out,HR.out];exact ⟨none,0,A2,c2,by rw [JE];rfl,by rw [JE];exact Dg.none _,Jz (Lies.of_own ho) (Xj ho).1 (Xj ho).2,(Ja w n).trans hb⟩
theorem ZfQ (A B:Option Addr) (c d x y:Nat) (w:World) (hA:Dg w A c (nd x)) (hB:Dg w B d (nd y)) (hx:(nd x).length <= 400000) (hxy:y <= x) (y0:y ≠ 0) (y1:y <= 4294967295) :
  Calls Tryz.prog 186 #[.slice A (nd x).length c,.slice B (nd y).length d] w (UY (x / y) (x % y) w):=by
 obtain ⟨r,hr,hr0⟩:∃ r,Ue x y = r /\ ¬ r < 0:=by
  rcases Nat.lt_or_ge y x with h | h
  ·exact ⟨1,XX h,by decide⟩
  ·exact ⟨0,Yl (by omega),by decide⟩
 have H0:=zH (Yp A B c d x y w hA hB (by omega) r (zH hr));have e:nd y = [(y:Int)]:=by
  rw [YO y0,show y / 4294967296 = 0 by omega,JE,show y % 4294967296 = y by omega]
 rw [e] at hB H0;rw [e];have hm:x % y <= 4294967295:=by have:=Nat.mod_lt x (show 0 < y by omega);omega
 have H1:=zH (fun n=>ZdZ A c (nd x) y (w.drewN n) (hA.below (Ja _ _)) (by omega) (by omega) y1 x (zH (Jo x)));have H2:=zH (fun W=>Yb (x % y) W (by omega));obtain ⟨bk,off,rfl,hbk,hc⟩:=hB.lies.uat (k:=0) (by simp);simp only [List.getElem?_cons_zero,Option.getD_some,Nat.add_zero] at hc;simp only [List.length_cons,List.length_nil,Nat.zero_add] at H0 ⊢;clear hr hA hB e;generalize hz:x % y = z at *
 clear hz;go_enter Tryz.func186,Tryz.ntmps186;go_wp2_with fail;go_step3;go_wp2_with fail;refine H0.out.mono ?_;rintro e w' ⟨rfl,n,rfl⟩;go_wp2_with fail;refine (H1.out n).mono ?_;rintro e w' ⟨A2,c2,rfl,t1,t2,t3,t4⟩;go_wp2_with fail;refine (H2.out _).mono ?_;rintro e w2 ⟨A3,c3,rfl,s1,s2,s3,s4⟩;go_wp2_with fail;go_ret2;exact ⟨A2,c2,A3,c3,rfl,(Jz t1 t2 t3).below s4,Jz s1 s2 s3,((Ja w n).trans t4).trans (s4.mono (((Ja w n).trans t4).size))⟩
theorem ZeG {n:Nat} (h:n ≠ 0):(nd n)[(nd n).length - 1]?.getD 0 = ((n / 4294967296 ^ ((nd n).length - 1):Nat):Int) /\ 1 <= n / 4294967296 ^ ((nd n).length - 1) /\ n / 4294967296 ^ ((nd n).length - 1) <= 4294967295:=by
 have hl:(nd n).length ≠ 0:=fun e=>h (Js.1 e);have h1:n / 4294967296 ^ ((nd n).length - 1) < 4294967296:=by
  have h2:=ZE n;rw [show (nd n).length = (nd n).length - 1 + 1 by omega,Nat.pow_succ] at h2;exact Nat.div_lt_of_lt_mul h2
 have h2 : 1 <= n / 4294967296 ^ ((nd n).length - 1):=(Nat.le_div_iff_mul_le (Nat.pow_pos (by decide))).2 (by have:=Zi6 h;omega);refine ⟨?_,h2,by omega⟩;rw [Za2,Nat.mod_eq_of_lt h1]
theorem Za1 (x j:Nat):(nd (x * 4294967296 ^ j)).length <= (nd x).length + j:=by
 apply JX;rw [Nat.pow_add];exact Nat.mul_lt_mul_of_pos_right (ZE x) (Nat.pow_pos (by decide))
theorem ZhC {rest v n j:Nat} (hn : 1 <= n) (hv:v < 4294967296 ^ n) (hr:rest < v * 4294967296 ^ (j + 1)):rest / 4294967296 ^ (j + n) % 4294967296 = rest / 4294967296 ^ (j + n) /\ rest / 4294967296 ^ (j + n) * 4294967296 + rest / 4294967296 ^ (j + (n - 1)) % 4294967296 = rest / 4294967296 ^ (j + (n - 1)):=by
 have e:j + n = j + (n - 1) + 1:=by omega
 have h1:rest < 4294967296 ^ (j + n) * 4294967296:=by
  rw [<- Nat.pow_succ,show (j + n).succ = n + (j + 1) by omega,Nat.pow_add];exact Nat.lt_of_lt_of_le hr (Nat.mul_le_mul_right _ (Nat.le_of_lt hv))
 have h2:rest / 4294967296 ^ (j + n) < 4294967296:=Nat.div_lt_of_lt_mul h1;refine ⟨Nat.mod_eq_of_lt h2,?_⟩;rw [e,Nat.pow_succ,<- Nat.div_div_eq_div_mul];omega
theorem Zf4 {q:List Int} {j:Nat} (h:q[j]?.getD 0 = 0):q.set j 0 = q:=by
 by_cases hj:j < q.length
 ·rw [gE hj,Option.getD_some] at h;rw [<- h];exact List.set_getElem_self hj
 ·rw [List.set_eq_of_length_le (by omega)]
theorem ZdH {u v:Nat} {q:List Int} {m j rest:Nat} (h:DivAt u v q m (j + 1) rest) (hj:j < m) (h2:rest < v * (0 + 1) * 4294967296 ^ j):DivAt u v q m j rest:=by
 have h3:=(h.next (t:=0) hj (by simp) h2).2;have h4:=Zf4 (h.low j (by omega));simp only [Nat.mul_zero,Nat.zero_mul,Nat.sub_zero] at h3;rw [show (((0:Nat)):Int) = 0 from rfl,h4] at h3;exact h3
end Go.Proofs.YtlgdlenoohkipaaGreat
