/- TalkHears -/
import Derived.Test.YtcjicjfbippmnaaGreatMTHear5
set_option maxRecDepth 100000
set_option maxHeartbeats 32000000
namespace Ear

theorem Zbo (n k:Nat):(nd n)[k]?.getD 0 = ((n / 4294967296 ^ k % 4294967296:Nat):Int):=by
 induction k generalizing n with
 | zero=>
  by_cases h:n = 0
  ·subst h;rw [JG];rfl
  ·rw [YX h];simp
 | succ k ih=>
  by_cases h:n = 0
  ·subst h;rw [JG];simp
  ·rw [YX h,WcQ,ih,WbF,WbC,Wb8]
theorem Qs (k:Nat):(4294967296:Nat) ^ k = 2 ^ (32 * k):=by rw [Nat.pow_mul]
theorem Zix (n i:Nat):n / 4294967296 ^ (i / 32) % 4294967296 / 2 ^ (i % 32) % 2 = n / 2 ^ i % 2:=by
 have e:i = 32 * (i / 32) + i % 32:=by omega
 have hr:i % 32 < 32:=by omega
 generalize i / 32 = q at *
 generalize i % 32 = r at *
 subst e;rw [Qs,WcH,<- WbF];generalize n / 2 ^ (32 * q) = m;have h2:(4294967296:Nat) = 2 ^ r * (2 * 2 ^ (31 - r)):=by
  rw [<- Wa0,<- WbC,<- WcH,show r + 1 + (31 - r) = 32 by omega]
 rw [h2,Nat.mod_mul_right_div_self,Nat.mod_mul_right_mod]
def ZhD (a:List Int) (i:Nat):Int:=a[i]?.getD 0 / 2 + a[i + 1]?.getD 0 % 2 * 2147483648
theorem Zi9 {a out:List Int} (h:dgs a) (hl:out.length = a.length) (ho:∀ i,i < a.length -> out[i]?.getD 0 = ZhD a i):vl out = vl a / 2:=by
 have key:∀ k i,i + k = a.length -> vl (out.drop i) = vl (a.drop i) / 2:=by
  intro k
  induction k with
  | zero=>
   intro i hi;rw [WN (by omega),WN (by omega)];simp [vl]
  | succ k ih=>
   intro i hi;rw [ZV out,ZV a,ih (i + 1) (by omega),ho i (by omega)];have e:=ZgR h (i + 1);have hx:=JH h i;have hx1:=JH h (i + 1);unfold ZhD;generalize vl (a.drop (i + 1)) = m at *
   omega
 have:=key a.length 0 (by omega);simpa using this
structure BitAt (a b:Nat) (out:List Int) (m i rest:Nat):Prop where
 len:out.length = m
 dig:dgs out
 low:(vl out).toNat % 2 ^ i = 0
 val:a / 2 ^ i = (vl out).toNat / 2 ^ i * b + rest
 small:rest < b
theorem BitAt.start {a b m i:Nat} (h:a < 2 ^ i) (hb : 0 < b):BitAt a b (List.replicate m 0) m i 0:=by
 refine ⟨by simp,J6 _,by rw [Xe];simp,?_,hb⟩;rw [Xe,WdY h];simp
theorem Zbq {v i:Nat} (h:v % 2 ^ (i + 1) = 0):v / 4294967296 ^ (i / 32) % 4294967296 % 2 ^ (i % 32 + 1) = 0:=by
 have e:i = 32 * (i / 32) + i % 32:=by omega
 have hr:i % 32 < 32:=by omega
 generalize i / 32 = q at *
 generalize i % 32 = r at *
 subst e;have h2:(4294967296:Nat) = 2 ^ (r + 1) * 2 ^ (31 - r):=by
  rw [<- WcH,show r + 1 + (31 - r) = 32 by omega]
 rw [Qs];have h3:v / 2 ^ (32 * q) % 2 ^ (r + 1) = 0:=by
  have h4 : 2 ^ (32 * q) * 2 ^ (r + 1) ∣ v:=by
   rw [<- WcH,<- WbJ];exact WcC h
  obtain ⟨t,ht⟩:=h4;rw [ht,Wa0,WcP _ (Wb5 (by decide)),Nat.mul_mod_right]
 rw [h2,Nat.mod_mul_right_mod,h3]
theorem Zfb {l:List Int} (h:dgs l) (k:Nat):l[k]?.getD 0 = (((vl l).toNat / 4294967296 ^ k % 4294967296:Nat):Int):=by
 rw [<- Zbo];have h0:=Jx h;have key:∀ (l:List Int) (k:Nat),dgs l -> vl l = ((vl l).toNat:Int) -> l[k]?.getD 0 = (nd (vl l).toNat)[k]?.getD 0:=by
  intro l
  induction l with
  | nil=>intro k _ _;simp [vl,JG]
  | cons d l ih=>
   intro k hd hv;have hd0:=hd d (WbA ..);have hl:=ZaJ hd;have hl0:=Jx hl;have e0:vl (d :: l) = d + 4294967296 * vl l:=rfl;rw [Zbo];cases k with
   | zero=>simp;omega
   | succ k=>
    have e1:(vl (d :: l)).toNat / 4294967296 = (vl l).toNat:=(by omega);rw [WcQ,ih k hl (by omega),Zbo,WbC,Wb8,<- WbF,e1]
 exact key l k h (by omega)
theorem BitAt.next {a b:Nat} {out:List Int} {m i rest r2:Nat} (h:BitAt a b out m (i + 1) rest) (hr:r2 = 2 * rest + a / 2 ^ i % 2) (hlt:r2 < b):BitAt a b out m i r2:=by
 have hs:=h.small;have hp : 2 ^ (i + 1) = 2 ^ i * 2:=WbC ..
 obtain ⟨t,ht⟩:=WcC h.low;have hv:=h.val;rw [ht,WcP _ (Wb5 (by decide))] at hv;refine ⟨h.len,h.dig,?_,?_,hlt⟩
 ·rw [ht,hp,Wa0,Nat.mul_mod_right]
 ·rw [ht,hp,Wa0,WcP _ (Wb5 (by decide))];rw [hp,<- WbF] at hv;have e:a / 2 ^ i = 2 * (a / 2 ^ i / 2) + a / 2 ^ i % 2:=by omega
  rw [hr,e,hv,We2,Wa0 2 t b];omega
theorem Zis {d r:Nat} (h:d % 2 ^ (r + 1) = 0):d ||| 2 ^ r = d + 2 ^ r:=by
 obtain ⟨t,ht⟩:=WcC h;rw [ht];exact (Nat.two_pow_add_eq_or_of_lt (i:=r + 1) (b:=2 ^ r) (Nat.pow_lt_pow_right (by decide) (by omega)) t).symm
theorem BitAt.take {a b:Nat} {out:List Int} {m i rest r2:Nat} (h:BitAt a b out m (i + 1) rest) (hr:r2 = 2 * rest + a / 2 ^ i % 2) (hge:b <= r2) (hm:i / 32 < m) {d:Int} (hd:d = out[i / 32]?.getD 0 + 2 ^ (i % 32)) :
  0 <= d /\ d <= 4294967295 /\ BitAt a b (out.set (i / 32) d) m i (r2 - b):=by
 have hs:=h.small;have hp : 2 ^ (i + 1) = 2 ^ i * 2:=WbC ..
 obtain ⟨t,ht⟩:=WcC h.low;have hv:=h.val;rw [ht,WcP _ (Wb5 (by decide))] at hv;have hl:=Zbq h.low;have hn:=Zfb h.dig (i / 32);generalize hx:(vl out).toNat / 4294967296 ^ (i / 32) % 4294967296 = x at *
 have hr32:i % 32 < 32:=by omega
 have hx2:x < 4294967296:=by omega
 have hb:x + 2 ^ (i % 32) < 4294967296:=by
  obtain ⟨s,hs2⟩:=WcC hl;have h2:(4294967296:Nat) = 2 ^ (i % 32 + 1) * 2 ^ (31 - i % 32):=by
   rw [<- WcH,show i % 32 + 1 + (31 - i % 32) = 32 by omega]
  have h3:s + 1 <= 2 ^ (31 - i % 32):=by
   rw [hs2,h2] at hx2;exact Nat.lt_of_mul_lt_mul_left hx2
  have h4:=Nat.mul_le_mul_left (2 ^ (i % 32 + 1)) h3;rw [<- h2,We2,<- hs2,Nat.mul_one,WbC] at h4;have : 0 < 2 ^ (i % 32):=Wb5 (by decide);omega
 have hdn:d = ((x + 2 ^ (i % 32):Nat):Int):=by rw [hd,hn];simp
 have d0 : 0 <= d:=by omega
 have d1:d <= 4294967295:=by omega
 have hv0:=Jx h.dig;have hset:(vl (out.set (i / 32) d)).toNat = (vl out).toNat + 2 ^ i:=by
  rw [QL _ _ _ (by rw [h.len];exact hm),hd];have e:BB ^ (i / 32) * (out[i / 32]?.getD 0 + 2 ^ (i % 32) - out[i / 32]?.getD 0) = ((2 ^ i:Nat):Int):=by
   rw [show out[i / 32]?.getD 0 + 2 ^ (i % 32) - out[i / 32]?.getD 0 = (2:Int) ^ (i % 32) by omega,Qt,Qs];have e2:i = 32 * (i / 32) + i % 32:=(by omega);have:((2 ^ (32 * (i / 32)):Nat):Int) * (2:Int) ^ (i % 32) = ((2 ^ (32 * (i / 32)) * 2 ^ (i % 32):Nat):Int):=(by simp);rw [this,<- WcH,<- e2]
  rw [e];omega
 refine ⟨d0,d1,by simp [h.len],Zx h.dig _ d0 d1,?_,?_,?_⟩
 ·rw [hset,ht,hp,Wa0,Nat.mul_add_mod,Nat.mod_self]
 ·rw [hset,ht,hp,Wa0,show 2 ^ i * (2 * t) + 2 ^ i = 2 ^ i * (2 * t + 1) by rw [We2,Nat.mul_one],WcP _ (Wb5 (by decide))];rw [hp,<- WbF] at hv;have e:a / 2 ^ i = 2 * (a / 2 ^ i / 2) + a / 2 ^ i % 2:=by omega
  rw [e,hv,Nat.add_mul,Wa0 2 t b,Nat.one_mul,We2];omega
 ·have:a / 2 ^ i % 2 < 2:=WfH _ (by decide);omega
theorem BitAt.done {a b:Nat} {out:List Int} {m rest:Nat} (h:BitAt a b out m 0 rest):vl out = ((a / b:Nat):Int) /\ rest = a % b:=by
 have hv:=h.val;have hs:=h.small;have h0:=Jx h.dig;simp only [Nat.pow_zero,Nat.div_one] at hv;generalize hx:(vl out).toNat = x at *
 have e:vl out = (x:Int):=by omega
 subst hv;rw [e];constructor
 ·congr 1;rw [WeS,Nat.add_mul_div_right _ _ (by omega),WdY hs];omega
 ·rw [WeS,Nat.add_mul_mod_self_right,WcS hs]
theorem Zgm {v vt n j rest g:Nat} (hv:vt * 4294967296 ^ n <= v) (h:rest / 4294967296 ^ (j + n) < (g + 1) * vt):rest < v * (g + 1) * 4294967296 ^ j:=by
 have hP : 0 < 4294967296 ^ (j + n):=Wb5 (by decide);have h1:rest < (g + 1) * vt * 4294967296 ^ (j + n):=by
  rwa [Nat.div_lt_iff_lt_mul hP] at h
 have h2:(g + 1) * vt * 4294967296 ^ (j + n) = vt * 4294967296 ^ n * ((g + 1) * 4294967296 ^ j):=by
  rw [WcH,Wb8 (4294967296 ^ j),<- Wa0,Wb8 (g + 1) vt,Wa0 vt,Wa0 vt,Wb8 (g + 1),Wa0];simp only [Nat.mul_assoc,Nat.mul_left_comm]
 have h3:=WbW ((g + 1) * 4294967296 ^ j) hv;rw [Wa0];omega
structure GcdAt (g a b:Nat):Prop where
 pos : 0 < a
 odd:a % 2 = 1 ∨ b % 2 = 1
 val:a.gcd b = g
theorem VH {a b:Nat} (ha:a % 2 = 0) (hb:b % 2 = 1):(a / 2).gcd b = a.gcd b:=by
 have e:a = a / 2 * 2:=by omega
 have hc:Nat.Coprime 2 b:=by
  rw [Nat.coprime_iff_gcd_eq_one,Nat.gcd_rec,hb,Nat.gcd_one_left]
 conv=>rhs;rw [e]
 exact (Nat.Coprime.gcd_mul_right_cancel _ hc).symm
theorem GcdAt.left {g a b:Nat} (h:GcdAt g a b) (ha:a % 2 = 0):GcdAt g (a / 2) b /\ a / 2 < a:=by
 have hp:=h.pos;have hb:b % 2 = 1:=by rcases h.odd with h | h <;> omega
 exact ⟨⟨by omega,.inr hb,by rw [VH ha hb];exact h.val⟩,by omega⟩
theorem GcdAt.right {g a b:Nat} (h:GcdAt g a b) (hb:b % 2 = 0) (hb0:b ≠ 0):GcdAt g a (b / 2) /\ b / 2 < b /\ b / 2 ≠ 0:=by
 have ha:a % 2 = 1:=by rcases h.odd with h | h <;> omega
 exact ⟨⟨h.pos,.inl ha,by rw [WdS,VH hb ha,WdS];exact h.val⟩,by omega,by omega⟩
theorem GcdAt.swap {g a b:Nat} (h:GcdAt g a b) (hb:b ≠ 0):GcdAt g b a:=⟨by omega,h.odd.symm,by rw [WdS];exact h.val⟩
theorem GcdAt.sub {g a b:Nat} (h:GcdAt g a b) (ha:a % 2 = 1) (hle:a <= b):GcdAt g a (b - a):=
 ⟨h.pos,.inl ha,by rw [Nat.gcd_sub_self_right hle];exact h.val⟩
theorem GcdAt.done {g a:Nat} (h:GcdAt g a 0):a = g:=by have:=h.val;rwa [Nat.gcd_zero_right] at this
end Ear
namespace Go.Proofs.YtcjicjfbippmnaaGreat
open Go.RowKit Ear

theorem QZ (a b:Nat) (ha:a < 18446744073709551616) (hb:b < 18446744073709551616):bits .or .u64 (a:Int) (b:Int) = ((a ||| b:Nat):Int):=by
 have hx:a ||| b < 2 ^ 64:=Nat.or_lt_two_pow (by omega) (by omega);have h1:(BitVec.ofInt 64 (a:Int)).toNat = a:=by
  rw [BitVec.ofInt_natCast,BitVec.toNat_ofNat];exact WcS (by omega)
 have h2:(BitVec.ofInt 64 (b:Int)).toNat = b:=by
  rw [BitVec.ofInt_natCast,BitVec.toNat_ofNat];exact WcS (by omega)
 show IntKind.u64.wrap ((BitVec.ofInt 64 (a:Int) ||| BitVec.ofInt 64 (b:Int)).toNat:Int) = _;rw [BitVec.toNat_or,h1,h2,IntKind.wrap_u64];omega
theorem Zev (a b i:Nat) (ha:a < 2 ^ i) (hb:b % 2 ^ i = 0):a ||| b = a + b:=by
 obtain ⟨t,rfl⟩:=WcC hb;rw [Nat.or_comm,<- Nat.two_pow_add_eq_or_of_lt ha,WeS]
theorem Ud (r x:Int) (r0 : 0 <= r) (r1:r <= 4294967295) (x0 : 0 <= x) (x1:x <= 4294967295):bits .or .u64 (r * 4294967296) x = r * 4294967296 + x:=by
 obtain ⟨n,rfl⟩:=WbT r0;obtain ⟨y,rfl⟩:=WbT x0;have e:((n:Int) * 4294967296) = ((n * 4294967296:Nat):Int):=by simp
 rw [e,QZ _ _ (by omega) (by omega),Nat.or_comm,Zev y (n * 4294967296) 32 (by omega) (by omega)];omega
theorem Zdy (r x:Int) (r0 : 0 <= r) (r1:r <= 4294967295) (x0 : 0 <= x) (x1:x <= 4294967295):bits .or .u64 x (r * 4294967296) = x + r * 4294967296:=by
 obtain ⟨n,rfl⟩:=WbT r0;obtain ⟨y,rfl⟩:=WbT x0;have e:((n:Int) * 4294967296) = ((n * 4294967296:Nat):Int):=by simp
 rw [e,QZ _ _ (by omega) (by omega),Zev y (n * 4294967296) 32 (by omega) (by omega)];omega
def Zjn (q r:Nat) (w:World) (e:Ending) (w':World):Prop:=
 ∃ A c,e = .returned (.tuple #[.slice A (nd q).length c,.int .u32 r]) /\ Lies w' A (ucs (nd q)) /\ (nd q).length <= c /\ (A = none -> c = 0) /\ Below w.heap.size w w'
theorem ZdV (A:Option Addr) (c:Nat) (a:List Int) (d:Nat) (w:World) (hA:Dg w A c a) (hn:a.length <= 900000) (d0 : 0 < d) (d1:d <= 4294967295) (v:Nat) (hv:Hid (vl a = v)) :
  Calls Tryz.prog 191 #[.slice A a.length c,.int .u32 d] w (Zjn (v / d) (v % d) w):=by
 obtain ⟨w1,hmk,ho1,hb1⟩:=XW w a.length (by omega) w.heap.size nR;obtain ⟨g,hg⟩:∃ g,g = w.heap.size:=⟨_,rfl⟩;rw [<- hg] at ho1 hmk;have HG:Hid (w.heap.size <= g):=by show _ <= _;omega
 have HST:=zH (OverAt.start a (d:=d) (by omega));have da:=zH hA.dig;have LA:=zH hA.lies;clear hg hA;go_enter Tryz.func191,Tryz.ntmps191;go_wp2_with fail;clear hmk;go_loopw [7,8] (fun rs i wr=>∃ k:Nat,k <= a.length /\ i = .int .i64 ((k:Int) - 1) /\ ∃ out r,Hid (OverAt a out d k r) /\ rs = .int .u64 r /\ wr.ownsRow g 173 1 (.slice (some ⟨g,0,none⟩) a.length a.length) a.length (ucs out) /\ Below w.heap.size w wr) (fun _ i _=>(intOf i + 1).toNat)
 case atStart=>exact ⟨a.length,WK _,rfl,_,_,HST,rfl,ho1,hb1⟩
 case round=>
  obtain ⟨k,hk,rfl,out,r,HM,rfl,r1,r2⟩:=hrel;clear HST ho1;have h0:=HM.out.r0;have h1:=HM.out.r1;have hol:=HM.out.len;by_cases hz:k = 0
  ·subst hz;obtain ⟨f1,f2⟩:=HM.out.done;have HT:=zH (Vp r1 hol HM.out.dig (by omega) (v:=v / d) (by rw [f1,hv.out];simp));have HR2:=zH r2;have HE:Hid (r = ((v % d:Nat):Int)):=zH (by rw [f2,hv.out];simp);clear r1 r2 hol f1 f2;go_wp2_with fail;refine HT.out.mono ?_;rintro e w' ⟨A2,c2,rfl,t1,t2,t3,t4⟩;go_wp2_with fail;go_ret2;exact ⟨A2,c2,by rw [HE.out];rfl,t1,t2,t3,HR2.out.trans (t4.mono HR2.out.size)⟩
  ·obtain ⟨b1,o1,rfl,hb1,hc1⟩:=(LA.out.below r2).uat (k:=k - 1) (by omega);have dx:=JH da.out (k - 1);obtain ⟨q1,q2⟩:=J1 r1 hol (show k - 1 < a.length by omega);have i0:((k:Int) - 1).toNat = k - 1:=(by omega);have HM':Hid (OverAt a out d (k - 1 + 1) r):=(by rw [show k - 1 + 1 = k by omega];exact HM);have HN:=zH (fun t ht=>HM'.out.next da.out (by omega) (t:=t) ht);generalize a[k - 1]?.getD 0 = x at *
   have HF:=zH (HN.out _ rfl);have HO:=zH r1;have HR2:=zH r2;have dz:((d:Int) == 0) = false:=(by simp;omega);have pw:IntKind.u64.wrap (r * 4294967296) = r * 4294967296:=Wb3 _ (by omega);have po:=Ud r x (by omega) (by omega) dx.1 dx.2;have pq:=Ub h0 h1 dx.1 dx.2;have HQ:=zH pq;have e32:(r * 4294967296 + x) / (d:Int) % 4294967296 = (r * 4294967296 + x) / (d:Int):=(by clear hv;omega);clear HM' HN hol r1 r2 hv pq;go_wp2_with fail;exact ⟨⟨k - 1,by omega,by go_num,_,_,HF,rfl,Xk HO.out (k - 1) _,HR2.out.setCell (by exact HG.out) _⟩,by simp [intOf];omega⟩
theorem UQ {by_:Nat} (h:by_ <= 31):((2:Int) ^ by_) * (2:Int) ^ (32 - by_) = 4294967296:=by
 rw [<- Int.pow_add,show by_ + (32 - by_) = 32 by omega];rfl
theorem ZcH (k:Nat) : 0 < (2:Int) ^ k:=Int.pow_pos (by decide)
theorem Vt (k:Nat):((2 ^ k:Nat):Int) = (2:Int) ^ k:=by simp
theorem Q0 (a b:Int) (i:Nat) (a0 : 0 <= a) (a1:a < (2:Int) ^ i) (b0 : 0 <= b) (b1:b <= 4294967295) (hb:b % (2:Int) ^ i = 0) (ha:a <= 4294967295):bits .or .u32 a b = a + b:=by
 obtain ⟨n,rfl⟩:=WbT a0;obtain ⟨y,rfl⟩:=WbT b0;rw [<- Vt] at a1 hb;rw [u32_or_nat _ _ (by omega) (by omega),Zev n y i (by exact_mod_cast a1) (by exact_mod_cast hb)];omega
theorem Zcf {x:Int} {i:Nat} (hi:i <= 31):(x * (2:Int) ^ i % 4294967296) % (2:Int) ^ i = 0:=by
 rw [<- UQ hi,Int.emod_emod_of_dvd _ (Int.dvd_mul_right _ _)];exact Int.mul_emod_left ..
theorem QJ (A:Option Addr) (c:Nat) (a:List Int) (i:Nat) (w:World) (hA:Dg w A c a) (hn:a.length <= 900000) (hi:i <= 31) (v:Nat) (hv:Hid (vl a = v)) :
  Calls Tryz.prog 193 #[.slice A a.length c,.int .i64 i] w (Yx (v * 2 ^ i) w):=by
 obtain ⟨w1,hmk,ho1,hb1⟩:=XW w (a.length + 1) (by omega) w.heap.size nR;have e2:((a.length + 1:Nat):Int) = (a.length:Int) + 1:=by simp
 rw [e2] at hmk;obtain ⟨g,hg⟩:∃ g,g = w.heap.size:=⟨_,rfl⟩;rw [<- hg] at ho1 hmk;have HG:Hid (w.heap.size <= g):=by show _ <= _;omega
 have HP:=zH (ZcH i);have HPS:=zH (UQ hi);have HST:=zH (ShAt.start a HP.out);have da:=zH hA.dig;have LA:=zH hA.lies;have i9:(32 - (i:Int)).toNat = 32 - i:=by omega
 clear hg e2 hA;go_enter Tryz.func193,Tryz.ntmps193;go_wp2_with fail;clear hmk;go_loopw [6,7,14] (fun _ _ j wr=>∃ k:Nat,k <= a.length /\ j = .int .i64 k /\ ∃ out,Hid (ShAt a out ((2:Int) ^ i) k) /\ wr.ownsRow g 173 1 (.slice (some ⟨g,0,none⟩) (a.length + 1) (a.length + 1)) (a.length + 1) (ucs out) /\ Below w.heap.size w wr) (fun _ _ j _=>a.length - (intOf j).toNat)
 case atStart=>exact ⟨0,by omega,rfl,_,HST,ho1,hb1⟩
 case round=>
  obtain ⟨k,hk,rfl,out,HM,r1,r2⟩:=hrel;clear HST ho1;have hol:=HM.out.len;by_cases hlt:k < a.length
  ·obtain ⟨b1,o1,rfl,hb1,hc1⟩:=(LA.out.below r2).uat hlt;have dx:=JH da.out k;have dt:=JH HM.out.dig k;have tp:=HM.out.top;obtain ⟨q1,q2⟩:=J1 r1 hol (show k < a.length + 1 by omega);have HN:=zH (fun x y z hx hy hz=>HM.out.next da.out hlt HP.out HPS.out (x:=x) (y:=y) (z:=z) hx hy hz);have HO:=zH r1;have HR2:=zH r2;generalize hx:a[k]?.getD 0 = x at *
   generalize ht:out[k]?.getD 0 = t at *
   have HF:=zH (HN.out x _ _ rfl rfl rfl);have m0 : 0 <= x * (2:Int) ^ i % 4294967296 /\ x * (2:Int) ^ i % 4294967296 <= 4294967295:=(by omega);have po:=Q0 t (x * (2:Int) ^ i % 4294967296) i dt.1 tp m0.1 m0.2 (Zcf hi) dt.2;have s0 : 0 <= x / (2:Int) ^ (32 - i) /\ x / (2:Int) ^ (32 - i) <= 4294967295:=⟨HF.out.2.2.1,by have:=Int.ediv_le_self ((2:Int) ^ (32 - i)) dx.1;omega⟩;have HQ:=zH (fun (W:World) (hW:W.ownsRow g 173 1 (.slice (some ⟨g,0,none⟩) (a.length + 1) (a.length + 1)) (a.length + 1) (ucs (out.set k (t + x * (2:Int) ^ i % 4294967296))))=>J1 hW (by simp;exact hol) (show k + 1 < a.length + 1 by omega));have HS1:=zH (Xk HO.out k (t + x * (2:Int) ^ i % 4294967296));have HQ1:=HQ.out _ HS1.out;obtain ⟨q3,q4⟩:=HQ1;have i1:(k:Int) < (a.length:Int) + 1:=(by omega);clear hx ht HN hol r1 r2 hv HQ tp;go_wp2_with fail;go_still_tail 9,(by kernel_rfl);repeat still_step
   go_wp2_with fail;exact ⟨⟨k + 1,by omega,by go_num,_,zH HF.out.2.2.2.2,Xk HS1.out.drew (k + 1) _,(HR2.out.setCell (by exact HG.out) _).drew.setCell (by exact HG.out) _⟩,by simp [intOf];omega⟩
  ·obtain rfl:k = a.length:=by omega
   have HT:=zH (Vp r1 hol HM.out.dig (by omega) (v:=v * 2 ^ i) (by rw [HM.out.done,hv.out];simp));have HR2:=zH r2;clear r1 r2 hol;go_wp2_with fail;refine HT.out.mono ?_;rintro e w' ⟨A2,c2,rfl,t1,t2,t3,t4⟩;go_wp2_with fail;go_ret;exact ⟨A2,c2,rfl,t1,t2,t3,HR2.out.trans (t4.mono HR2.out.size)⟩
end Go.Proofs.YtcjicjfbippmnaaGreat
namespace Go.Proofs.YtcjicjfbippmnaaGreat
open Go.RowKit

theorem Zi7 (y:Int) (W:World) (h0 : 0 <= y) (h1:y <= 255):(Instr.index 9 (.string Lib.len8tab) (.int .u8 y)).run Tryz.prog W = .ok (.int .u8 (Lib.bitLen y.toNat)) W:=by
 rw [Lib.run_index_len8tab W 9 .u8 y Tryz.underlying9 h0 h1,Lib.len8_of y h0 h1]
theorem ZeL (x:Int) (w:World) (h0 : 0 <= x) (h1:x <= 4294967295) :
  Calls Tryz.prog 204 #[.int .u32 x] w fun e w'=>e = .returned (.int .i64 (Lib.bitLen x.toNat)) /\ w' = w:=by
 by_cases a1 : 65536 <= x
 ·by_cases a2 : 16777216 <= x
  ·have b1 : 256 <= x / 65536:=by omega
   have l:=Lib.bitLen_le8' (x / 65536 / 256) (by omega) (by omega);have s:=Lib.bitLen_shift24 x.toNat (by omega) (by omega);have e:(x / 65536 / 256).toNat = x.toNat / 16777216:=(by omega);have hi:=fun W=>Zi7 (x / 65536 / 256) W (by omega) (by omega);rw [e] at hi l;rw [s];generalize Lib.bitLen (x.toNat / 16777216) = b at *
   clear s e;have m1:x / 65536 / 256 % 256 = x / 65536 / 256:=(by omega);go_enter Tryz.func204,Tryz.ntmps204;go_wp2_with fail;go_ret;exact ⟨JT (by omega),rfl⟩
  ·have b1:¬ 256 <= x / 65536:=by omega
   have l:=Lib.bitLen_le8' (x / 65536) (by omega) (by omega);have s:=Lib.bitLen_shift16 x.toNat (by omega) (by omega);have e:(x / 65536).toNat = x.toNat / 65536:=(by omega);have hi:=fun W=>Zi7 (x / 65536) W (by omega) (by omega);rw [e] at hi l;rw [s];generalize Lib.bitLen (x.toNat / 65536) = b at *
   clear s e;have m1:x / 65536 % 256 = x / 65536:=(by omega);go_enter Tryz.func204,Tryz.ntmps204;go_wp2_with fail;go_ret;exact ⟨JT (by omega),rfl⟩
 ·by_cases a2 : 256 <= x
  ·have l:=Lib.bitLen_le8' (x / 256) (by omega) (by omega);have s:=Lib.bitLen_shift8 x.toNat (by omega) (by omega);have e:(x / 256).toNat = x.toNat / 256:=(by omega);have hi:=fun W=>Zi7 (x / 256) W (by omega) (by omega);rw [e] at hi l;rw [s];generalize Lib.bitLen (x.toNat / 256) = b at *
   clear s e;have m1:x / 256 % 256 = x / 256:=(by omega);go_enter Tryz.func204,Tryz.ntmps204;go_wp2_with fail;go_ret;exact ⟨JT (by omega),rfl⟩
  ·have l:=Lib.bitLen_le8' x (by omega) (by omega);have hi:=fun W=>Zi7 x W (by omega) (by omega);generalize Lib.bitLen x.toNat = b at *
   have m1:x % 256 = x:=(by omega);go_enter Tryz.func204,Tryz.ntmps204;go_wp2_with fail;go_ret;exact ⟨JT (by omega),rfl⟩
theorem ZdG (x:Nat) (h:x ≠ 0) : 1 <= Lib.bitLen x:=by
 show 1 <= Lib.bitLenAux 64 x;unfold Lib.bitLenAux;rw [Ww h];omega
open Ear
theorem ZA (A:Option Addr) (c:Nat) (a:List Int) (k:Nat) (w:World) (hA:Lies w A (ucs a)) (x:Int) (hx:Hid (a[k]?.getD 0 = x)) (hb : 0 <= x /\ x <= 4294967295) :
  Calls Tryz.prog 194 #[.slice A a.length c,.int .i64 k] w fun e w'=>e = .returned (.int .u64 x) /\ w = w':=by
 by_cases hlt:k < a.length
 ·obtain ⟨b1,o1,rfl,hb1,hc1⟩:=hA.uat hlt;rw [hx.out] at hc1;have q:¬ (a.length:Int) <= (k:Int):=by omega
  go_enter Tryz.func194,Tryz.ntmps194;go_wp2_with fail;go_ret;exact ⟨rfl,rfl⟩
 ·have HX:Hid (x = 0):=zH (by rw [<- hx.out,WF (by omega)];rfl);have q:(a.length:Int) <= (k:Int):=by omega
  go_enter Tryz.func194,Tryz.ntmps194;go_wp2_with fail;go_ret;exact ⟨by rw [HX.out];rfl,rfl⟩
theorem ZgA (a:List Int) (p:Int) (k:Nat) (hk:k < a.length):(dnL a p).take (k + 1) = (dnL a p).take k ++ [Zia a p k]:=by
 rw [Wo (by unfold dnL;simpa using hk)];unfold dnL;simp
theorem ZdW (A:Option Addr) (c:Nat) (a:List Int) (i:Nat) (w:World) (hA:Dg w A c a) (hn:a.length <= 900000) (hi:i <= 31) (v:Nat) (hv:Hid (vl a = v)) :
  Calls Tryz.prog 196 #[.slice A a.length c,.int .i64 i] w (Yx (v / 2 ^ i) w):=by
 obtain ⟨w1,hmk,ho1,hb1⟩:=XW w a.length (by omega) w.heap.size nR;obtain ⟨g,hg⟩:∃ g,g = w.heap.size:=⟨_,rfl⟩;rw [<- hg] at ho1 hmk;have HG:Hid (w.heap.size <= g):=by show _ <= _;omega
 have da:=zH hA.dig;have LA:=zH hA.lies;have HV:Hid (vl (dnL a ((2:Int) ^ i)) = ((v / 2 ^ i:Nat):Int)):=zH (by rw [ZhP da.out (ZcH i) (UQ hi),hv.out];simp);have HLn:Hid ((dnL a ((2:Int) ^ i)).length = a.length):=zH (by unfold dnL;simp);have HDL:=zH (ZhQ a ((2:Int) ^ i));clear hg hA;go_enter Tryz.func196,Tryz.ntmps196;go_wp2_with fail;clear hmk;go_loopw [6,12] (fun _ j wr=>∃ k:Nat,k <= a.length /\ j = .int .i64 k /\ wr.ownsRow g 173 1 (.slice (some ⟨g,0,none⟩) a.length a.length) a.length (ucs ((dnL a ((2:Int) ^ i)).take k ++ (List.replicate a.length 0).drop k)) /\ Below w.heap.size w wr) (fun _ j _=>a.length - (intOf j).toNat)
 case atStart=>exact ⟨0,by omega,rfl,by simpa using ho1,hb1⟩
 case round=>
  obtain ⟨k,hk,rfl,r1,r2⟩:=hrel;clear ho1;have hol:((dnL a ((2:Int) ^ i)).take k).length = k:=by rw [WaT,HLn.out];omega
  by_cases hlt:k < a.length
  ·have L1:=LA.out.below r2;have d1:=JH da.out k;have d2:=JH da.out (k + 1);obtain ⟨q1,q2⟩:=J1 r1 (by rw [UZ hol (by simp;omega)];simp) hlt;have HS:Hid (∀ t,t = Zia a ((2:Int) ^ i) k -> ((dnL a ((2:Int) ^ i)).take k ++ (List.replicate a.length 0).drop k).set k t = (dnL a ((2:Int) ^ i)).take (k + 1) ++ (List.replicate a.length 0).drop (k + 1)):=zH (fun t ht=>by rw [Zb5 hol (by simp;exact hlt),ZgA a _ k hlt,ht]);have HO:=zH r1;have HR2:=zH r2;have C1:=zH (ZA A c a k wr L1 _ (zH rfl) d1);have C2:=zH (ZA A c a (k + 1) wr L1 _ (zH rfl) d2);have HAt:Hid (Zia a ((2:Int) ^ i) k = (a[k]?.getD 0 + a[k + 1]?.getD 0 * 4294967296) / (2:Int) ^ i % 4294967296):=zH rfl;generalize a[k]?.getD 0 = x at *
   generalize a[k + 1]?.getD 0 = y at *
   have pw:IntKind.u64.wrap (y * 4294967296) = y * 4294967296:=Wb3 _ (by omega);have po:=Zdy y x d2.1 d2.2 d1.1 d1.2;have ek:((k + 1:Nat):Int) = (k:Int) + 1:=(by simp);rw [ek] at C2;clear r1 r2 hol hv L1 ek;go_wp2_with fail;refine C1.out.mono ?_;rintro e w' ⟨rfl,rfl⟩;go_wp2_with fail;refine C2.out.mono ?_;rintro e w' ⟨rfl,rfl⟩;go_wp2_with fail;refine ⟨⟨k + 1,by omega,by go_num,?_,HR2.out.setCell (by exact HG.out) _⟩,by simp [intOf];omega⟩;rw [<- HS.out _ HAt.out.symm];exact Xk HO.out k _
  ·obtain rfl:k = a.length:=by omega
   have HE:Hid ((dnL a ((2:Int) ^ i)).take a.length ++ (List.replicate a.length 0).drop a.length = dnL a ((2:Int) ^ i)):=zH (by rw [Wm (by rw [HLn.out];exact WK _),WN (by simp),Wa1]);rw [HE.out] at r1;have HT:=zH (Vp r1 HLn.out HDL.out (by omega) (v:=v / 2 ^ i) HV.out);have HR2:=zH r2;clear r1 r2 hol;go_wp2_with fail;refine HT.out.mono ?_;rintro e w' ⟨A2,c2,rfl,t1,t2,t3,t4⟩;go_wp2_with fail;go_ret;exact ⟨A2,c2,rfl,t1,t2,t3,HR2.out.trans (t4.mono HR2.out.size)⟩
theorem Zfz (j:Nat) (l:List Int):vl (List.replicate j 0 ++ l) = BB ^ j * vl l:=by
 rw [YR,Xe];simp
theorem Zf5 {x:Nat} (h:x ≠ 0) (j:Nat):nd (x * 4294967296 ^ j) = List.replicate j 0 ++ nd x:=by
 have hd:dgs (List.replicate j 0 ++ nd x):=by
  intro y hy;rcases WY.1 hy with hy | hy
  ·exact J6 j y hy
  ·exact JC x y hy
 have hc:cn (List.replicate j 0 ++ nd x):=by
  have h1:=Zjk x;have h2:(nd x).length ≠ 0:=fun e=>h (Jw.1 e);unfold cn at *
  rw [WI,WbL,WaL (by simp;omega),WbL,show j + (nd x).length - 1 - j = (nd x).length - 1 by omega];exact h1
 have e:=Ziv hd hc;rw [e];congr 1;rw [Zfz,Ju,Qt,Wb8];have:((4294967296 ^ j:Nat):Int) * (x:Int) = ((4294967296 ^ j * x:Nat):Int):=by simp
 rw [this];rfl
theorem Zf8 (w:World) (n:Nat) (hn:n <= 1000000000) (base:Nat) (hb:base <= w.heap.size) :
  ∃ w',(Instr.makeSlice 117 (.int .i64 (n:Int)) (.int .i64 (n:Int))).run Tryz.prog w = .ok (.slice (some ⟨w.heap.size,0,none⟩) n n) w' /\
   w'.ownsRow base 173 1 (.slice (some ⟨w.heap.size,0,none⟩) n n) n (ucs (List.replicate n 0)) /\ Below w.heap.size w w':=by
 obtain ⟨i0,hi0,hz0,hz1,hz2⟩:=WaI XT;obtain ⟨w',h1,h2,h3⟩:=run_make_full (P:=Tryz.prog) w base 117 173 i0 _ 1 Tryz.underlying117 hi0 hz0 hz1 .i64 .i64 n (by rw [hz2];omega) (by unfold maxLen;omega) hb;rw [ZcL] at h2;exact ⟨w',h1,h2,JQ h3⟩
theorem Za0 (A:Option Addr) (c:Nat) (x j:Nat) (w:World) (hA:Dg w A c (nd x)) (hn:(nd x).length <= 900000) (hj:j <= 900000) :
  Calls Tryz.prog 195 #[.slice A (nd x).length c,.int .i64 j] w (Yx (x * 4294967296 ^ j) w):=by
 by_cases h0:x = 0
 ·subst h0;have HE:Hid (nd (0 * 4294967296 ^ j) = []):=zH (by rw [WdR,JG]);have hl:(nd 0).length = 0:=by rw [JG];rfl
  rw [hl];clear hl hn hA;go_enter Tryz.func195,Tryz.ntmps195;go_wp2_with fail;go_ret;exact ⟨none,0,by rw [HE.out];rfl,by rw [HE.out];exact Lies.nil _ _,by rw [HE.out];exact WK _,fun _=>rfl,Wp _ _⟩
 ·have HE:=zH (Zf5 h0 j);have hne:(nd x).length ≠ 0:=fun e=>h0 (Jw.1 e);obtain ⟨w1,hmk,ho1,hb1⟩:=Zf8 w j (by omega) w.heap.size nR;obtain ⟨j0,hj0,ky0,ky1,ky2⟩:=WaI XT;have KI:=zH hj0;have KZ0:=zH ky0;have KZ1:=zH ky1;have KZ2:=zH ky2;clear hj0 ky0 ky1 ky2;have NA:=zH hA.nil;have LA:=zH (hA.lies.below hb1);clear hA;generalize hxs:nd x = xs at *
  have q:((xs.length:Int) == 0) = false:=Wz.2 (by omega);have HX:=zH hxs;clear hxs;go_enter Tryz.func195,Tryz.ntmps195;go_wp2_with (at_builtin;refine Jf _ rfl (.tmp 9) (.tmp 10) _ rfl w.heap.size 173 j0 _ 1 4 Tryz.underlying117 KI.out KZ0.out KZ1.out KZ2.out rfl (by omega) (.slice (some ⟨w.heap.size,0,none⟩) j j) j (ucs (List.replicate j 0)) rfl ho1 A xs.length c (ucs xs) rfl NA.out LA.out (by simp) (ZX _) (by unfold maxLen;omega) (by omega) hb1.size (j + xs.length) rfl ?_;intro A4 c4 w4 ho4 hg4 _);go_ret;rw [<- Xi] at ho4;refine ⟨A4,c4,by rw [HE.out];simp,?_,?_,(Xt ho4).2,hb1.grown hg4 hb1.size (fun k hk=>?_)⟩
  ·rw [HE.out];exact Lies.of_own ho4
  ·rw [HE.out];simp;exact (Xt ho4).1
  ·simp [Value.ownBlock] at hk;omega
theorem ZeO (x:Int) (w:World) (h0 : 1 <= x) (h1:x <= 4294967295) :
  Calls Tryz.prog 192 #[.int .u32 x] w fun e w'=>∃ k:Nat,k <= 31 /\ e = .returned (.int .i64 k) /\ w = w':=by
 have l:=Lib.bitLen_le x.toNat 32 (by omega) (by omega);have l1:=ZdG x.toNat (by omega);have HC:=zH (fun W=>ZeL x W (by omega) h1);generalize Lib.bitLen x.toNat = b at *
 go_enter Tryz.func192,Tryz.ntmps192;go_wp2_with fail;refine (HC.out _).mono ?_;rintro e w' ⟨rfl,rfl⟩;go_wp2_with fail;go_ret;exact ⟨32 - b,by omega,JT (by omega),rfl⟩
def Qo (q r:Nat) (w:World) (e:Ending) (w':World):Prop:=
 ∃ A c B d,e = .returned (.tuple #[.slice A (nd q).length c,.slice B (nd r).length d]) /\ Dg w' A c (nd q) /\ Dg w' B d (nd r) /\ Below w.heap.size w w'
theorem Jz {n:Nat} {w:World} {A:Option Addr} {c:Nat} (h1:Lies w A (ucs (nd n))) (h2:(nd n).length <= c) (h3:A = none -> c = 0):Dg w A c (nd n):=⟨h1,JC n,h2,h3⟩
theorem Zha (A B:Option Addr) (c d x y:Nat) (w:World) (hA:Dg w A c (nd x)) (hB:Dg w B d (nd y)) (hx:(nd x).length <= 400000) (hxy:x < y) :
  Calls Tryz.prog 170 #[.slice A (nd x).length c,.slice B (nd y).length d] w (Qo (x / y) (x % y) w):=by
 have H0:=zH (YE A B c d x y w hA hB (by omega) (-1) (zH (Yu hxy)));have H1:=zH (fun n=>ZK A c (nd x) (w.drewN n) (hA.below (Jb _ _)) (by omega));have HQ:Hid (x / y = 0):=zH (WdY hxy);have HR:Hid (x % y = x):=zH (WcS hxy);clear hA hB;go_enter Tryz.func170,Tryz.ntmps170;go_wp2_with fail;go_step3;go_wp2_with fail;refine H0.out.mono ?_;rintro e w' ⟨rfl,n,rfl⟩;go_wp2_with fail;refine (H1.out n).mono ?_;rintro e w' ⟨A2,c2,rfl,ho,hb⟩;go_wp2_with fail;go_ret2;rw [HQ.out,HR.out];exact ⟨none,0,A2,c2,by rw [JG];rfl,by rw [JG];exact Dg.none _,Jz (Lies.of_own ho) (Xt ho).1 (Xt ho).2,(Jb w n).trans hb⟩
theorem Zfw (A B:Option Addr) (c d x y:Nat) (w:World) (hA:Dg w A c (nd x)) (hB:Dg w B d (nd y)) (hx:(nd x).length <= 400000) (hxy:y <= x) (y0:y ≠ 0) (y1:y <= 4294967295) :
  Calls Tryz.prog 170 #[.slice A (nd x).length c,.slice B (nd y).length d] w (Qo (x / y) (x % y) w):=by
 obtain ⟨r,hr,hr0⟩:∃ r,Uv x y = r /\ ¬ r < 0:=by
  rcases WaS y x with h | h
  ·exact ⟨1,Yf h,by decide⟩
  ·exact ⟨0,Yv (by omega),by decide⟩
 have H0:=zH (YE A B c d x y w hA hB (by omega) r (zH hr));have e:nd y = [(y:Int)]:=by
  rw [YX y0,show y / 4294967296 = 0 by omega,JG,show y % 4294967296 = y by omega]
 rw [e] at hB H0;rw [e];have hm:x % y <= 4294967295:=by have:=WfH x (show 0 < y by omega);omega
 have H1:=zH (fun n=>ZdV A c (nd x) y (w.drewN n) (hA.below (Jb _ _)) (by omega) (by omega) y1 x (zH (Ju x)));have H2:=zH (fun W=>Ym (x % y) W (by omega));obtain ⟨bk,off,rfl,hbk,hc⟩:=hB.lies.uat (k:=0) (by simp);simp only [List.getElem?_cons_zero,Option.getD_some,Nat.add_zero] at hc;simp only [List.length_cons,List.length_nil,Nat.zero_add] at H0 ⊢;clear hr hA hB e;generalize hz:x % y = z at *
 clear hz;go_enter Tryz.func170,Tryz.ntmps170;go_wp2_with fail;go_step3;go_wp2_with fail;refine H0.out.mono ?_;rintro e w' ⟨rfl,n,rfl⟩;go_wp2_with fail;refine (H1.out n).mono ?_;rintro e w' ⟨A2,c2,rfl,t1,t2,t3,t4⟩;go_wp2_with fail;refine (H2.out _).mono ?_;rintro e w2 ⟨A3,c3,rfl,s1,s2,s3,s4⟩;go_wp2_with fail;go_ret2;exact ⟨A2,c2,A3,c3,rfl,(Jz t1 t2 t3).below s4,Jz s1 s2 s3,((Jb w n).trans t4).trans (s4.mono (((Jb w n).trans t4).size))⟩
theorem Zey {n:Nat} (h:n ≠ 0):(nd n)[(nd n).length - 1]?.getD 0 = ((n / 4294967296 ^ ((nd n).length - 1):Nat):Int) /\ 1 <= n / 4294967296 ^ ((nd n).length - 1) /\ n / 4294967296 ^ ((nd n).length - 1) <= 4294967295:=by
 have hl:(nd n).length ≠ 0:=fun e=>h (Jw.1 e);have h1:n / 4294967296 ^ ((nd n).length - 1) < 4294967296:=by
  have h2:=Vr n;rw [show (nd n).length = (nd n).length - 1 + 1 by omega,WbC] at h2;exact WeV h2
 have h2 : 1 <= n / 4294967296 ^ ((nd n).length - 1):=(Nat.le_div_iff_mul_le (Wb5 (by decide))).2 (by have:=Ziw h;omega);refine ⟨?_,h2,by omega⟩;rw [Zbo,WcS h1]
theorem Zbn (x j:Nat):(nd (x * 4294967296 ^ j)).length <= (nd x).length + j:=by
 apply JV;rw [WcH];exact Nat.mul_lt_mul_of_pos_right (Vr x) (Wb5 (by decide))
theorem Zhh {rest v n j:Nat} (hn : 1 <= n) (hv:v < 4294967296 ^ n) (hr:rest < v * 4294967296 ^ (j + 1)):rest / 4294967296 ^ (j + n) % 4294967296 = rest / 4294967296 ^ (j + n) /\ rest / 4294967296 ^ (j + n) * 4294967296 + rest / 4294967296 ^ (j + (n - 1)) % 4294967296 = rest / 4294967296 ^ (j + (n - 1)):=by
 have e:j + n = j + (n - 1) + 1:=by omega
 have h1:rest < 4294967296 ^ (j + n) * 4294967296:=by
  rw [<- WbC,show (j + n).succ = n + (j + 1) by omega,WcH];exact Wk hr (WbW _ (Wd9 hv))
 have h2:rest / 4294967296 ^ (j + n) < 4294967296:=WeV h1;refine ⟨WcS h2,?_⟩;rw [e,WbC,<- WbF];omega
theorem ZfL {q:List Int} {j:Nat} (h:q[j]?.getD 0 = 0):q.set j 0 = q:=by
 by_cases hj:j < q.length
 ·rw [gE hj,WaH] at h;rw [<- h];exact List.set_getElem_self hj
 ·rw [List.set_eq_of_length_le (by omega)]
theorem ZdD {u v:Nat} {q:List Int} {m j rest:Nat} (h:DivAt u v q m (j + 1) rest) (hj:j < m) (h2:rest < v * (0 + 1) * 4294967296 ^ j):DivAt u v q m j rest:=by
 have h3:=(h.next (t:=0) hj (by simp) h2).2;have h4:=ZfL (h.low j (by omega));simp only [Nat.mul_zero,Nat.zero_mul,Nat.sub_zero] at h3;rw [show (((0:Nat)):Int) = 0 from rfl,h4] at h3;exact h3
end Go.Proofs.YtcjicjfbippmnaaGreat
