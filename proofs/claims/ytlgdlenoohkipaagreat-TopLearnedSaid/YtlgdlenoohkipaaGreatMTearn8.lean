/- TopLearned -/
import Derived.Test.YtlgdlenoohkipaaGreatMTearn7
set_option maxRecDepth 100000
set_option maxHeartbeats 32000000
namespace Ear

def sg (neg:Bool) (n:Nat):Int:=if neg then -(n:Int) else n
def fq (neg:Bool) (n d:Nat):Rat:=mkRat (sg neg n) (if d = 0 then 1 else d)
def qs (q:Rat):Bool:=decide (q.num < 0)
def qn (q:Rat):Nat:=q.num.natAbs
def Yu (q:Rat):Int:=if q.num < 0 then -1 else if q.num = 0 then 0 else 1
theorem Zfp {neg:Bool} {n d:Nat} (h:d ≠ 0):fq neg n d = mkRat (sg neg n) d:=by unfold fq;rw [if_neg h]
theorem Zg4 (neg:Bool) (n:Nat):(sg neg n).natAbs = n:=by unfold sg;split <;> omega
theorem ZiO (neg:Bool) (n:Nat):sg (!neg) n = -sg neg n:=by unfold sg;cases neg <;> simp
theorem ZiP (a b:Bool) (n m:Nat):sg a n * sg b m = sg (a != b) (n * m):=by
 unfold sg;cases a <;> cases b <;> simp [Int.neg_mul,Int.mul_neg]
theorem Zem (a:Bool) (n m:Nat):sg a n * (m:Int) = sg a (n * m):=by
 unfold sg;cases a <;> simp [Int.neg_mul]
theorem Zfo {a b:Bool} {n m d e:Nat} (hd:d ≠ 0) (he:e ≠ 0):fq a n d * fq b m e = fq (a != b) (n * m) (d * e):=by
 rw [Zfp hd,Zfp he,Zfp (Nat.mul_ne_zero hd he),Rat.mkRat_mul_mkRat,ZiP]
theorem Zhj {a b:Bool} {n m d e:Nat} (hd:d ≠ 0) (he:e ≠ 0):fq a n d + fq b m e = mkRat (sg a (n * e) + sg b (m * d)) (d * e):=by
 rw [Zfp hd,Zfp he,Rat.mkRat_add_mkRat _ _ hd he,Zem,Zem]
theorem UT {a:Bool} {n m d e:Nat} (hd:d ≠ 0) (he:e ≠ 0):fq a n d + fq a m e = fq a (n * e + m * d) (d * e):=by
 rw [Zhj hd he,Zfp (Nat.mul_ne_zero hd he)];congr 1;unfold sg;cases a <;> simp <;> omega
theorem UU {a b:Bool} {n m d e:Nat} (hd:d ≠ 0) (he:e ≠ 0) (hab:a ≠ b) (h:m * d <= n * e):fq a n d + fq b m e = fq a (n * e - m * d) (d * e):=by
 rw [Zhj hd he,Zfp (Nat.mul_ne_zero hd he)];congr 1;unfold sg;cases a <;> cases b <;> simp at hab ⊢ <;> omega
theorem Zbg {a b:Bool} {n m d e:Nat} (hd:d ≠ 0) (he:e ≠ 0) (hab:a ≠ b) (h:n * e <= m * d):fq a n d + fq b m e = fq b (m * d - n * e) (d * e):=by
 rw [Rat.add_comm,UU he hd (Ne.symm hab) h,Nat.mul_comm e d]
theorem Zjh (a:Bool) (n d:Nat) : -fq a n d = fq (!a) n d:=by
 unfold fq;rw [ZiO,Rat.neg_mkRat]
theorem Zjg {a:Bool} {n d:Nat} (hd:d ≠ 0):(fq a n d).num = sg a (n / n.gcd d) /\ (fq a n d).den = d / n.gcd d:=by
 rw [Zfp hd,Rat.num_mkRat,Rat.den_mkRat,if_neg hd,if_neg hd,Zg4,Nat.gcd_comm d n];refine ⟨?_,rfl⟩;unfold sg;cases a
 ·simp
 ·have hg:(n.gcd d:Int) ∣ (n:Int):=Int.natCast_dvd_natCast.2 (Nat.gcd_dvd_left n d);simp [Int.neg_ediv_of_dvd hg]
theorem Zo {a:Bool} {n d:Nat} (hd:d ≠ 0):qs (fq a n d) = (a && decide (n ≠ 0)) /\ qn (fq a n d) = n / n.gcd d /\ (fq a n d).den = d / n.gcd d:=by
 obtain ⟨h1,h2⟩:=Zjg (a:=a) (n:=n) hd;have hz:n / n.gcd d = 0 ↔ n = 0:=by
  constructor
  ·intro h;rcases Nat.eq_zero_or_pos n with h0 | h0
   ·exact h0
   ·have:=Nat.div_pos (Nat.le_of_dvd h0 (Nat.gcd_dvd_left n d)) (Nat.gcd_pos_of_pos_left d h0);omega
  ·rintro rfl;simp
 refine ⟨?_,?_,h2⟩
 ·clear h2;generalize n / n.gcd d = t at *
  unfold qs;rw [h1];unfold sg;cases a
  ·simp
  ·by_cases h0:n = 0
   ·rw [hz.2 h0];simp [h0]
   ·have:t ≠ 0:=fun h=>h0 (hz.1 h);simp [h0];omega
 ·unfold qn;rw [h1,Zg4]
theorem ZiN (q:Rat):sg (qs q) (qn q) = q.num:=by
 unfold sg qs qn;by_cases h:q.num < 0
 ·simp [h];omega
 ·simp [h];omega
theorem XO (q:Rat):fq (qs q) (qn q) q.den = q:=by
 rw [Zfp q.den_nz,ZiN];exact Rat.mkRat_self q
theorem ZiU (q:Rat):(qn q).gcd q.den = 1:=q.reduced
theorem Zjf {a:Bool} {n d:Nat} (hd:d ≠ 0):Yu (fq a n d) = if n = 0 then 0 else if a then -1 else 1:=by
 obtain ⟨h1,h2,_⟩:=Zo (a:=a) (n:=n) hd;have hz:qn (fq a n d) = 0 ↔ n = 0:=by
  rw [h2];constructor
  ·intro h;rcases Nat.eq_zero_or_pos n with h0 | h0
   ·exact h0
   ·have:=Nat.div_pos (Nat.le_of_dvd h0 (Nat.gcd_dvd_left n d)) (Nat.gcd_pos_of_pos_left d h0);omega
  ·rintro rfl;simp
 unfold Yu;unfold qs at h1;unfold qn at hz;clear h2;generalize (fq a n d).num = z at *
 by_cases h0:n = 0
 ·rw [if_pos h0];have:=hz.2 h0;rw [if_neg (by omega),if_pos (by omega)]
 ·rw [if_neg h0];have h3:¬ z = 0:=fun h=>h0 (hz.1 (by omega));cases a
  ·simp at h1 ⊢;rw [if_neg (by omega),if_neg h3]
  ·simp [h0] at h1 ⊢;intro h4;omega
theorem Zji {a:Bool} {n d:Nat} (hd:d ≠ 0) (hn:n ≠ 0):(fq a n d)⁻¹ = fq a d n:=by
 have h1:fq a n d * fq a d n = 1:=by
  rw [Zfo hd hn,Nat.mul_comm d n];have e:(a != a) = false:=by cases a <;> rfl
  rw [e,Zfp (Nat.mul_ne_zero hn hd)];unfold sg;rw [if_neg (by simp)];have:=Rat.mkRat_mul_left (n:=1) (d:=1) (a:=n * d) (Nat.mul_ne_zero hn hd);have e1:mkRat 1 1 = 1:=rfl;rw [e1] at this;simpa using this
 exact Rat.inv_eq_of_mul_eq_one h1
end Ear
namespace Ear

theorem ZiJ {a:Bool} {n d:Nat} (hd:d ≠ 0):(nd (qn (fq a n d))).length <= (nd n).length /\ (nd (fq a n d).den).length <= (nd d).length:=by
 obtain ⟨_,h2,h3⟩:=Zo (a:=a) (n:=n) hd;rw [h2,h3];exact ⟨Ji (Nat.div_le_self _ _),Ji (Nat.div_le_self _ _)⟩
structure Sz (q:Rat) (k:Nat):Prop where
 num:(nd (qn q)).length <= k
 den:(nd q.den).length <= k
theorem Sz.mono {q:Rat} {k l:Nat} (h:Sz q k) (hl:k <= l):Sz q l:=⟨Nat.le_trans h.num hl,Nat.le_trans h.den hl⟩
theorem Sz.fq {a:Bool} {n d k:Nat} (hd:d ≠ 0) (h1:(nd n).length <= k) (h2:(nd d).length <= k):Sz (Ear.fq a n d) k:=
 ⟨Nat.le_trans (ZiJ hd).1 h1,Nat.le_trans (ZiJ hd).2 h2⟩
theorem Sz.mul {p q:Rat} {k l:Nat} (h1:Sz p k) (h2:Sz q l):Sz (p * q) (k + l):=by
 have h:=Zfo (a:=qs p) (b:=qs q) (n:=qn p) (m:=qn q) p.den_nz q.den_nz;rw [XO,XO] at h;rw [h];have a1:=h1.num;have a2:=h1.den;have a3:=h2.num;have a4:=h2.den;exact Sz.fq (Nat.mul_ne_zero p.den_nz q.den_nz) (Nat.le_trans (JO _ _) (by omega)) (Nat.le_trans (JO _ _) (by omega))
theorem Zfn (p q:Rat):p + q = if qs p = qs q then fq (qs p) (qn p * q.den + qn q * p.den) (p.den * q.den) else if qn p * q.den < qn q * p.den then fq (qs q) (qn q * p.den - qn p * q.den) (p.den * q.den) else fq (qs p) (qn p * q.den - qn q * p.den) (p.den * q.den):=by
 conv=>lhs;rw [<- XO p,<- XO q]
 split
 ·rename_i h;rw [<- h];exact UT p.den_nz q.den_nz
 ·rename_i h;split
  ·rename_i h2;exact Zbg p.den_nz q.den_nz h (Nat.le_of_lt h2)
  ·rename_i h2;exact UU p.den_nz q.den_nz h (Nat.le_of_not_lt h2)
theorem Sz.add {p q:Rat} {k l:Nat} (h1:Sz p k) (h2:Sz q l):Sz (p + q) (k + l + 1):=by
 have hd:p.den * q.den ≠ 0:=Nat.mul_ne_zero p.den_nz q.den_nz;have a1:=h1.num;have a2:=h1.den;have a3:=h2.num;have a4:=h2.den;have b1:=JO (qn p) q.den;have b2:=JO (qn q) p.den;have b3:=JO p.den q.den;rw [Zfn];split
 ·exact Sz.fq hd (Xx _ _ (k + l) (by omega) (by omega)) (by omega)
 ·split
  ·exact Sz.fq hd (Nat.le_trans (Ji (Nat.sub_le _ _)) (by omega)) (by omega)
  ·exact Sz.fq hd (Nat.le_trans (Ji (Nat.sub_le _ _)) (by omega)) (by omega)
theorem Zg6 (q:Rat):qn (-q) = qn q:=by unfold qn;rw [Rat.neg_num];omega
theorem Zfw (q:Rat):(-q).den = q.den:=Rat.neg_den ..
theorem Sz.neg {q:Rat} {k:Nat} (h:Sz q k):Sz (-q) k:=⟨by rw [Zg6];exact h.num,by rw [Zfw];exact h.den⟩
theorem Sz.int {z:Int} {k:Nat} (h:(nd z.natAbs).length <= k) (h1 : 1 <= k):Sz (z:Rat) k:=
 ⟨by unfold qn;rw [Rat.num_intCast];exact h,by rw [Rat.den_intCast,Yy];exact h1⟩
theorem Sz.i64 {z:Int} (h1 : -9223372036854775808 <= z) (h2:z <= 9223372036854775807):Sz (z:Rat) 2:=
 Sz.int (JX (by simp;omega)) (by decide)
theorem ZiT (q:Rat):qs (-q) = (!qs q && decide (qn q ≠ 0)):=by
 unfold qs qn;rw [Rat.neg_num];generalize q.num = z;by_cases h1:z < 0
 ·simp [h1];omega
 ·by_cases h2:z = 0
  ·subst h2;simp
  ·have h3 : -z < 0:=by omega
   simp [h1,h2];omega
theorem Zeu {q:Rat}:qn q = 0 ↔ q = 0:=by
 unfold qn;rw [Int.natAbs_eq_zero];exact Rat.num_eq_zero
theorem Vi {q:Rat} (h:q ≠ 0):qs q⁻¹ = qs q /\ qn q⁻¹ = q.den /\ (q⁻¹).den = qn q:=by
 have hn:qn q ≠ 0:=fun e=>h (Zeu.1 e);have e:q⁻¹ = fq (qs q) q.den (qn q):=by
  conv=>lhs;rw [<- XO q]
  exact Zji q.den_nz hn
 obtain ⟨h1,h2,h3⟩:=Zo (a:=qs q) (n:=q.den) hn;rw [e,h1,h2,h3,Nat.gcd_comm,ZiU,Nat.div_one,Nat.div_one];refine ⟨?_,rfl,rfl⟩;have:=q.den_nz;simp [this]
end Ear
namespace Go.Proofs.YtlgdlenoohkipaaGreat
open Go.RowKit Ear

theorem Jl {w:World} {k:Nat} {cs:Array Value} {t:TypeId} (h:w.heap[k]? = some (.cells cs t (0,0))) (j:Nat):w.frozen? ⟨k,j,none⟩ = false:=by simp [World.frozen?,h]
theorem ZeQ (neg:Bool) (A B:Option Addr) (c d:Nat) (a b:List Int) (w:World) (hA:Dg w A c a) (hB:Dg w B d b) (hn:a.length <= 400000) (hm:b.length <= 400000) (x v:Nat) (hx:Hid (vl a = x)) (hv:Hid (vl b = v)) (x0:x ≠ 0) (v2 : 2 <= v) :
  Calls Tryz.prog 45 #[.bool neg,.slice A a.length c,.slice B b.length d] w (RetFr neg (x / x.gcd v) (v / x.gcd v) w):=by
 obtain ⟨j0,hj0,ky0,ky1,ky2⟩:=info_parts XJ;have KI:=zH hj0;have KZ0:=zH ky0;have KZ1:=zH ky1;have KZ2:=zH ky2;clear hj0 ky0 ky1 ky2;have T1:=zH (fun o=>JL A c a (w.alloc o) (hA.lies.alloc o) (zH hA.dig) hA.cap (by omega) x hx);have T2:=zH (fun o=>JL B d b (w.alloc o) (hB.lies.alloc o) (zH hB.dig) hB.cap (by omega) v hv);have DX:=zH (hA.nd hx.out);have DV:=zH (hB.nd hv.out);have lx:(nd x).length <= 400000:=tR (JD hA.dig hx.out) hn;have lv:(nd v).length <= 400000:=tR (JD hB.dig hv.out) hm;have nx:(nd x).length ≠ 0:=fun h=>x0 (Js.1 h);have nv:(nd v).length ≠ 0:=fun h=>by have:=Js.1 h;omega
 have q0:(((nd x).length:Int) == 0) = false:=beq_eq_false_iff_ne.2 (by omega);have q1:(((nd v).length:Int) == 0) = false:=beq_eq_false_iff_ne.2 (by omega);clear hA hB nx nv;go_enter Tryz.func45,Tryz.ntmps45;go_wp2_with fail;refine (T1.out _).mono ?_;rintro e w' ⟨rfl,rfl⟩;go_wp2_with fail;refine (T2.out _).mono ?_;rintro e w' ⟨rfl,rfl⟩;clear T1 T2;go_upto_region 7 with fail;obtain ⟨W2,hW2⟩:∃ W2:World,W2 = ((w.alloc (.cells #[.bool false,.slice none 0 0,.slice none 0 0] 31)).alloc (.cells #[.int .u32 1] 170)):=⟨_,rfl⟩;have B2:Hid (Below w.heap.size w W2):=zH (by rw [hW2];exact (bR.alloc nR _).alloc (by simp) _);have BX2:Hid (Bx W2 w.heap.size):=zH (by rw [hW2];exact (Bx.new w).alloc _);have D1:Hid (Dg W2 (some ⟨w.heap.size + 1,0,none⟩) 1 [1]):=zH (by rw [hW2];have:=Zfv (w.alloc (.cells #[.bool false,.slice none 0 0,.slice none 0 0] 31)) 1 ⟨by decide,by decide⟩ 170;simpa using this);rw [<- hW2];clear hW2;have DX2:=zH (DX.out.below B2.out);have DV2:=zH (DV.out.below B2.out);go_cut [29] (fun t29 wx=>t29 = .bool (decide (x ≠ 1)) /\ wx = W2)
 case first=>
  have O1:=zH (VM B d v W2 DV2.out.lies (by omega) false (zH (by simp;omega)));have O2:=zH (VM A c x W2 DX2.out.lies (by omega) (decide (x = 1)) (zH rfl));go_wp2_with fail;refine O1.out.mono ?_;rintro e w' ⟨rfl,rfl⟩;go_wp2_with fail;refine O2.out.mono ?_;rintro e w' ⟨rfl,rfl⟩;go_wp2_with fail;go_meet;exact ⟨by simp,rfl⟩
 case rest=>
  obtain ⟨rfl,rfl⟩:=hcut;obtain ⟨W2,rfl⟩:∃ X,X = wc:=⟨_,rfl⟩;have BR:=zH (Below.refl W2.heap.size W2);go_upto_if 29 with fail;go_cut [7] (fun t7 wx=>∃ GA gc,t7 = .slice GA (nd (x.gcd v)).length gc /\ Hid (Dg wx GA gc (nd (x.gcd v))) /\ Hid (Below W2.heap.size W2 wx))
  case first=>
   by_cases h1:x = 1
   ·have HQ:Hid (nd (x.gcd v) = [1]):=zH (by rw [h1,Nat.gcd_one_left,Yy]);have hd:decide (x ≠ 1) = false:=(by simp [h1]);rw [hd];clear h1 hd;go_wp2_with fail;go_meet;exact ⟨some ⟨w.heap.size + 1,0,none⟩,1,by rw [HQ.out];rfl,by rw [HQ.out];exact D1,BR⟩
   ·have hd:decide (x ≠ 1) = true:=(by simp [h1]);rw [hd];have GC:=zH (Zgo A B c d x v W2 DX2.out DV2.out lx lv x0 (by omega));clear h1 hd;go_wp2_with fail;refine GC.out.mono ?_;rintro e w3 ⟨GA,gc,rfl,g1,g2,g3,g4⟩;go_wp2_with fail;go_meet;exact ⟨GA,gc,rfl,zH (Jz g1 g2 g3),zH g4⟩
  case rest=>
   obtain ⟨GA,gc,rfl,DG,B3⟩:=hcut;clear D1;have hg0:x.gcd v ≠ 0:=(by have:=Nat.gcd_pos_of_pos_left v (show 0 < x by omega);omega);have lg:(nd (x.gcd v)).length <= 400000:=tR (Ji (Nat.gcd_le_left v (by omega))) lx;have HX1:Hid (x / x.gcd v ≠ 0):=zH (by have:=Nat.div_pos (Nat.gcd_le_left v (show 0 < x by omega)) (Nat.pos_of_ne_zero hg0);omega);obtain ⟨W3,rfl⟩:∃ X,X = wc:=⟨_,rfl⟩;have DX3:=zH (DX2.out.below B3.out);have DV3:=zH (DV2.out.below B3.out);have BX3:=zH (BX2.out.below B3.out);have BW3:=zH (B2.out.trans (B3.out.mono B2.out.size));generalize x.gcd v = g at *
   have O3:=zH (VM GA gc g W3 DG.out.lies (by omega) (decide (g = 1)) (zH rfl));have BR3:=zH (Below.refl W3.heap.size W3);clear DX2 DV2 BX2 B2 B3 BR DX DV;go_upto_if 35 with (go_at_call 98;refine O3.out.mono ?_;rintro e w' ⟨rfl,rfl⟩)
   go_cut [1,2] (fun t1 t2 wx=>∃ A1 c1 A2 c2,t1 = .slice A1 (nd (x / g)).length c1 /\ t2 = .slice A2 (nd (v / g)).length c2 /\ Hid (Dg wx A1 c1 (nd (x / g))) /\ Hid (Dg wx A2 c2 (nd (v / g))) /\ Hid (Below W3.heap.size W3 wx))
   case first=>
    by_cases h1:g = 1
    ·subst h1;have E1:Hid (x / 1 = x):=zH (Nat.div_one x);have E2:Hid (v / 1 = v):=zH (Nat.div_one v);go_wp2_with fail;go_meet;rw [E1.out,E2.out];exact ⟨A,c,B,d,rfl,rfl,DX3,DV3,BR3⟩
    ·have hd:(!decide (g = 1)) = true:=(by simp [h1]);have V1:=zH (QK A GA c gc x g W3 DX3.out DG.out lx lg hg0);rw [hd];clear hd;go_wp2_with fail;refine V1.out.mono ?_;rintro e w4 ⟨A4,c4,A5,c5,rfl,d1,d2,hb⟩;have V2:=zH (QK B GA d gc v g w4 (DV3.out.below hb) (DG.out.below hb) lv lg hg0);have D4:=zH d1;have B4:=zH hb;clear d1 d2 hb V1;go_wp2_with fail;refine V2.out.mono ?_;rintro e w5 ⟨A6,c6,A7,c7,rfl,d1,d2,hb⟩;have D6:=zH d1;have D5:=zH (D4.out.below hb);have B5:=zH (B4.out.trans (hb.mono B4.out.size));clear d1 d2 hb V2;go_wp2_with fail;go_meet;exact ⟨A4,c4,A6,c6,rfl,rfl,D5,D6,B5⟩
   case rest=>
    obtain ⟨A1,c1,A2,c2,rfl,rfl,DN,DD,B4⟩:=hcut;have BX4:=zH (BX3.out.below B4.out);have BW4:=zH (BW3.out.trans (B4.out.mono BW3.out.size));have ln:(nd (x / g)).length <= 400000:=tR (Ji (Nat.div_le_self _ _)) lx;have ld:(nd (v / g)).length <= 400000:=tR (Ji (Nat.div_le_self _ _)) lv;clear BX3 BW3 B4 DX3 DV3 DG O3 BR3 hx hv;obtain ⟨W4,rfl⟩:∃ X,X = wc:=⟨_,rfl⟩;generalize x / g = n at *
    generalize v / g = m at *
    have NA:=zH DN.out.nil;have LN:=zH DN.out.lies;have DGN:=zH DN.out.dig;have hs4:w.heap.size < W4.heap.size:=BX4.out.lt;generalize hxs:nd n = xs at *
    have HXS:=zH hxs;clear hxs DN;go_wp2_with (at_builtin;refine Jg _ rfl (.const (.slice none 0 0)) (.tmp 49) _ rfl W4.heap.size 170 j0 _ 1 4 Tryz.underlying29 KI.out KZ0.out KZ1.out KZ2.out rfl (by omega) (.slice none 0 0) 0 [] rfl (World.ownsRow_nil _ _ _ _) A1 xs.length c1 (ucs xs) rfl NA.out LN.out (by simp) (ZC _) (by unfold maxLen;omega) (by omega) nR xs.length (Nat.zero_add _) ?_;intro A4 c4 w4 ho4 hg4 _);have hb4:Below W4.heap.size W4 w4:=Xa hg4;have DD4:=zH ((DD.out.below hb4).below ((Below.refl w4.heap.size w4).alloc nR (.cells #[.bool neg,.slice A4 xs.length c4,.slice none 0 0] 31)));have BX5:=zH ((BX4.out.below hb4).alloc (.cells #[.bool neg,.slice A4 xs.length c4,.slice none 0 0] 31));have BW5:=zH ((BW4.out.trans (hb4.mono BW4.out.size)).alloc (BW4.out.trans (hb4.mono BW4.out.size)).size (.cells #[.bool neg,.slice A4 xs.length c4,.slice none 0 0] 31));have DN5:Hid (Dg (w4.alloc (.cells #[.bool neg,.slice A4 xs.length c4,.slice none 0 0] 31)) A4 c4 xs):=zH (ZY (ho4.alloc _) DGN.out);have DN4:Hid (Dg w4 A4 c4 xs):=zH (ZY ho4 DGN.out);have hs5:w.heap.size < w4.heap.size:=Nat.lt_of_lt_of_le hs4 hb4.size;have HW5:Hid ((w4.alloc (.cells #[.bool neg,.slice A4 xs.length c4,.slice none 0 0] 31)).heap[w4.heap.size]? = some (.cells #[.bool neg,.slice A4 xs.length c4,.slice none 0 0] 31)):=zH (heap_alloc_new _ _);clear hb4 ho4 hg4 LN DD BX4 BW4;by_cases h1:m = 1
    ·subst h1;have O5:=zH (VM A2 c2 1 _ DD4.out.lies (by omega) true (zH (by simp)));obtain ⟨k0,k1,k2,f0,f1,f2⟩:=BX5.out.facts;go_wp2_with fail;refine O5.out.mono ?_;rintro e w' ⟨rfl,rfl⟩;generalize hW5:w4.alloc (.cells #[.bool neg,.slice A4 xs.length c4,.slice none 0 0] 31) = W5 at *
     have u0:=cell_of_row W5 w4.heap.size 0 _ _ _ HW5.out;have u1:=cell_of_row W5 w4.heap.size 1 _ _ _ HW5.out;have u2:=cell_of_row W5 w4.heap.size 2 _ _ _ HW5.out;simp at u0 u1 u2;go_wp2_with fail;obtain ⟨e0,e1,e2⟩:=Zf (.bool neg) (.slice A4 xs.length c4) (.slice none 0 0) k0 k1 k2;refine bodyPost_ret (v:=.agg #[.bool neg,.slice A4 xs.length c4,.slice none 0 0]) (by simp [results,Tryz.results45,go_sem,e0,e1,e2]) rfl ?_;exact ⟨⟨neg,A4,c4,xs,none,0,[]⟩,rfl,FrOk.boxed (x:=⟨neg,A4,c4,xs,none,0,[]⟩) ⟨DN5.out,Dg.none _⟩ BX5.out _ _ _,rfl,HXS.out.symm,rfl,((BW5.out.setCell (by simp) _).setCell (by simp) _).setCell (by simp) _⟩
    ·have O5:=zH (VM A2 c2 m _ DD4.out.lies (by omega) false (zH (by simp [h1])));have HD:Hid (den m = nd m):=zH (by unfold den;rw [if_neg h1]);go_wp2_with fail;refine O5.out.mono ?_;rintro e w' ⟨rfl,rfl⟩;have NB:=zH DD4.out.nil;have LB:=zH DD4.out.lies;have DGB:=zH DD4.out.dig;have B45:Hid (Below w4.heap.size w4 (w4.alloc (.cells #[.bool neg,.slice A4 xs.length c4,.slice none 0 0] 31))):=zH ((Below.refl w4.heap.size w4).alloc nR _);have hs6:w4.heap.size < (w4.alloc (.cells #[.bool neg,.slice A4 xs.length c4,.slice none 0 0] 31)).heap.size:=(by simp);generalize hW5:w4.alloc (.cells #[.bool neg,.slice A4 xs.length c4,.slice none 0 0] 31) = W5 at *
     clear hW5 DD4 O5 h1;generalize hys:nd m = ys at *
     go_wp2_with (at_builtin;refine Jg _ rfl (.const (.slice none 0 0)) (.tmp 55) _ rfl W5.heap.size 170 j0 _ 1 4 Tryz.underlying29 KI.out KZ0.out KZ1.out KZ2.out rfl (by omega) (.slice none 0 0) 0 [] rfl (World.ownsRow_nil _ _ _ _) A2 ys.length c2 (ucs ys) rfl NB.out LB.out (by simp) (ZC _) (by unfold maxLen;omega) (by omega) nR ys.length (Nat.zero_add _) ?_;intro A6 c6 w6 ho6 hg6 _;have HB6:Hid (Below W5.heap.size W5 w6):=zH (Xa hg6);have hk6:w6.heap[w4.heap.size]? = _:=(HB6.out.block w4.heap.size hs6).trans HW5.out;have u0:=cell_of_row w6 w4.heap.size 0 _ _ _ hk6;have u1:=cell_of_row w6 w4.heap.size 1 _ _ _ hk6;have u2:=cell_of_row w6 w4.heap.size 2 _ _ _ hk6;have uf:=Jl hk6 2;simp at u0 u1 u2;obtain ⟨k0,k1,k2,f0,f1,f2⟩:=(BX5.out.below HB6.out).facts;have hne:¬ w.heap.size = w4.heap.size:=(by omega);have hne':¬ w4.heap.size = w.heap.size:=(by omega);have HO6:=zH ho6;have HK6:=zH hk6;clear ho6 hg6 hk6);have BX7:Hid (Bx (w6.setCell ⟨w4.heap.size,2,none⟩ (.slice A6 ys.length c6)) w.heap.size):=zH ((Below.heap_setCell w6 ⟨w4.heap.size,2,none⟩ (.slice A6 ys.length c6) w.heap.size hne).trans (BX5.out.below HB6.out));have B47:=zH ((B45.out.trans (HB6.out.mono B45.out.size)).setCell (p:=⟨w4.heap.size,2,none⟩) nR (.slice A6 ys.length c6));have BW7:=zH ((BW5.out.trans (HB6.out.mono BW5.out.size)).setCell (p:=⟨w4.heap.size,2,none⟩) (Nat.le_of_lt hs5) (.slice A6 ys.length c6));have DN7:=zH (DN4.out.below B47.out);have DM7:Hid (Dg (w6.setCell ⟨w4.heap.size,2,none⟩ (.slice A6 ys.length c6)) A6 c6 ys):=zH (ZY (J1 HO6.out hs6 _) DGB.out);obtain ⟨m0,m1,m2,-,-,-⟩:=BX7.out.facts;obtain ⟨e0,e1,e2⟩:=Zf (.bool neg) (.slice A4 xs.length c4) (.slice A6 ys.length c6) m0 m1 m2;refine bodyPost_ret (v:=.agg #[.bool neg,.slice A4 xs.length c4,.slice A6 ys.length c6]) (by simp [results,Tryz.results45,go_sem,e0,e1,e2]) rfl ?_;exact ⟨⟨neg,A4,c4,xs,A6,c6,ys⟩,rfl,FrOk.boxed (x:=⟨neg,A4,c4,xs,A6,c6,ys⟩) ⟨DN7.out,DM7.out⟩ BX7.out _ _ _,rfl,HXS.out.symm,HD.out.symm,((BW7.out.setCell (by simp) _).setCell (by simp) _).setCell (by simp) _⟩
structure Fq (w:World) (x:Fr) (q:Rat):Prop where
 ok:FrOk w x
 neg:x.neg = qs q
 num:x.N = nd (qn q)
 dn:x.D = den q.den
def Zu (q:Rat) (w:World) (e:Ending) (w':World):Prop:=∃ x:Fr,e = .returned x.val /\ Fq w' x q /\ Below w.heap.size w w'
theorem RetFr.fq {b:Bool} {n d:Nat} {q:Rat} {w w':World} {e:Ending} (h:RetFr b n d w e w') (hb:b = qs q) (hn:n = qn q) (hd:d = q.den):Zu q w e w':=by
 obtain ⟨x,he,hx,h1,h2,h3,h4⟩:=h;exact ⟨x,he,⟨hx,h1.trans hb,by rw [h2,hn],by rw [h3,hd]⟩,h4⟩
theorem Vb (neg:Bool) (A B:Option Addr) (c d:Nat) (a b:List Int) (w:World) (hA:Dg w A c a) (hB:Dg w B d b) (hn:a.length <= 400000) (hm:b.length <= 400000) (x v:Nat) (hx:Hid (vl a = x)) (hv:Hid (vl b = v)) :
  Calls Tryz.prog 45 #[.bool neg,.slice A a.length c,.slice B b.length d] w (Zu (fq neg x v) w):=by
 by_cases hv2 : 2 <= v
 ·obtain ⟨p1,p2,p3⟩:=Zo (a:=neg) (n:=x) (d:=v) (by omega);by_cases x0:x = 0
  ·subst x0;refine (QF neg A B c d a b w hA hB (by omega) (by omega) (zH (by rw [hx.out];rfl))).mono fun e w' h=>h.fq ?_ ?_ ?_
   ·rw [p1];simp
   ·rw [p2];simp
   ·rw [p3,Nat.gcd_zero_left,Nat.div_self (by omega)]
  ·refine (ZeQ neg A B c d a b w hA hB hn hm x v hx hv x0 hv2).mono fun e w' h=>h.fq ?_ p2.symm p3.symm;rw [p1];simp [x0]
 ·have hv1:vl b = 0 ∨ vl b = 1:=by have:=hv.out;omega
  have e1:fq neg x v = fq neg x 1:=by
   rcases (show v = 0 ∨ v = 1 by omega) with rfl | rfl
   ·rfl
   ·rfl
  obtain ⟨p1,p2,p3⟩:=Zo (a:=neg) (n:=x) (d:=1) (by omega);rw [e1];refine (Za5 neg A B c d a b w hA hB (by omega) (by omega) x hx (zH hv1)).mono fun e w' h=>h.fq p1.symm ?_ ?_
  ·rw [p2];simp
  ·rw [p3];simp
end Go.Proofs.YtlgdlenoohkipaaGreat
