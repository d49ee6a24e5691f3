/- TopLearned -/
import Derived.Test.YtlgdlenoohkipaaGreatMTearn29
set_option maxRecDepth 100000
set_option maxHeartbeats 32000000
namespace Ear

abbrev dB:Nat:=4294967296
def CD (V:Nat) (F:Nat -> Rat) (k:Nat):Prop:=∃ (D:Nat) (N:Nat -> Int),0 < D /\ D < dB ^ k /\ ∀ i,i < V -> F i = ((N i:Int):Rat) * ((D:Int):Rat)⁻¹ /\ (N i).natAbs < dB ^ k
theorem Zhi {a:Int} {b:Nat} (hb : 0 < b):fq (decide (a < 0)) a.natAbs b = (a:Rat) * ((b:Int):Rat)⁻¹:=by
 rw [Zfp (by omega)];have e1:sg (decide (a < 0)) a.natAbs = a:=by
  unfold sg;by_cases h:a < 0
  ·rw [decide_eq_true h];simp;omega
  ·rw [decide_eq_false h];simp;omega
 rw [e1,Rat.mkRat_eq_div,Rat.div_def];rfl
theorem Y9 {k l:Nat} (h:k <= l):dB ^ k <= dB ^ l:=Nat.pow_le_pow_right (by decide) h
theorem CD.sz {V k:Nat} {F:Nat -> Rat} (h:CD V F k) {i:Nat} (hi:i < V):Sz (F i) k:=by
 obtain ⟨D,N,h1,h2,h3⟩:=h;obtain ⟨h4,h5⟩:=h3 i hi;rw [h4,<- Zhi h1];exact Sz.fq (by omega) (JX h5) (JX h2)
theorem CD.mono {V k l:Nat} {F:Nat -> Rat} (h:CD V F k) (hl:k <= l):CD V F l:=by
 obtain ⟨D,N,h1,h2,h3⟩:=h;exact ⟨D,N,h1,Nat.lt_of_lt_of_le h2 (Y9 hl),fun i hi=>⟨(h3 i hi).1,Nat.lt_of_lt_of_le (h3 i hi).2 (Y9 hl)⟩⟩
theorem CD.congr {V k:Nat} {F G:Nat -> Rat} (h:CD V F k) (he:∀ i,i < V -> G i = F i):CD V G k:=by
 obtain ⟨D,N,h1,h2,h3⟩:=h;exact ⟨D,N,h1,h2,fun i hi=>⟨(he i hi).trans (h3 i hi).1,(h3 i hi).2⟩⟩
theorem Zhc {n k:Nat} (h:(nd n).length <= k):n < dB ^ k:=Nat.lt_of_lt_of_le (ZE n) (Y9 h)
theorem Sz.quo {q:Rat} {k:Nat} (h:Sz q k):∃ (D:Nat) (a:Int),0 < D /\ D < dB ^ k /\ q = (a:Rat) * ((D:Int):Rat)⁻¹ /\ a.natAbs < dB ^ k:=
 ⟨q.den,q.num,q.den_pos,Zhc h.den,by
  have h:=Rat.mkRat_self q;rw [Rat.mkRat_eq_div,Rat.div_def] at h;exact h.symm,Zhc h.num⟩
theorem VN {a b k l:Nat} (ha:a < dB ^ k) (hb:b < dB ^ l):a * b < dB ^ (k + l):=by
 rw [Nat.pow_add];exact Nat.mul_lt_mul'' ha hb
theorem Ziz {a b k:Nat} (ha:a < dB ^ k) (hb:b < dB ^ k):a + b < dB ^ (k + 1):=by
 rw [Nat.pow_succ];generalize dB ^ k = X at *
 show a + b < X * 4294967296;omega
theorem Zch {a b:Int} {k:Nat} (ha:a.natAbs < dB ^ k) (hb:b.natAbs < dB ^ k):(a + b).natAbs < dB ^ (k + 1):=
 Nat.lt_of_le_of_lt (Int.natAbs_add_le a b) (Ziz ha hb)
theorem YH {a b:Int} {k l:Nat} (ha:a.natAbs < dB ^ k) (hb:b.natAbs < dB ^ l):(a * b).natAbs < dB ^ (k + l):=by
 rw [Int.natAbs_mul];exact VN ha hb
theorem YG {n:Nat} (h : 0 < n):((n:Int):Rat) ≠ 0:=by
 have:((n:Int)) ≠ 0:=by omega
 exact_mod_cast this
theorem ZhO {a b:Int} {d e:Nat} (hd : 0 < d) (he : 0 < e):(a:Rat) * ((d:Int):Rat)⁻¹ + (b:Rat) * ((e:Int):Rat)⁻¹ = ((a * e + b * d:Int):Rat) * (((d * e:Nat):Int):Rat)⁻¹:=by
 have h1:=YG hd;have h2:=YG he;push_cast at h1 h2 ⊢;grind
theorem ZhN {a b:Int} {d e:Nat} (hd : 0 < d) (he : 0 < e):((a:Rat) * ((d:Int):Rat)⁻¹) * ((b:Rat) * ((e:Int):Rat)⁻¹) = ((a * b:Int):Rat) * (((d * e:Nat):Int):Rat)⁻¹:=by
 have h1:=YG hd;have h2:=YG he;push_cast at h1 h2 ⊢;grind
theorem CD.add {V k l:Nat} {F G:Nat -> Rat} (h:CD V F k) (g:CD V G l):CD V (fun i=>F i + G i) (k + l + 1):=by
 obtain ⟨D,N,h1,h2,h3⟩:=h;obtain ⟨E,M,g1,g2,g3⟩:=g;refine ⟨D * E,fun i=>N i * E + M i * D,Nat.mul_pos h1 g1,Nat.lt_of_lt_of_le (VN h2 g2) (Y9 (by omega)),fun i hi=>⟨?_,?_⟩⟩
 ·show F i + G i = _;rw [(h3 i hi).1,(g3 i hi).1,ZhO h1 g1]
 ·refine Zch (YH (h3 i hi).2 (by simpa using g2)) ?_;rw [Nat.add_comm k l];exact YH (g3 i hi).2 (by simpa using h2)
theorem CD.scale {V k l:Nat} {F:Nat -> Rat} {q:Rat} (hq:Sz q l) (h:CD V F k):CD V (fun i=>q * F i) (l + k):=by
 obtain ⟨D,N,h1,h2,h3⟩:=h;obtain ⟨E,a,g1,g2,g3,g4⟩:=hq.quo;refine ⟨E * D,fun i=>a * N i,Nat.mul_pos g1 h1,VN g2 h2,fun i hi=>⟨?_,YH g4 (h3 i hi).2⟩⟩;show q * F i = _;rw [(h3 i hi).1,g3,ZhN g1 h1]
theorem CD.cnt {V:Nat} {m:Nat -> Int} {s:Int} (hm:∀ i,i < V -> 0 <= m i /\ m i <= 9223372036854775807) (hs : 0 < s /\ s <= 9223372036854775807):CD V (fun i=>((m i:Int):Rat) * ((s:Int):Rat)⁻¹) 2:=by
 refine ⟨s.toNat,m,by omega,by simp [dB];omega,fun i hi=>⟨?_,?_⟩⟩
 ·have e:((s.toNat:Nat):Int) = s:=by omega
  rw [e]
 ·have:=hm i hi;simp [dB];omega
def pS (p:Nat -> Rat) (on:Nat -> Bool):Nat -> Rat
 | 0=>((0:Int):Rat)
 | n + 1=>if on n then pS p on n + p n else pS p on n
theorem ZhX {V k:Nat} {F:Nat -> Rat} {D:Nat} {N:Nat -> Int} (h1 : 0 < D) (h3:∀ i,i < V -> F i = ((N i:Int):Rat) * ((D:Int):Rat)⁻¹ /\ (N i).natAbs < dB ^ k) (on:Nat -> Bool):∀ n,n <= V -> ∃ R:Int,pS F on n = (R:Rat) * ((D:Int):Rat)⁻¹ /\ R.natAbs <= n * dB ^ k
 | 0,_=>⟨0,by simp [pS],by simp⟩
 | n + 1,hn=>by
  obtain ⟨R,e,hR⟩:=ZhX h1 h3 on n (by omega);have h4:=h3 n (by omega);unfold pS;by_cases h:on n = true
  ·rw [if_pos h,e,h4.1];refine ⟨R + N n,?_,?_⟩
   ·push_cast;grind
   ·have:=Int.natAbs_add_le R (N n);rw [Nat.succ_mul];omega
  ·rw [if_neg h];exact ⟨R,e,by rw [Nat.succ_mul];omega⟩
theorem CD.ps {V k:Nat} {F:Nat -> Rat} (h:CD V F k) (on:Nat -> Bool) (hV:V < dB) {n:Nat} (hn:n <= V):Sz (pS F on n) (k + 1):=by
 obtain ⟨D,N,h1,h2,h3⟩:=h;obtain ⟨R,e,hR⟩:=ZhX h1 h3 on n hn;rw [e,<- Zhi h1];refine Sz.fq (by omega) (JX ?_) (JX (Nat.lt_of_lt_of_le h2 (Y9 (by omega))));have h4:n * dB ^ k < dB * dB ^ k:=Nat.mul_lt_mul_of_pos_right (by omega) (Nat.pow_pos (by decide));rw [Nat.pow_succ,Nat.mul_comm];show _ < dB * dB ^ k;omega
theorem CD.typ {V k:Nat} {F:Nat -> Rat} (h:CD V F k) {m:Nat -> Int} {s kd:Int} (hm:∀ i,i < V -> 0 <= m i /\ m i <= 4611686018427387904) (hs : 0 < s /\ s <= 4611686018427387904) (hk : 0 <= kd /\ kd <= 4611686018427387904):CD V (fun i=>(((m i:Int):Rat) + ((kd:Int):Rat) * F i) * (((s + kd:Int)):Rat)⁻¹) (k + 5):=by
 obtain ⟨D,N,h1,h2,h3⟩:=h;obtain ⟨t,ht⟩:∃ t:Nat,(t:Int) = s + kd:=⟨(s + kd).toNat,by omega⟩;have ht0 : 0 < t:=by omega
 have htl:t < dB ^ 2:=by simp [dB];omega
 refine ⟨D * t,fun i=>m i * D + kd * N i,Nat.mul_pos h1 ht0,Nat.lt_of_lt_of_le (VN h2 htl) (Y9 (by omega)),fun i hi=>⟨?_,?_⟩⟩
 ·show (_ + _ * F i) * _ = _;rw [(h3 i hi).1,<- ht];have e1:=YG h1;have e2:=YG ht0;push_cast at e1 e2 ⊢;grind
 ·have b1:(m i).natAbs < dB ^ 2:=by have:=hm i hi;simp [dB];omega
  have b2:kd.natAbs < dB ^ 2:=by simp [dB];omega
  have b3:(m i * D).natAbs < dB ^ (2 + k):=YH b1 (by simpa using h2);have b4:=YH b2 (h3 i hi).2;exact Nat.lt_of_lt_of_le (Zch b3 b4) (Y9 (by omega))
theorem CD.dsc {V k l:Nat} {F:Nat -> Rat} (h:CD V F k) (hV:V < dB) {q:Rat} (hq:Sz q l) {m:Nat -> Int} {s kd:Int} (on:Nat -> Bool) (hm:∀ i,i < V -> 0 <= m i /\ m i <= 4611686018427387904) (hs : 0 < s /\ s <= 4611686018427387904) (hk : 0 <= kd /\ kd <= 4611686018427387904) :
  CD V (fun i=>if 0 < m i then (((m i:Int):Rat) + -q) * ((s:Int):Rat)⁻¹ else ((q * ((kd:Int):Rat)) * ((s:Int):Rat)⁻¹ * F i) * (pS F on V)⁻¹) (k + l + 6):=by
 obtain ⟨D,N,h1,h2,h3⟩:=h;obtain ⟨E,a,g1,g2,g3,g4⟩:=hq.quo;obtain ⟨R,e,hR⟩:=ZhX h1 h3 on V (Nat.le_refl _);obtain ⟨t,ht⟩:∃ t:Nat,(t:Int) = s:=⟨s.toNat,by omega⟩;have ht0 : 0 < t:=by omega
 have htl:t < dB ^ 2:=by simp [dB];omega
 obtain ⟨r,hr⟩:∃ r:Nat,r = if R = 0 then 1 else R.natAbs:=⟨_,rfl⟩;have hr0 : 0 < r:=by rw [hr];split <;> omega
 have hpk : 0 < dB ^ k:=Nat.pow_pos (by decide);have hVk:V * dB ^ k < dB ^ (k + 1):=by
  rw [Nat.pow_succ,Nat.mul_comm];exact Nat.mul_lt_mul_of_pos_left hV hpk
 have hrl:r < dB ^ (k + 1):=by
  rw [hr];split
  ·exact Nat.one_lt_pow (by omega) (by decide)
  ·omega
 refine ⟨E * t * r,fun i=>if 0 < m i then (m i * E - a) * r else (if R = 0 then 0 else a * kd * N i * R.sign),Nat.mul_pos (Nat.mul_pos g1 ht0) hr0,Nat.lt_of_lt_of_le (VN (VN g2 htl) hrl) (Y9 (by omega)),fun i hi=>⟨?_,?_⟩⟩
 ·have e1:=YG h1;have e2:=YG g1;have e3:=YG ht0;have e4:=YG hr0;show (if 0 < m i then _ else _) = _;by_cases hmi : 0 < m i
  ·rw [if_pos hmi];simp only [if_pos hmi];rw [g3,<- ht];push_cast at e1 e2 e3 e4 ⊢;grind
  ·rw [if_neg hmi];simp only [if_neg hmi];rw [e,g3,<- ht,(h3 i hi).1];by_cases hR0:R = 0
   ·rw [if_pos hR0,hR0];simp
   ·rw [if_neg hR0];rw [if_neg hR0] at hr;have e5:(R:Rat) ≠ 0:=(by exact_mod_cast hR0);have e6:(((r:Nat):Int)) = R.sign * R:=(by rw [hr,Int.sign_mul_self]);have e7:R.sign * R.sign = 1:=(by rcases Int.lt_trichotomy R 0 with h | h | h <;> simp_all [Int.sign_eq_neg_one_of_neg,Int.sign_eq_one_of_pos]);have e8:((R.sign:Int):Rat) * ((R.sign:Int):Rat) = 1:=(by exact_mod_cast e7);have e9:(((r:Nat):Int):Rat) = ((R.sign:Int):Rat) * (R:Rat):=(by rw [e6];push_cast;rfl);push_cast at e1 e2 e3 e4 e9 ⊢;rw [e9] at e4 ⊢;generalize ((R.sign:Int):Rat) = σ at *
    grind
 ·by_cases hmi : 0 < m i
  ·simp only [if_pos hmi];have b1:(m i).natAbs < dB ^ 2:=(by have:=hm i hi;simp [dB];omega);have b2:(m i * E).natAbs < dB ^ (2 + l):=YH b1 (by simpa using g2);have b3:(-a).natAbs < dB ^ (2 + l):=(by rw [Int.natAbs_neg];exact Nat.lt_of_lt_of_le g4 (Y9 (by omega)));have b4:=YH (Zch b2 b3) (b:=(r:Int)) (l:=k + 1) (by simpa using hrl);exact Nat.lt_of_lt_of_le b4 (Y9 (by omega))
  ·simp only [if_neg hmi];split
   ·exact Nat.pow_pos (by decide)
   ·have b2:kd.natAbs < dB ^ 2:=(by simp [dB];omega);have b5:(R.sign).natAbs < dB ^ 1:=by
     rcases Int.lt_trichotomy R 0 with h | h | h
     ·rw [Int.sign_eq_neg_one_of_neg h];decide
     ·rw [h];decide
     ·rw [Int.sign_eq_one_of_pos h];decide
    exact Nat.lt_of_lt_of_le (YH (YH (YH g4 b2) (h3 i hi).2) b5) (Y9 (by omega))
end Ear
namespace Go.Proofs.YtlgdlenoohkipaaGreat
open Go.RowKit Ear

abbrev Ct:=Nat -> K4 -> Int -> Int
def Zbh (V:Nat) (_:Nat):Rat:=((1:Int):Rat) * (((V:Nat):Int):Rat)⁻¹
def kdF (F:Int -> Int) (V:Nat):Nat:=((List.range V).filter fun i:Nat=>F (i:Int) != 0).length
def onZ (F:Int -> Int) (i:Nat):Bool:=F (i:Int) == 0
def Zar (F:Int -> Int) (V:Nat) (i:Nat):Rat:=((F (i:Int):Int):Rat) * ((smF F V:Int):Rat)⁻¹
def ZgY (F:Int -> Int) (V:Nat) (p:Nat -> Rat) (i:Nat):Rat:=(((F (i:Int):Int):Rat) + (((kdF F V:Nat):Int):Rat) * p i) * (((smF F V + ((kdF F V:Nat):Int):Int)):Rat)⁻¹
def ZdY (F:Int -> Int) (V:Nat) (q:Rat) (p:Nat -> Rat) (i:Nat):Rat:=if 0 < F (i:Int) then (((F (i:Int):Int):Rat) + -q) * ((smF F V:Int):Rat)⁻¹ else ((q * (((kdF F V:Nat):Int):Rat)) * ((smF F V:Int):Rat)⁻¹ * p i) * (pS p (onZ F) V)⁻¹
def Zd8 (ct:Ct) (V:Nat):Nat -> List Int -> Nat -> Rat
 | 0,_=>Zbh V
 | n + 1,h=>if smF (ct (n + 1) (kOf h)) V = 0 then Zd8 ct V n (h.drop 1) else ZgY (ct (n + 1) (kOf h)) V (Zd8 ct V n (h.drop 1))
def ZbA (ct:Ct) (V:Nat) (q:Rat):Nat -> List Int -> Nat -> Rat
 | 0,_=>Zbh V
 | n + 1,h=>if kdF (ct (n + 1) (kOf h)) V = V then Zar (ct (n + 1) (kOf h)) V else if smF (ct (n + 1) (kOf h)) V = 0 then ZbA ct V q n (h.drop 1) else ZdY (ct (n + 1) (kOf h)) V q (ZbA ct V q n (h.drop 1))
def ZaB (ct:Ct) (V:Nat) (h:List Int):Nat -> Nat -> Rat
 | 0=>Zbh V
 | j + 1=>if 0 < smF (ct (j + 1) (kOf (h.drop (h.length - j)))) V then Zar (ct (j + 1) (kOf (h.drop (h.length - j)))) V else ZaB ct V h j
def Zbz (ct:Ct) (V:Nat) (mx:Nat -> Rat) (h:List Int):Nat -> Nat -> Rat
 | 0=>fun _=>((0:Int):Rat)
 | j + 1=>fun i=>Zbz ct V mx h j i + mx j * ZaB ct V h j i
structure CtOk (ct:Ct) (V:Nat):Prop where
 bd:∀ j h z,0 <= ct j h z /\ ct j h z <= 35184372088832
 out:∀ j h z,1 <= j -> (z < 0 ∨ (V:Int) <= z) -> ct j h z = 0
theorem Zca {V:Nat} (hV : 0 < V /\ V <= 100):CD V (Zbh V) 1:=
 ⟨V,fun _=>1,hV.1,by simp [dB];omega,fun _ _=>⟨rfl,by simp [dB]⟩⟩
theorem Qt {ct:Ct} {V:Nat} (h:CtOk ct V) (hV:V <= 100) (j:Nat) (k:K4) : 0 <= smF (ct j k) V /\ smF (ct j k) V <= 3518437208883200:=by
 have h1:=Zcv (V:=V) (h.bd j k);refine ⟨h1.1,Int.le_trans h1.2 ?_⟩;have:(V:Int) <= 100:=by omega
 exact Int.le_trans (Int.mul_le_mul_of_nonneg_right this (by decide)) (by decide)
theorem ZcT (F:Int -> Int) (V:Nat):kdF F V <= V:=by
 have:=List.length_filter_le (fun i:Nat=>F (i:Int) != 0) (List.range V);simpa [kdF] using this
theorem Zho {ct:Ct} {V:Nat} (h:CtOk ct V) (hV:V <= 100) (j:Nat) (k:K4) (h0 : 0 < smF (ct j k) V):CD V (Zar (ct j k) V) 2:=
 CD.cnt (fun i _=>⟨(h.bd j k i).1,Int.le_trans (h.bd j k i).2 (by decide)⟩) ⟨h0,Int.le_trans (Qt h hV j k).2 (by decide)⟩
theorem ZbG {ct:Ct} {V:Nat} (h:CtOk ct V) (hV : 0 < V /\ V <= 100):∀ n hs,CD V (Zd8 ct V n hs) (1 + 5 * n)
 | 0,_=>Zca hV
 | n + 1,hs=>by
  unfold Zd8;have ih:=ZbG h hV n (hs.drop 1);have hb:=Qt h hV.2 (n + 1) (kOf hs);have hk:=ZcT (ct (n + 1) (kOf hs)) V;split
  ·exact ih.mono (by omega)
  ·exact (ih.typ (m:=fun i=>ct (n + 1) (kOf hs) (i:Int)) (s:=smF (ct (n + 1) (kOf hs)) V) (kd:=((kdF (ct (n + 1) (kOf hs)) V:Nat):Int)) (fun i _=>⟨(h.bd _ _ i).1,Int.le_trans (h.bd _ _ i).2 (by decide)⟩) ⟨by omega,Int.le_trans hb.2 (by decide)⟩ ⟨by omega,by omega⟩).mono (by omega)
theorem Zcd {ct:Ct} {V:Nat} (h:CtOk ct V) (hV : 0 < V /\ V <= 100) {q:Rat} {l:Nat} (hq:Sz q l):∀ n hs,CD V (ZbA ct V q n hs) (1 + (l + 6) * n)
 | 0,_=>Zca hV
 | n + 1,hs=>by
  unfold ZbA;have ih:=Zcd h hV hq n (hs.drop 1);have hb:=Qt h hV.2 (n + 1) (kOf hs);have hk:=ZcT (ct (n + 1) (kOf hs)) V;have e:(l + 6) * (n + 1) = (l + 6) * n + (l + 6):=Nat.mul_succ ..
  split
  ·rename_i h1;by_cases h0:smF (ct (n + 1) (kOf hs)) V = 0
   ·refine CD.congr (F:=fun _=>(((0:Int)):Rat)) ⟨1,fun _=>0,by decide,Nat.one_lt_pow (by omega) (by decide),fun i hi=>⟨by simp,Nat.pow_pos (by decide)⟩⟩ (fun i hi=>?_);show Zar _ _ _ = _;unfold Zar;rw [h0];simp
   ·exact (Zho h hV.2 _ _ (by omega)).mono (by omega)
  ·split
   ·exact ih.mono (by omega)
   ·exact (ih.dsc (by show V < 4294967296;omega) hq (m:=fun i=>ct (n + 1) (kOf hs) (i:Int)) (s:=smF (ct (n + 1) (kOf hs)) V) (kd:=((kdF (ct (n + 1) (kOf hs)) V:Nat):Int)) (onZ (ct (n + 1) (kOf hs))) (fun i _=>⟨(h.bd _ _ i).1,Int.le_trans (h.bd _ _ i).2 (by decide)⟩) ⟨by omega,Int.le_trans hb.2 (by decide)⟩ ⟨by omega,by omega⟩).mono (by omega)
theorem ZbZ {ct:Ct} {V:Nat} (h:CtOk ct V) (hV : 0 < V /\ V <= 100) (hs:List Int):∀ j,CD V (ZaB ct V hs j) 2
 | 0=>(Zca hV).mono (by omega)
 | j + 1=>by
  unfold ZaB;split
  ·rename_i h0;exact Zho h hV.2 _ _ h0
  ·exact ZbZ h hV hs j
theorem ZbY {ct:Ct} {V:Nat} (h:CtOk ct V) (hV : 0 < V /\ V <= 100) {mx:Nat -> Rat} {l N:Nat} (hq:∀ j,j < N -> Sz (mx j) l) (hs:List Int):∀ j,j <= N -> CD V (Zbz ct V mx hs j) (1 + (l + 3) * j)
 | 0,_=>⟨1,fun _=>0,by decide,by simp [dB],fun i hi=>⟨by simp [Zbz],Nat.pow_pos (by decide)⟩⟩
 | j + 1,hj=>by
  have e:(l + 3) * (j + 1) = (l + 3) * j + (l + 3):=Nat.mul_succ ..
  exact ((ZbY h hV hq hs j (by omega)).add ((ZbZ h hV hs j).scale (hq j (by omega)))).mono (by omega)
theorem Zjc {mm:List (Int × Int)} (hn:(mm.map (·.1)).Nodup) {F:Int -> Int} (hF:∀ z,(JB mm z).getD 0 = F z) (hp:∀ p ∈ mm,1 <= p.2) (V:Nat) (h0:∀ z,(z < 0 ∨ (V:Int) <= z) -> F z = 0):mm.length = kdF F V:=by
 have hr:((List.range V).map fun i:Nat=>(i:Int)).Nodup:=by
  rw [List.Nodup,List.pairwise_map];exact List.nodup_range.imp fun hab e=>hab (by omega)
 have e1:mm.length = (mm.map (·.1)).length:=by simp
 have e2:kdF F V = ((((List.range V).map fun i:Nat=>(i:Int))).filter fun z=>F z != 0).length:=by
  unfold kdF;rw [List.filter_map,List.length_map];rfl
 rw [e1,e2];refine List.Perm.length_eq ?_;rw [List.perm_ext_iff_of_nodup hn (hr.filter _)];intro z;simp only [List.mem_filter];constructor
 ·intro hz;obtain ⟨p,hp',rfl⟩:=List.mem_map.1 hz;have h1:=ZF hn (show (p.1,p.2) ∈ mm from hp');have h2:F p.1 = p.2:=by rw [<- hF,h1];rfl
  have h3:=hp p hp';have h4:F p.1 ≠ 0:=by omega
  have hzr : 0 <= p.1 /\ p.1 < (V:Int):=by
   apply Classical.byContradiction;intro hc;exact h4 (h0 _ (by omega))
  exact ⟨List.mem_map.2 ⟨p.1.toNat,List.mem_range.2 (by omega),by omega⟩,by simpa using h4⟩
 ·rintro ⟨_,hz⟩;cases hg:JB mm z with
  | none=>rw [<- hF,hg] at hz;simp at hz
  | some y=>exact List.mem_map_of_mem (f:=(·.1)) (JS hg)
theorem Zcu (F:Int -> Int) (V:Nat):smF F (V + 1) = smF F V + F (V:Int):=by
 unfold smF;rw [List.range_succ,List.map_append,List.sum_append];simp
theorem ZbN {F:Int -> Int} (h0:∀ z,0 <= F z):∀ {V i:Nat},i < V -> 0 < F (i:Int) -> 0 < smF F V
 | 0,_,hi,_=>absurd hi (by omega)
 | V + 1,i,hi,h=>by
  rw [Zcu];have hn : 0 <= smF F V:=by
   clear hi h
   induction V with
   | zero=>simp [smF]
   | succ V ih=>rw [Zcu];have:=h0 (V:Int);omega
  by_cases e:i = V
  ·subst e;omega
  ·have:=ZbN h0 (show i < V by omega) h;have:=h0 (V:Int);omega
theorem Zhf {F:Int -> Int} {V:Nat} (hs:smF F V ≠ 0) : 0 < kdF F V:=by
 apply Nat.pos_of_ne_zero;intro h;apply hs;have h1:∀ i ∈ List.range V,F ((i:Nat):Int) = 0:=by
  intro i hi;have:=List.length_eq_zero_iff.1 (show ((List.range V).filter fun i:Nat=>F (i:Int) != 0).length = 0 from h);rw [List.filter_eq_nil_iff] at this;simpa using this i hi
 unfold smF;rw [List.map_congr_left h1];clear h1 h hs
 induction V with
 | zero=>rfl
 | succ V ih=>rw [List.range_succ,List.map_append,List.sum_append,ih];rfl
theorem Ze5 {F:Int -> Int} {V:Nat} (h:kdF F V = V) {i:Nat} (hi:i < V):F (i:Int) ≠ 0:=by
 have h1:((List.range V).filter fun i:Nat=>F (i:Int) != 0).length = (List.range V).length:=by rw [List.length_range];exact h
 have:=(List.length_filter_eq_length_iff.1 h1) i (List.mem_range.2 hi);simpa using this
theorem ZeA {p:Nat -> Rat} {on:Nat -> Bool}:∀ {n i:Nat},(∀ j,j < n -> 0 < p j) -> i < n -> on i = true -> 0 < pS p on n
 | 0,_,_,hi,_=>absurd hi (by omega)
 | n + 1,i,h,hi,ho=>by
  have hnn : 0 <= pS p on n:=by
   have h':∀ j,j < n -> 0 < p j:=fun j hj=>h j (by omega);clear h hi
   induction n with
   | zero=>simp [pS]
   | succ n ih=>
    have h1:=ih (fun j hj=>h' j (by omega));have h2:=h' n (by omega);unfold pS;split <;> grind
  have hp:=h n (by omega);unfold pS;by_cases e:i = n
  ·subst e;rw [if_pos ho];grind
  ·have h1:=ZeA (fun j hj=>h j (by omega)) (show i < n by omega) ho;split <;> grind
theorem ZcX {ct:Ct} {V:Nat} (h:CtOk ct V) (hV : 0 < V) {q:Rat} (hq : 0 < q /\ q < 1):∀ n hs i,i < V -> 0 < ZbA ct V q n hs i
 | 0,_,_,_=>by
  show (0:Rat) < ((1:Int):Rat) * (((V:Nat):Int):Rat)⁻¹;have h1:(0:Rat) < (((V:Nat):Int):Rat):=by exact_mod_cast hV
  exact Rat.mul_pos (by decide) (Rat.inv_pos.2 h1)
 | n + 1,hs,i,hi=>by
  have hF:=h.bd (n + 1) (kOf hs);have ih:=ZcX h hV hq n (hs.drop 1);unfold ZbA;generalize ct (n + 1) (kOf hs) = F at *
  have hpos:∀ j:Nat,j < V -> 0 < F (j:Int) -> (0:Rat) < ((smF F V:Int):Rat):=fun j hj hp=>by exact_mod_cast ZbN (fun z=>(hF z).1) hj hp
  split
  ·rename_i hk;have h1:=Ze5 hk hi;have h2 : 0 < F (i:Int):=(by have:=(hF i).1;omega);unfold Zar;exact Rat.mul_pos (by exact_mod_cast h2) (Rat.inv_pos.2 (hpos i hi h2))
  ·split
   ·exact ih i hi
   ·rename_i hk hs0;unfold ZdY;split
    ·rename_i h2;have h3:(1:Rat) <= ((F (i:Int):Int):Rat):=(by exact_mod_cast h2);exact Rat.mul_pos (by grind) (Rat.inv_pos.2 (hpos i hi h2))
    ·rename_i h2;have h3:F (i:Int) = 0:=(by have:=(hF i).1;omega);have h4:(0:Rat) < (((kdF F V:Nat):Int):Rat):=(by exact_mod_cast Zhf hs0);have h5 : 0 < smF F V:=by
      have:=Zcv (V:=V) hF;omega
     have h6:(0:Rat) < ((smF F V:Int):Rat):=(by exact_mod_cast h5);have h7 : 0 < pS (ZbA ct V q n (hs.drop 1)) (onZ F) V:=ZeA (fun j hj=>ih j hj) hi (by simp [onZ,h3]);exact Rat.mul_pos (Rat.mul_pos (Rat.mul_pos (Rat.mul_pos hq.1 h4) (Rat.inv_pos.2 h6)) (ih i hi)) (Rat.inv_pos.2 h7)
theorem Zhn {o:Nat} {V:Nat} {T:Tbl} (h:Xz o ((V:Int) - 1) T = 0):CtOk (ctA o T) V where
 bd:=fun j k z=>by
  unfold ctA;split
  ·rename_i hj;have:=ZfH h (o - j) (by omega);rw [show o - (o - j) = j by omega] at this;exact Zhl this k z
  ·exact ⟨Int.le_refl _,(by decide:(0:Int) <= 35184372088832)⟩
 out:=fun j k z hj hz=>by
  unfold ctA;split
  ·rename_i hjo;have:=ZfH h (o - j) (by omega);rw [show o - (o - j) = j by omega] at this;exact Ziu this hj k z (by omega)
  ·rfl
def Zg5 (kd:Int) (o:Nat) (ct:Ct) (V:Nat) (q:Rat) (mx:Nat -> Rat) (h:List Int):Nat -> Rat:=
 if kd = 1 then rwF (ct o) V q (kOf h) else if kd = 2 then Zbz ct V mx h (o + 1) else if kd = 3 then ZbA ct V q o h else Zd8 ct V o h
def ZjW (q:Rat) (w:World) (e:Ending) (w':World):Prop:=∃ r:Fr,e = .returned (.tuple #[r.val,.int .i64 0]) /\ Fq w' r q /\ Below w.heap.size w w'
theorem UC (n d:Int) (w:World) (h1 : -9223372036854775808 <= n /\ n <= 9223372036854775807) (h2 : -9223372036854775808 <= d /\ d <= 9223372036854775807) (h0:d ≠ 0) :
  Calls Tryz.prog 240 #[.int .i64 n,.int .i64 d] w (ZjW ((n:Rat) * (d:Rat)⁻¹) w):=by
 obtain ⟨W,hW⟩:∃ W:World,W = w.alloc (.cells #[.bool false,.slice none 0 0,.slice none 0 0] 31):=⟨_,rfl⟩;have HB0:Hid (Below w.heap.size w W):=zH (by rw [hW];exact bR.alloc nR _);have HBX:Hid (Bt 31 W w.heap.size):=zH (by rw [hW];exact Bt.new 31 w);have C1:=zH (fun u=>Xl n u h1.1 h1.2);have C2:=zH (fun u=>Xl d u h2.1 h2.2);have S1:Hid (Sz (n:Rat) 90000):=zH ((Sz.i64 h1.1 h1.2).mono (by decide));have S2:Hid (Sz (d:Rat) 90000):=zH ((Sz.i64 h2.1 h2.2).mono (by decide));have hd0:Hid ((d:Rat) ≠ 0):=zH (by exact_mod_cast h0);go_enter Tryz.func240,Tryz.ntmps240;go_wp2_with fail;rw [<- hW];clear hW h0 h1 h2;refine (C1.out _).mono ?_;rintro e w1 ⟨x,rfl,hx,hb1⟩;have HX:=zH hx;have X1:=zH (HBX.out.below hb1);have B1:=zH (HB0.out.trans (hb1.mono HB0.out.size));clear hx hb1 HBX HB0 C1;go_wp2_with fail;refine (C2.out _).mono ?_;rintro e w2 ⟨y,rfl,hy,hb2⟩;have C3:=zH (ZcB x y _ _ w2 (HX.out.below hb2).fv hy.fv (HX.out.few S1.out) (hy.few S2.out) hd0.out);have X2:=zH (X1.out.below hb2);have B2:=zH (B1.out.trans (hb2.mono B1.out.size));clear hy hb2 X1 B1 HX C2;go_wp2_with fail;refine C3.out.mono ?_;rintro e w3 ⟨r,rfl,hr,hb3⟩;have HR:=zH hr;have X3:=zH (X2.out.below hb3);have B3:=zH (B2.out.trans (hb3.mono B2.out.size));clear hr hb3 C3 X2 B2;obtain ⟨rn,rA,rc,rN,rB,rd,rD⟩:=r;obtain ⟨k0,k1,k2,f0,f1,f2⟩:=X3.out.facts;go_wp2_with fail;obtain ⟨g0,g1,g2⟩:=Zf (.bool rn) (.slice rA rN.length rc) (.slice rB rD.length rd) k0 k1 k2;refine bodyPost_ret (v:=.tuple #[.agg #[.bool rn,.slice rA rN.length rc,.slice rB rD.length rd],.int .i64 0]) (by simp [results,Tryz.results240,go_sem,g0,g1,g2]) rfl ?_;exact ⟨⟨rn,rA,rc,rN,rB,rd,rD⟩,rfl,J2 HR.out X3.out _ _ _,Jf B3.out (by omega) _ _ _⟩
theorem Zal (S:Value) (V:Nat) (w:World) (hV : 0 < V /\ V <= 100) :
  Calls Tryz.prog 237 #[.agg #[S,.int .i64 (V:Int)]] w (Zaw V (Zbh V) w):=by
 obtain ⟨W0,hW0⟩:∃ X:World,X = w.alloc (.cells #[S,.int .i64 (V:Int)] 256):=⟨_,rfl⟩;have HB0:Hid (Below w.heap.size w W0):=zH (by rw [hW0];exact bR.alloc nR _);have HX0:Hid (W0.heap[w.heap.size]? = some (.cells #[S,.int .i64 (V:Int)] 256 (0,0))):=zH (by rw [hW0];exact heap_alloc_new w _);have hP:∀ u,Below W0.heap.size W0 u -> u.cell? ⟨w.heap.size,1,none⟩ = some (.int .i64 (V:Int)):=fun u hu=>by
  have hh:=(hu.block _ (aE HX0.out).1).trans HX0.out;exact (cR 1 hh).trans rfl
 have HPC:=zH hP;have c1:=hP W0 bR;have hw0:w.heap.size < W0.heap.size:=(aE HX0.out).1;clear hP;go_enter Tryz.func237,Tryz.ntmps237;go_upto_region 1 with fail;rw [<- hW0];clear hW0;obtain ⟨w1,hmk,ho1,hb1⟩:=Zm W0 V (by omega) W0.heap.size nR;obtain ⟨ob,hob⟩:∃ ob,ob = W0.heap.size:=⟨_,rfl⟩;go_upto_region 2 with fail;clear hmk c1;rw [<- hob] at ho1 hb1 ⊢;have HR1:=zH (FRw.made ho1);have HB1:Hid (Below W0.heap.size W0 w1):=zH (by rw [<- hob];exact hb1);have HOB:=zH hob;have hwo:w.heap.size < ob:=by omega
 clear ho1 hb1 hob;have HR1':Hid (FRw w1 ob ob V (Qb 0 (Zbh V) fun _=>((0:Int):Rat))):=zH (by rw [YN];exact HR1.out);have HS1:Hid (Below ob W0 w1):=zH (by rw [HOB.out];exact HB1.out);have HK1:Hid (Kept w1 w1 ob):=zH (Kept.refl _ _);clear HR1;go_wp2_with fail;go_loopw [10] (fun t wr=>∃ i:Nat,i <= V /\ t = .int .i64 (i:Int) /\ Hid (FRw wr ob ob V (Qb i (Zbh V) fun _=>((0:Int):Rat))) /\ Hid (Kept w1 wr ob) /\ Hid (Below ob W0 wr)) (fun t _=>V - (intOf t).toNat)
 case atStart=>exact ⟨0,by omega,rfl,HR1',HK1,HS1⟩
 case round=>
  obtain ⟨i,hi,rfl,HR,HK,HB⟩:=hrel;clear HR1' HK1 HS1;obtain ⟨Wr,rfl⟩:∃ X,X = wr:=⟨_,rfl⟩;by_cases hiV:i < V
  ·have hiV':(i:Int) < (V:Int):=by omega
   have C:=zH (UC 1 (V:Int) Wr (by omega) (by omega) (by omega));have c1:Wr.cell? ⟨w.heap.size,1,none⟩ = some (.int .i64 (V:Int)):=HPC.out Wr (by rw [<- HOB.out];exact HB.out);go_wp2_with fail;refine C.out.mono ?_;rintro e w2 ⟨r,rfl,hr,hb2⟩;have HR2:=zH (HR.out.below hb2);have HQ:Hid (Fq w2 r (Zbh V i)):=zH hr;obtain ⟨r0,-,y0,y1,y2⟩:=HR2.out.get hiV;have z0:=HR2.out.frz (i * 3);have z1:=HR2.out.frz (i * 3 + 1);have z2:=HR2.out.frz (i * 3 + 2);have HB2:=zH hb2;clear hr hb2 c1 C;obtain ⟨rn,rA,rc,rN,rB,rd,rD⟩:=r;obtain ⟨Z,hZ⟩:∃ Z,Z = XD w2 ob i ⟨rn,rA,rc,rN,rB,rd,rD⟩:=⟨_,rfl⟩;have hput:=HR2.out.put hiV HQ.out;rw [<- hZ,YT _ _ _ _ rfl] at hput;obtain ⟨p1,p2,p3⟩:=hput;have HP1:=zH p1;have HK9:Hid (Kept w1 Z ob):=zH ((HK.out.below HB2.out).grown p3);have HB9:Hid (Below ob W0 Z):=zH ((HB.out.trans (HB2.out.mono (by have:=HB.out.size;have:=HR.out.lt;omega))).grown p3 (by have:=HB.out.size;have:=HB2.out.size;have:=HR.out.lt;omega) (fun k e=>by injection e with e;omega));clear p1 p2 p3;unfold XD at hZ;simp only at hZ;go_wp2_with fail;rw [<- hZ];exact ⟨⟨i + 1,by omega,by go_num,HP1,HK9,HB9⟩,by simp [intOf];omega⟩
  ·obtain rfl:i = V:=by omega
   go_wp2_with fail;go_ret;exact ⟨ob,rfl,(HR.out.full).le (by omega),HB0.out.trans (HB.out.mono (by omega))⟩
end Go.Proofs.YtlgdlenoohkipaaGreat
