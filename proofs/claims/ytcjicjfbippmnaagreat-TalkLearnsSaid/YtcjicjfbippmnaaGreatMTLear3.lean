/- TalkLearns -/
import Derived.Test.YtcjicjfbippmnaaGreatMTLear1
set_option maxRecDepth 100000
set_option maxHeartbeats 32000000
namespace Ear

def nd (n:Nat):List Int:=if h:n = 0 then [] else ((n % 4294967296:Nat):Int) :: nd (n / 4294967296)
termination_by n
decreasing_by omega
theorem JC:nd 0 = []:=by rw [nd];simp
theorem YT {n:Nat} (h:n ≠ 0):nd n = ((n % 4294967296:Nat):Int) :: nd (n / 4294967296):=by rw [nd];simp [h]
theorem Jz (n:Nat):vl (nd n) = n:=by
 induction n using Nat.strongRecOn with
 | ind n ih=>
  by_cases h:n = 0
  ·subst h;rw [JC];rfl
  ·rw [YT h,vl,ih _ (by omega)];simp only [BB];omega
theorem JI (n:Nat):dgs (nd n):=by
 induction n using Nat.strongRecOn with
 | ind n ih=>
  by_cases h:n = 0
  ·subst h;rw [JC];intro x hx;simp at hx
  ·rw [YT h];intro x hx;rcases List.mem_cons.1 hx with rfl | hx
   ·omega
   ·exact ih _ (by omega) x hx
def cn (l:List Int):Prop:=l[l.length - 1]?.getD 1 ≠ 0
theorem ZeZ:cn []:=by unfold cn;simp
theorem ZhD {d:Int} {l:List Int} (h:cn (d :: l)):cn l:=by
 unfold cn at *
 cases l with
 | nil=>simp
 | cons e l=>simpa using h
theorem Jy {l:List Int} (h:dgs l) : 0 <= vl l:=(Zc3 h).1
theorem ZaH {d:Int} {l:List Int} (h:dgs (d :: l)):dgs l:=fun x hx=>h x (List.mem_cons_of_mem _ hx)
theorem Zh8 {l:List Int} (hd:dgs l) (hc:cn l):l = nd (vl l).toNat:=by
 induction l with
 | nil=>simp [vl,JC]
 | cons d l ih=>
  have h0:=hd d (List.mem_cons_self ..);have i:=ih (ZaH hd) (ZhD hc);have hv:=Jy (ZaH hd);have hne:(vl (d :: l)).toNat ≠ 0:=by
   cases l with
   | nil=>
    have:d ≠ 0:=(by unfold cn at hc;simpa using hc);simp [vl];omega
   | cons e l=>
    have:(vl (e :: l)).toNat ≠ 0:=by
     intro h;rw [h,JC] at i;cases i
    rw [vl];simp only [BB];omega
  rw [YT hne];have e1:(vl (d :: l)).toNat % 4294967296 = d.toNat:=by rw [vl];simp only [BB];omega
  have e2:(vl (d :: l)).toNat / 4294967296 = (vl l).toNat:=by rw [vl];simp only [BB];omega
  rw [e1,e2,<- i];congr 1;omega
theorem ZiV (n:Nat):cn (nd n):=by
 induction n using Nat.strongRecOn with
 | ind n ih=>
  by_cases h:n = 0
  ·subst h;rw [JC];exact ZeZ
  ·have i:=ih (n / 4294967296) (by omega);rw [YT h];by_cases h2:n / 4294967296 = 0
   ·rw [h2,JC];unfold cn;simp;omega
   ·unfold cn at *
    rw [YT h2] at *
    simpa using i
theorem ZhC {l:List Int} {k:Nat} (h:k = 0 ∨ l[k - 1]?.getD 0 ≠ 0):cn (l.take k):=by
 rcases h with rfl | h
 ·simp;exact ZeZ
 ·have hk:k - 1 < l.length:=by
   rcases Nat.lt_or_ge (k - 1) l.length with h1 | h1
   ·exact h1
   ·rw [List.getElem?_eq_none h1] at h;exact absurd rfl h
  by_cases h0:k = 0
  ·subst h0;simp;exact ZeZ
  ·unfold cn;rw [List.length_take,Nat.min_eq_left (by omega),List.getElem?_take_of_lt (by omega)];rw [List.getElem?_eq_getElem hk] at h ⊢;exact h
theorem ZbR {l:List Int} {k:Nat} (hd:dgs l) (hz:zer l k) (h:k = 0 ∨ l[k - 1]?.getD 0 ≠ 0):l.take k = nd (vl l).toNat:=by
 rw [ZhU hz];exact Zh8 (ZaG hd k) (ZhC h)
theorem JN {n k:Nat} (h:n < 4294967296 ^ k):(nd n).length <= k:=by
 induction k generalizing n with
 | zero=>
  have:n = 0:=by simpa using h
  rw [this,JC];simp
 | succ k ih=>
  by_cases h0:n = 0
  ·rw [h0,JC];simp
  ·rw [YT h0,List.length_cons];have:=ih (n:=n / 4294967296) (by rw [Nat.pow_succ] at h;exact Nat.div_lt_of_lt_mul (by rw [Nat.mul_comm];exact h));omega
theorem Qp (k:Nat):BB ^ k = ((4294967296 ^ k:Nat):Int):=by simp [BB]
theorem Vi (n:Nat):n < 4294967296 ^ (nd n).length:=by
 have h:=(Zc3 (JI n)).2;rw [Jz,Qp] at h;omega
theorem Zh9 {n:Nat} (h0:n ≠ 0) : 4294967296 ^ ((nd n).length - 1) <= n:=by
 rcases Nat.lt_or_ge n (4294967296 ^ ((nd n).length - 1)) with h | h
 ·have h1:=JN h;have:(nd n).length ≠ 0:=by rw [YT h0];simp
  omega
 ·exact h
theorem Zec {n:Nat}:nd n = [] ↔ n = 0:=by
 constructor
 ·intro h;have:=Jz n;rw [h] at this;simp [vl] at this;omega
 ·rintro rfl;exact JC
theorem Jw {n:Nat}:(nd n).length = 0 ↔ n = 0:=by rw [List.length_eq_zero_iff];exact Zec
theorem Zgz {n m:Nat} (h:nd n = nd m):n = m:=by
 have h1:=Jz n;have h2:=Jz m;rw [h] at h1;omega
theorem Jm {n m:Nat} (h:n <= m):(nd n).length <= (nd m).length:=JN (Nat.lt_of_le_of_lt h (Vi m))
theorem JQ (n m:Nat):(nd (n * m)).length <= (nd n).length + (nd m).length:=by
 apply JN;rw [Nat.pow_add];exact Nat.mul_lt_mul'' (Vi n) (Vi m)
theorem XK (n m k:Nat) (h1:(nd n).length <= k) (h2:(nd m).length <= k):(nd (n + m)).length <= k + 1:=by
 apply JN;have a:=Vi n;have b:=Vi m;have c:=Nat.pow_le_pow_right (show 0 < 4294967296 by decide) h1;have d:=Nat.pow_le_pow_right (show 0 < 4294967296 by decide) h2;rw [Nat.pow_succ];omega
theorem Vj {n m:Nat} (h:(nd n).length < (nd m).length):n < m:=by
 rcases Nat.lt_or_ge n m with h1 | h1
 ·exact h1
 ·have:=Jm h1;omega
theorem ZM:nd 1 = [1]:=by rw [YT (by decide)];simp [JC]
theorem Zct {a b:List Int} (ha:dgs a) (hb:dgs b) (hl:a.length = b.length) {i:Nat} (hi:i < a.length) (hd:a.drop (i + 1) = b.drop (i + 1)) (h:a[i]?.getD 0 < b[i]?.getD 0):vl a < vl b:=by
 have key:∀ l:List Int,i < l.length -> vl l = vl (l.take i) + BB ^ i * (l[i]?.getD 0 + BB * vl (l.drop (i + 1))):=by
  intro l hl
  conv=>lhs;rw [<- List.take_append_drop i l]
  rw [YO,List.length_take,Nat.min_eq_left (by omega),List.drop_eq_getElem_cons hl,vl,List.getElem?_eq_getElem hl];rfl
 rw [key a hi,key b (by omega),hd];have t1:=(Zc3 (ZaG ha i)).2;have t2:=(Zc3 (ZaG hb i)).1;have hlen:(a.take i).length = i:=by simp;omega
 rw [hlen] at t1;have m:BB ^ i * (a[i]?.getD 0 + 1 + BB * vl (b.drop (i + 1))) <= BB ^ i * (b[i]?.getD 0 + BB * vl (b.drop (i + 1))):=Int.mul_le_mul_of_nonneg_left (by omega) (Int.le_of_lt (ZiF i));have e:BB ^ i * (a[i]?.getD 0 + 1 + BB * vl (b.drop (i + 1))) = BB ^ i * (a[i]?.getD 0 + BB * vl (b.drop (i + 1))) + BB ^ i:=by
  rw [show a[i]?.getD 0 + 1 + BB * vl (b.drop (i + 1)) = (a[i]?.getD 0 + BB * vl (b.drop (i + 1))) + 1 by omega,Int.mul_add,Int.mul_one]
 omega
def Ux (n m:Nat):Int:=if n < m then -1 else if n = m then 0 else 1
theorem YL {n m:Nat} (h:n < m):Ux n m = -1:=by simp [Ux,h]
theorem Yu {n m:Nat} (h:m < n):Ux n m = 1:=by unfold Ux;rw [if_neg (by omega),if_neg (by omega)]
theorem YN {n m:Nat} (h:n = m):Ux n m = 0:=by unfold Ux;rw [if_neg (by omega),if_pos h]
theorem Zby {a b:List Int} {i:Nat} (hl:a.length = b.length) (h:a.drop (i + 1) = b.drop (i + 1)) (he:a[i]?.getD 0 = b[i]?.getD 0):a.drop i = b.drop i:=by
 by_cases hi:i < a.length
 ·rw [List.drop_eq_getElem_cons hi,List.drop_eq_getElem_cons (show i < b.length by omega),h];rw [List.getElem?_eq_getElem hi,List.getElem?_eq_getElem (show i < b.length by omega)] at he;simp at he;rw [he]
 ·rw [List.drop_eq_nil_of_le (by omega),List.drop_eq_nil_of_le (by omega)]
structure PlusAt (a b out:List Int) (i:Nat) (c:Int):Prop where
 len:out.length = i
 dig:dgs out
 c0 : 0 <= c
 c1:c <= 1
 val:vl out + BB ^ i * c = vl (a.take i) + vl (b.take i)
theorem YC (l:List Int) (k:Nat):vl (l.take (k + 1)) = vl (l.take k) + BB ^ k * l[k]?.getD 0:=by
 by_cases hk:k < l.length
 ·exact YB l k hk
 ·rw [List.take_of_length_le (by omega),List.take_of_length_le (by omega),List.getElem?_eq_none (by omega)];simp
theorem PlusAt.start (a b:List Int):PlusAt a b [] 0 0:=⟨rfl,fun x hx=>by simp at hx,by omega,by omega,by simp [vl]⟩
theorem PlusAt.next {a b out:List Int} {i:Nat} {c:Int} (h:PlusAt a b out i c) (ha:dgs a) (hb:dgs b) {t:Int} (ht:t = c + a[i]?.getD 0 + b[i]?.getD 0):PlusAt a b (out ++ [t % 4294967296]) (i + 1) (t / 4294967296):=by
 have h1:=JG ha i;have h2:=JG hb i;have h3:=h.c0;have h4:=h.c1;refine ⟨by simp [h.len],?_,by omega,by omega,?_⟩
 ·intro x hx;rcases List.mem_append.1 hx with hx | hx
  ·exact h.dig x hx
  ·simp at hx;omega
 ·rw [YO,h.len,YC,YC];have hv:=h.val;simp only [vl,Int.mul_zero,Int.add_zero];have e1:BB ^ (i + 1) * (t / 4294967296) = BB ^ i * (BB * (t / 4294967296)):=by rw [Int.pow_succ,Int.mul_assoc]
  have e2:BB * (t / 4294967296) = t - t % 4294967296:=by simp only [BB];omega
  rw [e1,e2,Int.mul_sub,ht,Int.mul_add,Int.mul_add];omega
theorem PlusAt.done {a b out:List Int} {i:Nat} (h:PlusAt a b out i 0) (ha:a.length <= i) (hb:b.length <= i):vl out = vl a + vl b:=by
 have:=h.val;rw [List.take_of_length_le ha,List.take_of_length_le hb] at this;simpa using this
structure MinusAt (a b out:List Int) (i:Nat) (c:Int):Prop where
 len:out.length = i
 dig:dgs out
 c0 : 0 <= c
 c1:c <= 1
 val:vl out - BB ^ i * c = vl (a.take i) - vl (b.take i)
theorem MinusAt.start (a b:List Int):MinusAt a b [] 0 0:=⟨rfl,fun x hx=>by simp at hx,by omega,by omega,by simp [vl]⟩
theorem MinusAt.next {a b out:List Int} {i:Nat} {c d t:Int} (h:MinusAt a b out i c) (hd0 : 0 <= d) (hd1:d <= 1) (ht:t = a[i]?.getD 0 - (c + b[i]?.getD 0) + 4294967296 * d) (h0 : 0 <= t) (h1:t <= 4294967295):MinusAt a b (out ++ [t]) (i + 1) d:=by
 refine ⟨by simp [h.len],?_,hd0,hd1,?_⟩
 ·intro x hx;rcases List.mem_append.1 hx with hx | hx
  ·exact h.dig x hx
  ·simp at hx;omega
 ·rw [YO,h.len,YC,YC];have hv:=h.val;simp only [vl,Int.mul_zero,Int.add_zero];have e1:BB ^ (i + 1) * d = BB ^ i * (4294967296 * d):=by rw [Int.pow_succ,Int.mul_assoc]
  rw [e1,ht,Int.mul_add,Int.mul_sub,Int.mul_add];omega
theorem MinusAt.done {a b out:List Int} {c:Int} (h:MinusAt a b out a.length c) (hl:b.length <= a.length) (hle:vl b <= vl a):vl out = vl a - vl b:=by
 have hv:=h.val;rw [List.take_of_length_le (Nat.le_refl _),List.take_of_length_le hl] at hv;have bd:=(Zc3 h.dig).2;rw [h.len] at bd;have h3:=h.c0;have h4:=h.c1;rcases (show c = 0 ∨ c = 1 by omega) with rfl | rfl
 ·simpa using hv
 ·exfalso;rw [Int.mul_one] at hv;omega
structure MulIn (a b out:List Int) (i j:Nat) (c:Int):Prop where
 len:out.length = a.length + b.length
 dig:dgs out
 zer:zer out (i + b.length)
 c0 : 0 <= c
 c1:c <= 4294967295
 val:vl out + BB ^ (i + j) * c = vl (a.take i) * vl b + BB ^ i * (a[i]?.getD 0 * vl (b.take j))
structure MulOut (a b out:List Int) (i:Nat):Prop where
 len:out.length = a.length + b.length
 dig:dgs out
 zer:zer out (i + b.length)
 val:vl out = vl (a.take i) * vl b
theorem Z7 (n k:Nat):zer (List.replicate n 0) k:=by
 intro q _;by_cases hq:q < n
 ·rw [List.getElem?_eq_getElem (by simpa using hq)];simp
 ·rw [List.getElem?_eq_none (by simpa using Nat.le_of_not_lt hq)];rfl
theorem MulOut.start (a b:List Int):MulOut a b (List.replicate (a.length + b.length) 0) 0:=
 ⟨by simp,J2 _,Z7 _ _,by rw [J9];simp [vl]⟩
theorem MulOut.enter {a b out:List Int} {i:Nat} (h:MulOut a b out i):MulIn a b out i 0 0:=
 ⟨h.len,h.dig,h.zer,by omega,by omega,by rw [h.val];simp [vl]⟩
theorem MulIn.next {a b out:List Int} {i j:Nat} {c:Int} (h:MulIn a b out i j c) (ha:dgs a) (hb:dgs b) (hi:i < a.length) (hj:j < b.length) {t:Int} (ht:t = c + (out[i + j]?.getD 0 + a[i]?.getD 0 * b[j]?.getD 0)) :
  MulIn a b (out.set (i + j) (t % 4294967296)) i (j + 1) (t / 4294967296):=by
 have hx:=JG ha i;have hy:=JG hb j;have hp:=ZdT hx hy;have ho:=JG h.dig (i + j);have h0:=h.c0;have h1:=h.c1;refine ⟨by simp [h.len],Zo h.dig _ (by omega) (by omega),?_,by omega,by omega,?_⟩
 ·intro q hq;rw [List.getElem?_set_ne (by omega)];exact h.zer q hq
 ·rw [QK _ _ _ (by rw [h.len];omega),YB b j hj];have hv:=h.val;have e1:BB ^ (i + (j + 1)) * (t / 4294967296) = BB ^ (i + j) * (BB * (t / 4294967296)):=by
   rw [<- Nat.add_assoc,Int.pow_succ,Int.mul_assoc]
  have e2:BB * (t / 4294967296) = t - t % 4294967296:=by simp only [BB];omega
  have e3:BB ^ i * (a[i]?.getD 0 * (vl (b.take j) + BB ^ j * b[j]?.getD 0)) = BB ^ i * (a[i]?.getD 0 * vl (b.take j)) + BB ^ (i + j) * (a[i]?.getD 0 * b[j]?.getD 0):=by
   rw [Int.mul_add,Int.mul_add,Int.pow_add];congr 1;rw [Int.mul_assoc,<- Int.mul_assoc (a[i]?.getD 0),Int.mul_comm (a[i]?.getD 0) (BB ^ j),Int.mul_assoc]
  rw [e1,e2,e3];have e4:BB ^ (i + j) * (t % 4294967296 - out[i + j]?.getD 0) + BB ^ (i + j) * (t - t % 4294967296) = BB ^ (i + j) * c + BB ^ (i + j) * (a[i]?.getD 0 * b[j]?.getD 0):=by
   rw [<- Int.mul_add,<- Int.mul_add];congr 1;omega
  omega
theorem MulIn.leave {a b out:List Int} {i:Nat} {c:Int} (h:MulIn a b out i b.length c) (hi:i < a.length):MulOut a b (out.set (i + b.length) c) (i + 1):=by
 refine ⟨by simp [h.len],Zo h.dig _ h.c0 h.c1,?_,?_⟩
 ·intro q hq;rw [List.getElem?_set_ne (by omega)];exact h.zer q (by omega)
 ·have hv:=h.val;rw [List.take_length] at hv;rw [QK _ _ _ (by rw [h.len];omega),h.zer _ (Nat.le_refl _),YB a i hi,Int.sub_zero,hv,Int.add_mul,Int.mul_assoc]
theorem MulOut.done {a b out:List Int} (h:MulOut a b out a.length):vl out = vl a * vl b:=by
 rw [h.val,List.take_length]
end Ear
namespace Go.Proofs.YtcjicjfbippmnaaGreat
open Go.RowKit Ear

theorem Vy (w:World) (a b c:Nat):∃ n,((w.drewN a).drewN b).drewN c = w.drewN n:=⟨a + (b + c),by rw [World.drewN_drewN,World.drewN_drewN]⟩
theorem ZbJ (l:List Int):zer l l.length:=fun q hq=>by rw [List.getElem?_eq_none hq];rfl
theorem Zaf {l:List Int} {n:Nat} (hn : 0 < n) (h:zer l n) (hx:l[n - 1]?.getD 0 = 0):zer l (n - 1):=fun q hq=>by
 by_cases e:q = n - 1
 ·subst e;exact hx
 ·exact h q (by omega)
theorem Lies.ndl {w:World} {A:Option Addr} {l:List Int} (h:Lies w A (ucs l)) (hd:dgs l) {v:Nat} (hv:vl l = v):Lies w A (ucs (nd v)):=by
 have key:∀ k,∀ l:List Int,l.length = k -> dgs l -> ∃ m,m <= l.length /\ zer l m /\ (m = 0 ∨ l[m - 1]?.getD 0 ≠ 0):=by
  intro k l hk _;have:∀ m,m <= l.length -> zer l m -> ∃ m,m <= l.length /\ zer l m /\ (m = 0 ∨ l[m - 1]?.getD 0 ≠ 0):=by
   intro m
   induction m with
   | zero=>intro h1 h2;exact ⟨0,h1,h2,.inl rfl⟩
   | succ m ih=>
    intro h1 h2;by_cases hx:l[m]?.getD 0 = 0
    ·exact ih (by omega) (Zaf (by omega) h2 hx)
    ·exact ⟨m + 1,h1,h2,.inr hx⟩
  exact this l.length nR (ZbJ l)
 obtain ⟨m,_,hz,hm⟩:=key l.length l rfl hd;have e:=ZbR hd hz hm;rw [hv,Int.toNat_natCast] at e;rw [<- e];have h2:=h.take m
 rwa [show (ucs l).take m = ucs (l.take m) from List.map_take.symm] at h2
theorem JD {l:List Int} (hd:dgs l) {v:Nat} (hv:vl l = v):(nd v).length <= l.length:=by
 apply JN;have:=(Zc3 hd).2;rw [hv,Qp] at this;omega
theorem JO (A:Option Addr) (c:Nat) (l:List Int) (w:World) (h:Lies w A (ucs l)) (hd:Hid (dgs l)) (hlc:l.length <= c) (hn:l.length <= 9223372036854775807) (v:Nat) (hv:Hid (vl l = v)) :
  Calls Tryz.prog 71 #[.slice A l.length c] w fun e w'=>e = .returned (.slice A (nd v).length c) /\ w = w':=by
 have HZ:=zH (ZbJ l);go_enter Tryz.func71,Tryz.ntmps71;go_wp2;go_loop [3] (fun i=>∃ k:Nat,k <= l.length /\ i = .int .i64 k /\ Hid (zer l k)) (fun i=>(intOf i).toNat)
 case atStart=>exact ⟨_,Nat.le_refl _,rfl,HZ⟩
 case round=>
  obtain ⟨k,hk,rfl,hz⟩:=hrel;clear HZ;have fin:∀ (hm:k = 0 ∨ l[k - 1]?.getD 0 ≠ 0),Hid ((nd v).length = k):=fun hm=>zH (by
   have e:=ZbR hd.out hz.out hm;rw [hv.out,Int.toNat_natCast] at e;rw [<- e,List.length_take];omega)
  have FIN:=zH fin;clear fin;by_cases h0:k = 0
  ·subst h0;have F:=FIN.out (.inl rfl);go_wp2_with fail;go_ret;exact ⟨by rw [F.out];rfl,rfl⟩
  ·obtain ⟨b,off,rfl,hb,hc⟩:=h.uat (k:=k - 1) (by omega);have i0:((k:Int) - 1).toNat = k - 1:=(by omega);by_cases hx:l[k - 1]?.getD 0 = 0
   ·have HZ1:=zH (Zaf (by omega) hz.out hx);rw [hx] at hc;clear hx;go_wp2_with fail;exact ⟨⟨k - 1,by omega,by go_num,HZ1⟩,by simp [intOf];omega⟩
   ·have F:=FIN.out (.inr hx);have hd1:=JG hd.out (k - 1);generalize hx1:l[k - 1]?.getD 0 = x at *
    have HX:=zH hx1;clear hx1;have q:(x == 0) = false:=(by simpa using hx);have hkc:k <= c:=(by omega);go_wp2_with fail;go_ret;exact ⟨by rw [F.out];rfl,rfl⟩
theorem VW (A:Option Addr) (c n:Nat) (w:World) (h:Lies w A (ucs (nd n))) (hn:(nd n).length <= 9223372036854775807) (b:Bool) (hb:Hid (decide (n = 1) = b)) :
  Calls Tryz.prog 145 #[.slice A (nd n).length c] w fun e w'=>e = .returned (.bool b) /\ w = w':=by
 by_cases h1:(nd n).length = 1
 ·have hn0:n ≠ 0:=by rintro rfl;rw [JC] at h1;simp at h1
  have e:=YT hn0;have e2:n / 4294967296 = 0:=by
   have:=h1;rw [e,List.length_cons] at this;exact Jw.1 (by omega)
  obtain ⟨bk,off,rfl,hbk,hc⟩:=h.uat (k:=0) (by omega);rw [e] at hc;simp only [List.getElem?_cons_zero,Option.getD_some,Nat.add_zero] at hc;have hlt:n % 4294967296 = n:=by omega
  rw [hlt] at hc;have HB:Hid (b = decide ((n:Int) = 1)):=zH (by rw [<- hb.out];simp;omega);have HL:=zH h1;rw [h1];have b1:n < 4294967296:=by omega
  clear e e2 hlt h1;go_enter Tryz.func145,Tryz.ntmps145;go_wp2_with fail;go_ret;exact ⟨Jr (by rw [HB.out];rfl),rfl⟩
 ·have HB:Hid (b = false):=zH (by
   rw [<- hb.out];simp;rintro rfl;exact h1 (by rw [ZM];rfl))
  have q:(((nd n).length:Int) == 1) = false:=by simp;omega
  generalize (nd n).length = m at *
  go_enter Tryz.func145,Tryz.ntmps145;go_wp2_with fail;go_ret;exact ⟨Jr (by rw [HB.out]),rfl⟩
theorem YS (A B:Option Addr) (c d:Nat) (a b:List Int) (w:World) (hA:Lies w A (ucs a)) (hB:Lies w B (ucs b)) (da:Hid (dgs a)) (db:Hid (dgs b)) (hac:a.length <= c) (hbd:b.length <= d) (hn:a.length <= 9223372036854775807) (hm:b.length <= 9223372036854775807)
  (x y:Nat) (hx:Hid (vl a = x)) (hy:Hid (vl b = y)) (r:Int) (hr:Hid (Ux x y = r)) :
  Calls Tryz.prog 123 #[.slice A a.length c,.slice B b.length d] w (Zi1 r w):=by
 have LA:=zH (hA.ndl da.out hx.out);have LB:=zH (hB.ndl db.out hy.out);have na:=JD da.out hx.out;have nb:=JD db.out hy.out;have nx:(nd x).length <= 9223372036854775807:=by omega
 have ny:(nd y).length <= 9223372036854775807:=by omega
 clear na nb;go_enter Tryz.func123,Tryz.ntmps123;go_wp2_with fail;refine (JO A c a w hA da hac hn x hx).mono ?_;rintro e w' ⟨rfl,rfl⟩;go_wp2_with fail;refine (JO B d b w hB db hbd hm y hy).mono ?_;rintro e w' ⟨rfl,rfl⟩;by_cases h1:(nd x).length < (nd y).length
 ·have HR:Hid (r = -1):=zH (by rw [<- hr.out];exact YL (Vj h1));have q:(((nd x).length:Int) != (nd y).length) = true:=by simp;omega
  generalize (nd x).length = m at *
  generalize (nd y).length = n at *
  go_wp2_with fail;go_ret;exact ⟨JX (by rw [HR.out]),0,rfl⟩
 ·by_cases h2:(nd y).length < (nd x).length
  ·have HR:Hid (r = 1):=zH (by rw [<- hr.out];exact Yu (Vj h2));have q:(((nd x).length:Int) != (nd y).length) = true:=(by simp;omega);generalize (nd x).length = m at *
   generalize (nd y).length = n at *
   go_wp2_with fail;go_ret;exact ⟨JX (by rw [HR.out]),0,rfl⟩
  ·have hl:(nd y).length = (nd x).length:=by omega
   have DX:=zH (JI x);have DY:=zH (JI y);have VX:=zH (Jz x);have VY:=zH (Jz y);have LX:=LA.out;have LY:=LB.out;clear LA LB h1 h2;generalize nd x = xs at *
   generalize nd y = ys at *
   have HL:=zH hl;rw [hl] at ny ⊢;clear hl;go_wp2_with fail;go_loopw [5] (fun i wr=>∃ k:Nat,k <= xs.length /\ i = .int .i64 ((k:Int) - 1) /\ Hid (xs.drop k = ys.drop k) /\ ∃ n,wr = w.drewN n) (fun i _=>(intOf i + 1).toNat)
   case atStart=>exact ⟨xs.length,Nat.le_refl _,rfl,zH (by rw [List.drop_eq_nil_of_le nR,List.drop_eq_nil_of_le (by rw [HL.out];exact Nat.le_refl _)]),0,rfl⟩
   case round=>
    obtain ⟨k,hk,rfl,hdr,n,hwd⟩:=hrel;have L1:Lies wr A (ucs xs):=(by rw [hwd];exact LX.drewN n);have L2:Lies wr B (ucs ys):=(by rw [hwd];exact LY.drewN n);have WD:=zH hwd;clear hwd;by_cases h0:k = 0
    ·subst h0;have HR:Hid (r = 0):=zH (by
      have e:xs = ys:=(by simpa using hdr.out);have h1:=VX.out;rw [e,VY.out] at h1;rw [<- hr.out];exact YN (by omega))
     go_wp2_with fail;go_ret;exact ⟨JX (by rw [HR.out]),n,WD.out⟩
    ·obtain ⟨b1,o1,rfl,hb1,hc1⟩:=L1.uat (k:=k - 1) (by omega);obtain ⟨b2,o2,rfl,hb2,hc2⟩:=L2.uat (k:=k - 1) (by rw [HL.out];omega);have i0:((k:Int) - 1).toNat = k - 1:=(by omega);have d1:=JG DX.out (k - 1);have d2:=JG DY.out (k - 1);have ek:k - 1 + 1 = k:=(by omega);have lt1:xs[k - 1]?.getD 0 < ys[k - 1]?.getD 0 -> Hid (r = -1):=fun hlt=>zH (by
      have:=Zct DX.out DY.out HL.out.symm (i:=k - 1) (by omega) (by rw [ek];exact hdr.out) hlt;rw [VX.out,VY.out] at this;rw [<- hr.out];exact YL (by omega))
     have gt1:ys[k - 1]?.getD 0 < xs[k - 1]?.getD 0 -> Hid (r = 1):=fun hlt=>zH (by
      have:=Zct DY.out DX.out HL.out (i:=k - 1) (by rw [HL.out];omega) (by rw [ek];exact hdr.out.symm) hlt;rw [VX.out,VY.out] at this;rw [<- hr.out];exact Yu (by omega))
     have eq1:xs[k - 1]?.getD 0 = ys[k - 1]?.getD 0 -> Hid (xs.drop (k - 1) = ys.drop (k - 1)):=fun he=>zH (Zby HL.out.symm (by rw [ek];exact hdr.out) he);have LT:=zH lt1;have GT:=zH gt1;have EQ:=zH eq1;clear lt1 gt1 eq1 ek;generalize xs[k - 1]?.getD 0 = u at *
     generalize ys[k - 1]?.getD 0 = v at *
     by_cases hlt:u < v
     ·have HR:=LT.out hlt;have q:(u != v) = true:=(by simp;omega);clear LT GT EQ;go_wp2_with fail;go_quiet (fail);go_wp2_with fail;go_quiet (fail);go_wp2_with fail;go_ret;exact ⟨JX (by rw [HR.out]),by rw [WD.out];exact Vy _ _ _ _⟩
     ·by_cases hgt:v < u
      ·have HR:=GT.out hgt;have q:(u != v) = true:=(by simp;omega);clear LT GT EQ;go_wp2_with fail;go_quiet (fail);go_wp2_with fail;go_quiet (fail);go_wp2_with fail;go_ret;exact ⟨JX (by rw [HR.out]),by rw [WD.out];exact Vy _ _ _ _⟩
      ·have he:u = v:=(by omega);have HD:=EQ.out he;subst he;clear LT GT EQ hlt hgt;go_wp2_with fail;go_quiet (fail);go_wp2_with fail;exact ⟨⟨k - 1,by omega,by go_num,HD,by rw [WD.out];exact ZD _ _ _⟩,by simp [intOf];omega⟩
theorem Jb {B:Nat} (w:World) (n:Nat):Below B w (w.drewN n):=⟨rfl,rfl,rfl,Nat.le_refl _,fun _ _=>rfl⟩
theorem ZU (l:List Int):∀ u ∈ ucs l,u.oneCell' = true:=by
 intro u hu;obtain ⟨x,_,rfl⟩:=List.mem_map.1 hu;rfl
theorem Xf (a b:List Int):ucs (a ++ b) = ucs a ++ ucs b:=List.map_append
def Zb (n:Nat) (w:World) (e:Ending) (w':World):Prop:=
 ∃ A c,e = .returned (.slice A (nd n).length c) /\ Lies w' A (ucs (nd n)) /\ (nd n).length <= c /\ (A = none -> c = 0) /\ Below w.heap.size w w'
theorem XE (w:World) (v:Value) (t:TypeId):Lies (w.alloc (.cells #[v] t)) (some ⟨w.heap.size,0,none⟩) [v]:=fun _=>⟨w.heap.size,0,rfl,by simp,fun k u hu=>by
 rw [Nat.zero_add,cell_of_row _ _ k _ _ _ (heap_alloc_new w _)];simpa using hu⟩
theorem Xp {w:World} {base:Nat} {e:TypeId} {size n c:Nat} {A:Option Addr} {xs:List Value} (h:w.ownsRow base e size (.slice A n c) n xs):n <= c /\ (A = none -> c = 0):=by
 rcases h.2 with ⟨hv,hx⟩ | ⟨g,cap,cur,hv,_,hg,hcur,hle,rest⟩
 ·injection hv with e1 e2 e3
  subst e1 e2 e3;exact ⟨Nat.le_refl _,fun _=>rfl⟩
 ·injection hv with e1 e2 e3
  subst e1 e3;exact ⟨by first | exact hle | omega,fun h=>by cases h⟩
def RetNw (n:Nat) (w:World) (e:Ending) (w':World):Prop:=
 ∃ A c,e = .returned (.slice A (nd n).length c) /\ Lies w' A (ucs (nd n)) /\ (nd n).length <= c /\ (A = none -> c = 0) /\ Below w.heap.size w w' /\ (∀ ad,A = some ad -> w.heap.size <= ad.block)
theorem RetNw.nd {n:Nat} {w w':World} {e:Ending} (h:RetNw n w e w'):Zb n w e w':=by
 obtain ⟨A,c,h1,h2,h3,h4,h5,_⟩:=h;exact ⟨A,c,h1,h2,h3,h4,h5⟩
theorem ZfO {w:World} {base:Nat} {e:TypeId} {size n c:Nat} {A:Option Addr} {xs:List Value} (h:w.ownsRow base e size (.slice A n c) n xs):∀ ad,A = some ad -> base <= ad.block:=by
 intro ad hA;rcases h.2 with ⟨hv,_⟩ | ⟨g,cap,cur,hv,hg,_⟩
 ·cases hv;cases hA
 ·cases hv;cases hA;exact hg
theorem UR (A B:Option Addr) (c d:Nat) (a b:List Int) (w:World) (hA:Lies w A (ucs a)) (hB:Lies w B (ucs b)) (da:Hid (dgs a)) (db:Hid (dgs b)) (hl:b.length <= a.length) (hn:a.length <= 1000000)
  (v:Nat) (hv:Hid (vl a - vl b = v)) :
  Calls Tryz.prog 124 #[.slice A a.length c,.slice B b.length d] w (RetNw v w):=by
 obtain ⟨j0,hj0,ky0,ky1,ky2⟩:=info_parts XP;have KI:=zH hj0;have KZ0:=zH ky0;have KZ1:=zH ky1;have KZ2:=zH ky2;clear hj0 ky0 ky1 ky2;have HST:=zH (MinusAt.start a b);go_enter Tryz.func124,Tryz.ntmps124;go_wp2_with fail;go_loopw [5,6,7,8,9] (fun s br i _ _ wr=>∃ k:Nat,k <= a.length /\ i = .int .i64 k /\ ∃ out A' c' q,Hid (MinusAt a b out k q) /\ br = .int .u64 q /\ s = .slice A' k c' /\ wr.ownsRow w.heap.size 173 1 (.slice A' k c') k (ucs out) /\ Below w.heap.size w wr) (fun _ _ i _ _ _=>a.length - (intOf i).toNat)
 case atStart=>exact ⟨0,by omega,rfl,[],none,0,0,HST,rfl,rfl,World.ownsRow_nil _ _ _ _,Below.refl _ _⟩
 case round=>
  obtain ⟨k,hk,rfl,out,A',c',q,HM,rfl,rfl,r1,r2⟩:=hrel;clear HST;have h0:=HM.out.c0;have h1:=HM.out.c1;by_cases hlt:k < a.length
  ·obtain ⟨b1,o1,rfl,hb1,hc1⟩:=(hA.below r2).uat hlt;have d1:=JG da.out k;have d2:=JG db.out k;have HN:=zH (fun d' t (h2 : 0 <= d') (h3:d' <= 1) (h4:t = a[k]?.getD 0 - (q + b[k]?.getD 0) + 4294967296 * d')=>HM.out.next h2 h3 h4);have hs2:w.heap.size <= wr.heap.size:=r2.size;have HB:=zH (hB.below r2);by_cases hkb:k < b.length
   ·obtain ⟨b2,o2,rfl,hb2,hc2⟩:=HB.out.uat hkb;generalize a[k]?.getD 0 = x at *
    generalize b[k]?.getD 0 = y at *
    by_cases hxy:x < q + y
    ·have HX:=HN.out 1 (x + 4294967296 - (q + y)) (by omega) (by omega) (by omega) (by omega) (by omega);have HX':=zH HX;clear HX HN;go_wp2_with (at_builtin;refine Jh _ rfl (.tmp 38) (.tmp 43) _ rfl w.heap.size 173 j0 _ 1 4 Tryz.underlying26 KI.out KZ0.out KZ1.out KZ2.out rfl (by omega) (.slice A' k c') k (ucs out) rfl (r1.alloc _) (some ⟨wr.heap.size,0,none⟩) 1 1 [Value.int .u32 (x + 4294967296 - (q + y))] rfl (fun e=>by cases e) (XE _ _ _) (by simp) (by simp [Value.oneCell']) (by unfold maxLen;omega) (by omega) (by simp;omega) (k + 1) rfl ?_;intro A4 c4 w4 ho4 hg4 _);have hbel:Below w.heap.size w w4:=(r2.alloc hs2 _).grown hg4 (by simp;omega) (fun k hk=>(r1.lt k hk).1);exact ⟨⟨k + 1,by omega,by go_num,_,A4,c4,1,HX',rfl,rfl,by rw [Xf];exact ho4,hbel⟩,by simp [intOf];omega⟩
    ·have HX:=HN.out 0 (x - (q + y) + 4294967296 * 0) (by omega) (by omega) rfl (by omega) (by omega);have HX':=zH HX;clear HX HN;go_wp2_with (at_builtin;refine Jh _ rfl (.tmp 38) (.tmp 43) _ rfl w.heap.size 173 j0 _ 1 4 Tryz.underlying26 KI.out KZ0.out KZ1.out KZ2.out rfl (by omega) (.slice A' k c') k (ucs out) rfl (r1.alloc _) (some ⟨wr.heap.size,0,none⟩) 1 1 [Value.int .u32 (x - (q + y))] rfl (fun e=>by cases e) (XE _ _ _) (by simp) (by simp [Value.oneCell']) (by unfold maxLen;omega) (by omega) (by simp;omega) (k + 1) rfl ?_;intro A4 c4 w4 ho4 hg4 _);have hbel:Below w.heap.size w w4:=(r2.alloc hs2 _).grown hg4 (by simp;omega) (fun k hk=>(r1.lt k hk).1);exact ⟨⟨k + 1,by omega,by go_num,_,A4,c4,0,HX',rfl,rfl,by rw [Xf];simpa using ho4,hbel⟩,by simp [intOf];omega⟩
   ·have ey:b[k]?.getD 0 = 0:=(by rw [List.getElem?_eq_none (by omega)];rfl);rw [ey] at HN;clear ey d2;generalize a[k]?.getD 0 = x at *
    by_cases hxy:x < q
    ·have HX:=HN.out 1 (x + 4294967296 - q) (by omega) (by omega) (by omega) (by omega) (by omega);have HX':=zH HX;clear HX HN;go_wp2_with (at_builtin;refine Jh _ rfl (.tmp 38) (.tmp 43) _ rfl w.heap.size 173 j0 _ 1 4 Tryz.underlying26 KI.out KZ0.out KZ1.out KZ2.out rfl (by omega) (.slice A' k c') k (ucs out) rfl (r1.alloc _) (some ⟨wr.heap.size,0,none⟩) 1 1 [Value.int .u32 (x + 4294967296 - q)] rfl (fun e=>by cases e) (XE _ _ _) (by simp) (by simp [Value.oneCell']) (by unfold maxLen;omega) (by omega) (by simp;omega) (k + 1) rfl ?_;intro A4 c4 w4 ho4 hg4 _);have hbel:Below w.heap.size w w4:=(r2.alloc hs2 _).grown hg4 (by simp;omega) (fun k hk=>(r1.lt k hk).1);exact ⟨⟨k + 1,by omega,by go_num,_,A4,c4,1,HX',rfl,rfl,by rw [Xf];exact ho4,hbel⟩,by simp [intOf];omega⟩
    ·have HX:=HN.out 0 (x - (q + 0) + 4294967296 * 0) (by omega) (by omega) rfl (by omega) (by omega);have HX':=zH HX;clear HX HN;go_wp2_with (at_builtin;refine Jh _ rfl (.tmp 38) (.tmp 43) _ rfl w.heap.size 173 j0 _ 1 4 Tryz.underlying26 KI.out KZ0.out KZ1.out KZ2.out rfl (by omega) (.slice A' k c') k (ucs out) rfl (r1.alloc _) (some ⟨wr.heap.size,0,none⟩) 1 1 [Value.int .u32 (x - q)] rfl (fun e=>by cases e) (XE _ _ _) (by simp) (by simp [Value.oneCell']) (by unfold maxLen;omega) (by omega) (by simp;omega) (k + 1) rfl ?_;intro A4 c4 w4 ho4 hg4 _);have hbel:Below w.heap.size w w4:=(r2.alloc hs2 _).grown hg4 (by simp;omega) (fun k hk=>(r1.lt k hk).1);exact ⟨⟨k + 1,by omega,by go_num,_,A4,c4,0,HX',rfl,rfl,by rw [Xf];simpa using ho4,hbel⟩,by simp [intOf];omega⟩
  ·obtain rfl:k = a.length:=by omega
   have HD:=zH (HM.out.done hl (by have:=hv.out;omega));have DG:=zH HM.out.dig;have LN:out.length = a.length:=HM.out.len;have LO:=zH (Lies.of_own r1);have OB:=zH (ZfO r1);obtain ⟨k1,k2⟩:=Xp r1;have VV:Hid (vl out = v):=zH (by rw [HD.out,hv.out]);have hcall:=fun W (hW:Lies W A' (ucs out))=>JO A' c' out W hW DG (by omega) (by omega) v VV;rw [LN] at hcall;have HC:=zH hcall;have LN':=zH LN;clear hcall LN h0 h1;go_wp2_with fail;refine (HC.out _ LO.out).mono ?_;rintro e w' ⟨rfl,rfl⟩;go_wp2_with fail;go_ret;exact ⟨A',c',rfl,LO.out.ndl DG.out VV.out,by have:=JD DG.out VV.out;rw [LN'.out] at this;omega,k2,r2,OB.out⟩
theorem Zbi (A B:Option Addr) (c d:Nat) (a b:List Int) (w:World) (hA:Lies w A (ucs a)) (hB:Lies w B (ucs b)) (da:Hid (dgs a)) (db:Hid (dgs b)) (hl:b.length <= a.length) (hn:a.length <= 1000000)
  (v:Nat) (hv:Hid (vl a - vl b = v)) :
  Calls Tryz.prog 124 #[.slice A a.length c,.slice B b.length d] w (Zb v w):=(UR A B c d a b w hA hB da db hl hn v hv).mono fun _ _ hR=>hR.nd
end Go.Proofs.YtcjicjfbippmnaaGreat
