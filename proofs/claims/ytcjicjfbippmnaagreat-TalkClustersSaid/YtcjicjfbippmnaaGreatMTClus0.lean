/- TalkClusters -/
import Init.Data.Int.DivMod.Lemmas
import Derived.Lib.BitFns
set_option maxRecDepth 100000
set_option maxHeartbeats 32000000
namespace Ear

def inR (lo hi x:Int):Bool:=decide (lo <= x) && decide (x <= hi)
theorem Zcn {lo hi x:Int}:inR lo hi x = true ↔ lo <= x /\ x <= hi:=by simp [inR]
def YC (lo hi:Int) (l:List Int):Bool:=l.all (inR lo hi)
theorem Vt {lo hi:Int} {l:List Int} (h:YC lo hi l = true) {x:Int} (hx:x ∈ l):lo <= x /\ x <= hi:=
 Zcn.1 (List.all_eq_true.1 h x hx)
theorem Zhx {lo hi:Int} {l:List Int} (h:∀ x ∈ l,lo <= x /\ x <= hi):YC lo hi l = true:=
 List.all_eq_true.2 fun x hx=>Zcn.2 (h x hx)
theorem Zf6 {lo hi:Int} {l:List Int} (h:YC lo hi l = true) {k:Nat} (hk:k < l.length):lo <= l[k] /\ l[k] <= hi:=Vt h (List.getElem_mem hk)
end Ear
namespace Ear

def okV (n:Nat) (x:List Int):Bool:=x.length == n && decide (1 <= x.length) && decide (x.length <= 64) && YC (-1048576) 1048576 x
def len0 (vs:List (List Int)):Nat:=(vs.headD []).length
def YS (vs:List (List Int)):Bool:=vs.all (okV (len0 vs))
theorem Yi {n:Nat} {x:List Int}:okV n x = true ↔ x.length = n /\ 1 <= x.length /\ x.length <= 64 /\ YC (-1048576) 1048576 x = true:=by
 simp [okV,and_assoc]
theorem Zha {lo hi:Int} {l:List Int} (h:YC lo hi l = true) (h0:lo <= 0) (h1 : 0 <= hi) (k:Nat):lo <= l[k]?.getD 0 /\ l[k]?.getD 0 <= hi:=by
 by_cases hk:k < l.length
 ·rw [List.getElem?_eq_getElem hk];exact Zf6 h hk
 ·rw [List.getElem?_eq_none (by omega)];exact ⟨h0,h1⟩
def dsK (v c:List Int):Nat -> Int
 | 0=>0
 | k + 1=>dsK v c k + (v[k]?.getD 0 - c[k]?.getD 0) * (v[k]?.getD 0 - c[k]?.getD 0)
def YR (vs:List (List Int)) (c:Nat):Nat -> Int
 | 0=>0
 | t + 1=>YR vs c t + (vs[t]?.getD [])[c]?.getD 0
theorem Y0 {vs:List (List Int)} (h:∀ x ∈ vs,YC (-1048576) 1048576 x = true) (c t:Nat) : -(t * 1048576) <= YR vs c t /\ YR vs c t <= t * 1048576:=by
 induction t with
 | zero=>simp [YR]
 | succ t ih=>
  have h2 : -1048576 <= (vs[t]?.getD [])[c]?.getD 0 /\ (vs[t]?.getD [])[c]?.getD 0 <= 1048576:=by
   by_cases ht:t < vs.length
   ·rw [List.getElem?_eq_getElem ht];exact Zha (h _ (List.getElem_mem ht)) (by omega) (by omega) c
   ·rw [List.getElem?_eq_none (show vs.length <= t by omega)];simp
  simp only [YR];generalize (vs[t]?.getD [])[c]?.getD 0 = x at *
  omega
def Qq (vs:List (List Int)) (n t:Nat):List Int:=(List.range n).map fun c=>YR vs c t
theorem Zdz (vs:List (List Int)) (n:Nat):Qq vs n 0 = List.replicate n 0:=by
 apply List.ext_getElem (by simp [Qq]);intro q h1 h2;simp [Qq,YR]
theorem ZS {vs:List (List Int)} (h:YS vs = true) {x:List Int} (hx:x ∈ vs):x.length = len0 vs /\ 1 <= x.length /\ x.length <= 64 /\ YC (-1048576) 1048576 x = true:=
 Yi.1 (List.all_eq_true.1 h x hx)
theorem U6 {p:List Int -> Bool} {L:List (List Int)} {k:Nat} (hk:k < L.length) (h:(L.take k).all p = true) (hx:p L[k] = true):(L.take (k + 1)).all p = true:=by
 rw [List.take_succ_eq_append_getElem hk,List.all_append,h];simp [hx]
theorem QX {p:List Int -> Bool} {L:List (List Int)} {k:Nat} (hk:k < L.length) (hx:p L[k] = false):L.all p = false:=by
 rw [List.all_eq_false];exact ⟨L[k],List.getElem_mem hk,by simp [hx]⟩
end Ear
namespace Ear

def Vf (gs:List (List (List Int))):Bool:=gs.all (fun g=>!g.isEmpty) && YS gs.flatten
def Zat (gs:List (List (List Int))):Int:=if 60 < gs.length ∨ 10000 < gs.flatten.length then 5 else if Vf gs = true then 0 else 2
theorem ZcK (vs:List (List Int)) (v:List Int):YS (vs ++ [v]) = (YS vs && okV (if vs = [] then v.length else len0 vs) v):=by
 cases vs with
 | nil=>simp [YS,len0]
 | cons x l=>simp [YS,len0,Bool.and_assoc]
theorem Zdt {a b:List (List Int)} (h:YS (a ++ b) = true):YS a = true:=by
 cases a with
 | nil=>rfl
 | cons x l=>
  unfold YS at *
  rw [List.all_append,Bool.and_eq_true] at h;exact h.1
theorem Zd9 {vs:List (List Int)} {v:List Int}:len0 (vs ++ [v]) = if vs = [] then v.length else len0 vs:=by
 cases vs <;> simp [len0]
theorem Zd8 {vs:List (List Int)} (h:YS vs = true):len0 vs = 0 ↔ vs = []:=by
 cases vs with
 | nil=>simp [len0]
 | cons x l=>
  have:=(ZS h (List.mem_cons_self ..)).2.1;simp [len0];rintro rfl;simp at this
def flK (gs:List (List (List Int))) (k:Nat):List (List Int):=(gs.take k).flatten
theorem Uk (gs:List (List (List Int))):flK gs 0 = []:=by simp [flK]
theorem Ul {gs:List (List (List Int))} {k:Nat} (hk:k < gs.length):flK gs (k + 1) = flK gs k ++ gs[k]:=by
 unfold flK;rw [List.take_succ_eq_append_getElem hk,List.flatten_append];simp only [List.flatten_cons,List.flatten_nil,List.append_nil]
theorem Zaf {gs:List (List (List Int))} {k:Nat} (hk:gs.length <= k):flK gs k = gs.flatten:=by simp [flK,List.take_of_length_le hk]
theorem Zet {gs:List (List (List Int))} {k:Nat}:∃ r,gs.flatten = flK gs k ++ r:=⟨(gs.drop k).flatten,by rw [flK,<- List.flatten_append,List.take_append_drop]⟩
theorem Zij {gs:List (List (List Int))} {k:Nat} (hk:k < gs.length) (j:Nat):∃ r,gs.flatten = flK gs k ++ gs[k].take j ++ r:=by
 obtain ⟨r,hr⟩:=Zet (gs:=gs) (k:=k + 1);refine ⟨gs[k].drop j ++ r,?_⟩;rw [hr,Ul hk]
 conv=>lhs;rw [<- List.take_append_drop j gs[k]]
 simp only [List.append_assoc]
theorem Zhg {gs:List (List (List Int))} (h:∀ g ∈ gs,g.length <= 10000) (k:Nat) (hk:k <= 1000):(flK gs k).length <= 10000000:=by
 have key:∀ k,(flK gs k).length <= k * 10000:=by
  intro k
  induction k with
  | zero=>simp [flK]
  | succ k ih=>
   by_cases hlt:k < gs.length
   ·rw [Ul hlt,List.length_append];have:=h _ (List.getElem_mem hlt);omega
   ·have e:flK gs (k + 1) = flK gs k:=(Zaf (gs:=gs) (k:=k + 1) (by omega)).trans (Zaf (gs:=gs) (k:=k) (by omega)).symm;rw [e];exact Nat.le_trans ih (Nat.mul_le_mul_right _ (Nat.le_succ k))
 have:=key k;omega
theorem Za8 {gs:List (List (List Int))} {k:Nat} (hk:k < gs.length) (he:gs[k] = []):Vf gs = false:=by
 unfold Vf;rw [Bool.and_eq_false_iff];left;rw [List.all_eq_false];exact ⟨_,List.getElem_mem hk,by simp [he]⟩
theorem Zg7 {gs:List (List (List Int))} {k j:Nat} (hk:k < gs.length) (hj:j < gs[k].length) (h:YS (flK gs k ++ gs[k].take j ++ [gs[k][j]]) = false):Vf gs = false:=by
 unfold Vf;rw [Bool.and_eq_false_iff];right;obtain ⟨r,hr⟩:=Zij hk (j + 1);rw [List.take_succ_eq_append_getElem hj] at hr;rw [Bool.eq_false_iff];intro ht;rw [hr] at ht;have:=Zdt ht;rw [<- List.append_assoc] at this;rw [this] at h;cases h
end Ear
namespace Ear

abbrev BB:Int:=4294967296
def vl:List Int -> Int
 | []=>0
 | d :: l=>d + BB * vl l
def dgs (l:List Int):Prop:=∀ x ∈ l,0 <= x /\ x <= 4294967295
theorem Ziu (k:Nat) : 0 < BB ^ k:=Int.pow_pos (by decide)
theorem Zaq (k:Nat):BB ^ (k + 1) = BB * BB ^ k:=by rw [Int.pow_succ,Int.mul_comm]
theorem YE (a b:List Int):vl (a ++ b) = vl a + BB ^ a.length * vl b:=by
 induction a with
 | nil=>simp [vl]
 | cons d a ih=>rw [List.cons_append,vl,vl,ih,List.length_cons,Zaq,Int.mul_add,Int.mul_assoc,Int.add_assoc]
theorem Yu (l:List Int) (k:Nat) (hk:k < l.length):vl (l.take (k + 1)) = vl (l.take k) + BB ^ k * l[k]?.getD 0:=by
 rw [List.take_succ_eq_append_getElem hk,YE,List.getElem?_eq_getElem hk,List.length_take,Nat.min_eq_left (by omega)];simp [vl]
theorem J4 (n:Nat):vl (List.replicate n 0) = 0:=by
 induction n with
 | zero=>rfl
 | succ n ih=>rw [List.replicate_succ,vl,ih];rfl
theorem Ql (l:List Int) (k:Nat) (v:Int) (hk:k < l.length):vl (l.set k v) = vl l + BB ^ k * (v - l[k]?.getD 0):=by
 induction l generalizing k with
 | nil=>simp at hk
 | cons d l ih=>
  cases k with
  | zero=>simp [vl];omega
  | succ k=>
   rw [List.set_cons_succ,vl,vl,ih k (by simpa using hk),Zaq,List.getElem?_cons_succ,Int.mul_add,Int.mul_assoc,Int.add_assoc]
theorem ZcJ {l:List Int} (h:dgs l) : 0 <= vl l /\ vl l < BB ^ l.length:=by
 induction l with
 | nil=>simp [vl]
 | cons d l ih=>
  have h1:=h d (List.mem_cons_self ..);have h2:=ih fun x hx=>h x (List.mem_cons_of_mem _ hx);rw [vl,List.length_cons,Zaq];have h3:BB * (vl l + 1) <= BB * BB ^ l.length:=Int.mul_le_mul_of_nonneg_left (by omega) (by decide);have h4 : 0 <= BB * vl l:=Int.mul_nonneg (by decide) h2.1;rw [Int.mul_add] at h3;simp only [BB] at *
  omega
theorem JG {l:List Int} (h:dgs l) (k:Nat) : 0 <= l[k]?.getD 0 /\ l[k]?.getD 0 <= 4294967295:=by
 by_cases hk:k < l.length
 ·rw [List.getElem?_eq_getElem hk];exact h _ (List.getElem_mem hk)
 ·rw [List.getElem?_eq_none (by omega)];simp
theorem Zl {l:List Int} (h:dgs l) (k:Nat) {v:Int} (h0 : 0 <= v) (h1:v <= 4294967295):dgs (l.set k v):=by
 intro x hx;rcases List.mem_or_eq_of_mem_set hx with h2 | h2
 ·exact h x h2
 ·omega
theorem JZ (n:Nat):dgs (List.replicate n 0):=by
 intro x hx;have:=List.eq_of_mem_replicate hx;omega
theorem Zah {l:List Int} (h:dgs l) (k:Nat):dgs (l.take k):=fun x hx=>h x (List.mem_of_mem_take hx)
def zer (l:List Int) (k:Nat):Prop:=∀ q,k <= q -> l[q]?.getD 0 = 0
theorem ZhK {l:List Int} {k:Nat} (h:zer l k):vl l = vl (l.take k):=by
 have e:l = l.take k ++ l.drop k:=(List.take_append_drop k l).symm;have hz:vl (l.drop k) = 0:=by
  have:l.drop k = List.replicate (l.drop k).length 0:=by
   apply List.ext_getElem (by simp);intro q h1 h2;have:=h (k + q) (by omega);rw [List.getElem?_eq_getElem (by simp at h1;omega)] at this;simpa using this
  rw [this,J4]
 conv=>lhs;rw [e]
 rw [YE,hz];simp
theorem ZbD {x y:Int} (hx : 0 <= x /\ x <= 4294967295) (hy : 0 <= y /\ y <= 4294967295) : 0 <= x * y /\ x * y <= 18446744065119617025:=by
 have h1:=Int.mul_nonneg hx.1 hy.1;have h2:x * y <= 4294967295 * 4294967295:=Int.mul_le_mul hx.2 hy.2 hy.1 (by decide);omega
end Ear
namespace Ear

def nd (n:Nat):List Int:=if h:n = 0 then [] else ((n % 4294967296:Nat):Int) :: nd (n / 4294967296)
termination_by n
decreasing_by omega
theorem JE:nd 0 = []:=by rw [nd];simp
theorem YJ {n:Nat} (h:n ≠ 0):nd n = ((n % 4294967296:Nat):Int) :: nd (n / 4294967296):=by rw [nd];simp [h]
theorem Jp (n:Nat):vl (nd n) = n:=by
 induction n using Nat.strongRecOn with
 | ind n ih=>
  by_cases h:n = 0
  ·subst h;rw [JE];rfl
  ·rw [YJ h,vl,ih _ (by omega)];simp only [BB];omega
theorem Jw (n:Nat):dgs (nd n):=by
 induction n using Nat.strongRecOn with
 | ind n ih=>
  by_cases h:n = 0
  ·subst h;rw [JE];intro x hx;simp at hx
  ·rw [YJ h];intro x hx;rcases List.mem_cons.1 hx with rfl | hx
   ·omega
   ·exact ih _ (by omega) x hx
def cn (l:List Int):Prop:=l[l.length - 1]?.getD 1 ≠ 0
theorem ZeG:cn []:=by unfold cn;simp
theorem Zhu {d:Int} {l:List Int} (h:cn (d :: l)):cn l:=by
 unfold cn at *
 cases l with
 | nil=>simp
 | cons e l=>simpa using h
theorem Jv {l:List Int} (h:dgs l) : 0 <= vl l:=(ZcJ h).1
theorem Zai {d:Int} {l:List Int} (h:dgs (d :: l)):dgs l:=fun x hx=>h x (List.mem_cons_of_mem _ hx)
theorem ZhX {l:List Int} (hd:dgs l) (hc:cn l):l = nd (vl l).toNat:=by
 induction l with
 | nil=>simp [vl,JE]
 | cons d l ih=>
  have h0:=hd d (List.mem_cons_self ..);have i:=ih (Zai hd) (Zhu hc);have hv:=Jv (Zai hd);have hne:(vl (d :: l)).toNat ≠ 0:=by
   cases l with
   | nil=>
    have:d ≠ 0:=(by unfold cn at hc;simpa using hc);simp [vl];omega
   | cons e l=>
    have:(vl (e :: l)).toNat ≠ 0:=by
     intro h;rw [h,JE] at i;cases i
    rw [vl];simp only [BB];omega
  rw [YJ hne];have e1:(vl (d :: l)).toNat % 4294967296 = d.toNat:=by rw [vl];simp only [BB];omega
  have e2:(vl (d :: l)).toNat / 4294967296 = (vl l).toNat:=by rw [vl];simp only [BB];omega
  rw [e1,e2,<- i];congr 1;omega
theorem ZiO (n:Nat):cn (nd n):=by
 induction n using Nat.strongRecOn with
 | ind n ih=>
  by_cases h:n = 0
  ·subst h;rw [JE];exact ZeG
  ·have i:=ih (n / 4294967296) (by omega);rw [YJ h];by_cases h2:n / 4294967296 = 0
   ·rw [h2,JE];unfold cn;simp;omega
   ·unfold cn at *
    rw [YJ h2] at *
    simpa using i
theorem Zht {l:List Int} {k:Nat} (h:k = 0 ∨ l[k - 1]?.getD 0 ≠ 0):cn (l.take k):=by
 rcases h with rfl | h
 ·simp;exact ZeG
 ·have hk:k - 1 < l.length:=by
   rcases Nat.lt_or_ge (k - 1) l.length with h1 | h1
   ·exact h1
   ·rw [List.getElem?_eq_none h1] at h;exact absurd rfl h
  by_cases h0:k = 0
  ·subst h0;simp;exact ZeG
  ·unfold cn;rw [List.length_take,Nat.min_eq_left (by omega),List.getElem?_take_of_lt (by omega)];rw [List.getElem?_eq_getElem hk] at h ⊢;exact h
theorem Zbz {l:List Int} {k:Nat} (hd:dgs l) (hz:zer l k) (h:k = 0 ∨ l[k - 1]?.getD 0 ≠ 0):l.take k = nd (vl l).toNat:=by
 rw [ZhK hz];exact ZhX (Zah hd k) (Zht h)
theorem JO {n k:Nat} (h:n < 4294967296 ^ k):(nd n).length <= k:=by
 induction k generalizing n with
 | zero=>
  have:n = 0:=by simpa using h
  rw [this,JE];simp
 | succ k ih=>
  by_cases h0:n = 0
  ·rw [h0,JE];simp
  ·rw [YJ h0,List.length_cons];have:=ih (n:=n / 4294967296) (by rw [Nat.pow_succ] at h;exact Nat.div_lt_of_lt_mul (by rw [Nat.mul_comm];exact h));omega
theorem U3 (k:Nat):BB ^ k = ((4294967296 ^ k:Nat):Int):=by simp [BB]
theorem Z5 (n:Nat):n < 4294967296 ^ (nd n).length:=by
 have h:=(ZcJ (Jw n)).2;rw [Jp,U3] at h;omega
theorem ZhY {n:Nat} (h0:n ≠ 0) : 4294967296 ^ ((nd n).length - 1) <= n:=by
 rcases Nat.lt_or_ge n (4294967296 ^ ((nd n).length - 1)) with h | h
 ·have h1:=JO h;have:(nd n).length ≠ 0:=by rw [YJ h0];simp
  omega
 ·exact h
theorem ZdU {n:Nat}:nd n = [] ↔ n = 0:=by
 constructor
 ·intro h;have:=Jp n;rw [h] at this;simp [vl] at this;omega
 ·rintro rfl;exact JE
theorem Jr {n:Nat}:(nd n).length = 0 ↔ n = 0:=by rw [List.length_eq_zero_iff];exact ZdU
theorem Zgj {n m:Nat} (h:nd n = nd m):n = m:=by
 have h1:=Jp n;have h2:=Jp m;rw [h] at h1;omega
theorem Ji {n m:Nat} (h:n <= m):(nd n).length <= (nd m).length:=JO (Nat.lt_of_le_of_lt h (Z5 m))
theorem JH (n m:Nat):(nd (n * m)).length <= (nd n).length + (nd m).length:=by
 apply JO;rw [Nat.pow_add];exact Nat.mul_lt_mul'' (Z5 n) (Z5 m)
theorem Xm (n m k:Nat) (h1:(nd n).length <= k) (h2:(nd m).length <= k):(nd (n + m)).length <= k + 1:=by
 apply JO;have a:=Z5 n;have b:=Z5 m;have c:=Nat.pow_le_pow_right (show 0 < 4294967296 by decide) h1;have d:=Nat.pow_le_pow_right (show 0 < 4294967296 by decide) h2;rw [Nat.pow_succ];omega
theorem Z6 {n m:Nat} (h:(nd n).length < (nd m).length):n < m:=by
 rcases Nat.lt_or_ge n m with h1 | h1
 ·exact h1
 ·have:=Ji h1;omega
theorem Yy:nd 1 = [1]:=by rw [YJ (by decide)];simp [JE]
theorem Zb9 {a b:List Int} (ha:dgs a) (hb:dgs b) (hl:a.length = b.length) {i:Nat} (hi:i < a.length) (hd:a.drop (i + 1) = b.drop (i + 1)) (h:a[i]?.getD 0 < b[i]?.getD 0):vl a < vl b:=by
 have key:∀ l:List Int,i < l.length -> vl l = vl (l.take i) + BB ^ i * (l[i]?.getD 0 + BB * vl (l.drop (i + 1))):=by
  intro l hl
  conv=>lhs;rw [<- List.take_append_drop i l]
  rw [YE,List.length_take,Nat.min_eq_left (by omega),List.drop_eq_getElem_cons hl,vl,List.getElem?_eq_getElem hl];rfl
 rw [key a hi,key b (by omega),hd];have t1:=(ZcJ (Zah ha i)).2;have t2:=(ZcJ (Zah hb i)).1;have hlen:(a.take i).length = i:=by simp;omega
 rw [hlen] at t1;have m:BB ^ i * (a[i]?.getD 0 + 1 + BB * vl (b.drop (i + 1))) <= BB ^ i * (b[i]?.getD 0 + BB * vl (b.drop (i + 1))):=Int.mul_le_mul_of_nonneg_left (by omega) (Int.le_of_lt (Ziu i));have e:BB ^ i * (a[i]?.getD 0 + 1 + BB * vl (b.drop (i + 1))) = BB ^ i * (a[i]?.getD 0 + BB * vl (b.drop (i + 1))) + BB ^ i:=by
  rw [show a[i]?.getD 0 + 1 + BB * vl (b.drop (i + 1)) = (a[i]?.getD 0 + BB * vl (b.drop (i + 1))) + 1 by omega,Int.mul_add,Int.mul_one]
 omega
def Ua (n m:Nat):Int:=if n < m then -1 else if n = m then 0 else 1
theorem Yo {n m:Nat} (h:n < m):Ua n m = -1:=by simp [Ua,h]
theorem XS {n m:Nat} (h:m < n):Ua n m = 1:=by unfold Ua;rw [if_neg (by omega),if_neg (by omega)]
theorem Yp {n m:Nat} (h:n = m):Ua n m = 0:=by unfold Ua;rw [if_neg (by omega),if_pos h]
theorem Zbf {a b:List Int} {i:Nat} (hl:a.length = b.length) (h:a.drop (i + 1) = b.drop (i + 1)) (he:a[i]?.getD 0 = b[i]?.getD 0):a.drop i = b.drop i:=by
 by_cases hi:i < a.length
 ·rw [List.drop_eq_getElem_cons hi,List.drop_eq_getElem_cons (show i < b.length by omega),h];rw [List.getElem?_eq_getElem hi,List.getElem?_eq_getElem (show i < b.length by omega)] at he;simp at he;rw [he]
 ·rw [List.drop_eq_nil_of_le (by omega),List.drop_eq_nil_of_le (by omega)]
structure PlusAt (a b out:List Int) (i:Nat) (c:Int):Prop where
 len:out.length = i
 dig:dgs out
 c0 : 0 <= c
 c1:c <= 1
 val:vl out + BB ^ i * c = vl (a.take i) + vl (b.take i)
theorem Yv (l:List Int) (k:Nat):vl (l.take (k + 1)) = vl (l.take k) + BB ^ k * l[k]?.getD 0:=by
 by_cases hk:k < l.length
 ·exact Yu l k hk
 ·rw [List.take_of_length_le (by omega),List.take_of_length_le (by omega),List.getElem?_eq_none (by omega)];simp
theorem PlusAt.start (a b:List Int):PlusAt a b [] 0 0:=⟨rfl,fun x hx=>by simp at hx,by omega,by omega,by simp [vl]⟩
theorem PlusAt.next {a b out:List Int} {i:Nat} {c:Int} (h:PlusAt a b out i c) (ha:dgs a) (hb:dgs b) {t:Int} (ht:t = c + a[i]?.getD 0 + b[i]?.getD 0):PlusAt a b (out ++ [t % 4294967296]) (i + 1) (t / 4294967296):=by
 have h1:=JG ha i;have h2:=JG hb i;have h3:=h.c0;have h4:=h.c1;refine ⟨by simp [h.len],?_,by omega,by omega,?_⟩
 ·intro x hx;rcases List.mem_append.1 hx with hx | hx
  ·exact h.dig x hx
  ·simp at hx;omega
 ·rw [YE,h.len,Yv,Yv];have hv:=h.val;simp only [vl,Int.mul_zero,Int.add_zero];have e1:BB ^ (i + 1) * (t / 4294967296) = BB ^ i * (BB * (t / 4294967296)):=by rw [Int.pow_succ,Int.mul_assoc]
  have e2:BB * (t / 4294967296) = t - t % 4294967296:=by simp only [BB];omega
  rw [e1,e2,Int.mul_sub,ht,Int.mul_add,Int.mul_add];omega
theorem PlusAt.done {a b out:List Int} {i:Nat} (h:PlusAt a b out i 0) (ha:a.length <= i) (hb:b.length <= i):vl out = vl a + vl b:=by
 have:=h.val;rw [List.take_of_length_le ha,List.take_of_length_le hb] at this;simpa using this
structure MinusAt (a b out:List Int) (i:Nat) (c:Int):Prop where
 len:out.length = i
 dig:dgs out
 c0 : 0 <= c
 c1:c <= 1
 val:vl out - BB ^ i * c = vl (a.take i) - vl (b.take i)
theorem MinusAt.start (a b:List Int):MinusAt a b [] 0 0:=⟨rfl,fun x hx=>by simp at hx,by omega,by omega,by simp [vl]⟩
theorem MinusAt.next {a b out:List Int} {i:Nat} {c d t:Int} (h:MinusAt a b out i c) (hd0 : 0 <= d) (hd1:d <= 1) (ht:t = a[i]?.getD 0 - (c + b[i]?.getD 0) + 4294967296 * d) (h0 : 0 <= t) (h1:t <= 4294967295):MinusAt a b (out ++ [t]) (i + 1) d:=by
 refine ⟨by simp [h.len],?_,hd0,hd1,?_⟩
 ·intro x hx;rcases List.mem_append.1 hx with hx | hx
  ·exact h.dig x hx
  ·simp at hx;omega
 ·rw [YE,h.len,Yv,Yv];have hv:=h.val;simp only [vl,Int.mul_zero,Int.add_zero];have e1:BB ^ (i + 1) * d = BB ^ i * (4294967296 * d):=by rw [Int.pow_succ,Int.mul_assoc]
  rw [e1,ht,Int.mul_add,Int.mul_sub,Int.mul_add];omega
theorem MinusAt.done {a b out:List Int} {c:Int} (h:MinusAt a b out a.length c) (hl:b.length <= a.length) (hle:vl b <= vl a):vl out = vl a - vl b:=by
 have hv:=h.val;rw [List.take_of_length_le (Nat.le_refl _),List.take_of_length_le hl] at hv;have bd:=(ZcJ h.dig).2;rw [h.len] at bd;have h3:=h.c0;have h4:=h.c1;rcases (show c = 0 ∨ c = 1 by omega) with rfl | rfl
 ·simpa using hv
 ·exfalso;rw [Int.mul_one] at hv;omega
structure MulIn (a b out:List Int) (i j:Nat) (c:Int):Prop where
 len:out.length = a.length + b.length
 dig:dgs out
 zer:zer out (i + b.length)
 c0 : 0 <= c
 c1:c <= 4294967295
 val:vl out + BB ^ (i + j) * c = vl (a.take i) * vl b + BB ^ i * (a[i]?.getD 0 * vl (b.take j))
structure MulOut (a b out:List Int) (i:Nat):Prop where
 len:out.length = a.length + b.length
 dig:dgs out
 zer:zer out (i + b.length)
 val:vl out = vl (a.take i) * vl b
theorem ZQ (n k:Nat):zer (List.replicate n 0) k:=by
 intro q _;by_cases hq:q < n
 ·rw [List.getElem?_eq_getElem (by simpa using hq)];simp
 ·rw [List.getElem?_eq_none (by simpa using Nat.le_of_not_lt hq)];rfl
theorem MulOut.start (a b:List Int):MulOut a b (List.replicate (a.length + b.length) 0) 0:=
 ⟨by simp,JZ _,ZQ _ _,by rw [J4];simp [vl]⟩
theorem MulOut.enter {a b out:List Int} {i:Nat} (h:MulOut a b out i):MulIn a b out i 0 0:=
 ⟨h.len,h.dig,h.zer,by omega,by omega,by rw [h.val];simp [vl]⟩
theorem MulIn.next {a b out:List Int} {i j:Nat} {c:Int} (h:MulIn a b out i j c) (ha:dgs a) (hb:dgs b) (hi:i < a.length) (hj:j < b.length) {t:Int} (ht:t = c + (out[i + j]?.getD 0 + a[i]?.getD 0 * b[j]?.getD 0)) :
  MulIn a b (out.set (i + j) (t % 4294967296)) i (j + 1) (t / 4294967296):=by
 have hx:=JG ha i;have hy:=JG hb j;have hp:=ZbD hx hy;have ho:=JG h.dig (i + j);have h0:=h.c0;have h1:=h.c1;refine ⟨by simp [h.len],Zl h.dig _ (by omega) (by omega),?_,by omega,by omega,?_⟩
 ·intro q hq;rw [List.getElem?_set_ne (by omega)];exact h.zer q hq
 ·rw [Ql _ _ _ (by rw [h.len];omega),Yu b j hj];have hv:=h.val;have e1:BB ^ (i + (j + 1)) * (t / 4294967296) = BB ^ (i + j) * (BB * (t / 4294967296)):=by
   rw [<- Nat.add_assoc,Int.pow_succ,Int.mul_assoc]
  have e2:BB * (t / 4294967296) = t - t % 4294967296:=by simp only [BB];omega
  have e3:BB ^ i * (a[i]?.getD 0 * (vl (b.take j) + BB ^ j * b[j]?.getD 0)) = BB ^ i * (a[i]?.getD 0 * vl (b.take j)) + BB ^ (i + j) * (a[i]?.getD 0 * b[j]?.getD 0):=by
   rw [Int.mul_add,Int.mul_add,Int.pow_add];congr 1;rw [Int.mul_assoc,<- Int.mul_assoc (a[i]?.getD 0),Int.mul_comm (a[i]?.getD 0) (BB ^ j),Int.mul_assoc]
  rw [e1,e2,e3];have e4:BB ^ (i + j) * (t % 4294967296 - out[i + j]?.getD 0) + BB ^ (i + j) * (t - t % 4294967296) = BB ^ (i + j) * c + BB ^ (i + j) * (a[i]?.getD 0 * b[j]?.getD 0):=by
   rw [<- Int.mul_add,<- Int.mul_add];congr 1;omega
  omega
theorem MulIn.leave {a b out:List Int} {i:Nat} {c:Int} (h:MulIn a b out i b.length c) (hi:i < a.length):MulOut a b (out.set (i + b.length) c) (i + 1):=by
 refine ⟨by simp [h.len],Zl h.dig _ h.c0 h.c1,?_,?_⟩
 ·intro q hq;rw [List.getElem?_set_ne (by omega)];exact h.zer q (by omega)
 ·have hv:=h.val;rw [List.take_length] at hv;rw [Ql _ _ _ (by rw [h.len];omega),h.zer _ (Nat.le_refl _),Yu a i hi,Int.sub_zero,hv,Int.add_mul,Int.mul_assoc]
theorem MulOut.done {a b out:List Int} (h:MulOut a b out a.length):vl out = vl a * vl b:=by
 rw [h.val,List.take_length]
end Ear
namespace Ear

def sg (neg:Bool) (n:Nat):Int:=if neg then -(n:Int) else n
def fq (neg:Bool) (n d:Nat):Rat:=mkRat (sg neg n) (if d = 0 then 1 else d)
def qs (q:Rat):Bool:=decide (q.num < 0)
def qn (q:Rat):Nat:=q.num.natAbs
def Xw (q:Rat):Int:=if q.num < 0 then -1 else if q.num = 0 then 0 else 1
theorem Zdl {neg:Bool} {n d:Nat} (h:d ≠ 0):fq neg n d = mkRat (sg neg n) d:=by unfold fq;rw [if_neg h]
theorem Zgg (neg:Bool) (n:Nat):(sg neg n).natAbs = n:=by unfold sg;split <;> omega
theorem ZhP (neg:Bool) (n:Nat):sg (!neg) n = -sg neg n:=by unfold sg;cases neg <;> simp
theorem ZgL (neg:Bool):sg neg 0 = 0:=by unfold sg;cases neg <;> simp
theorem ZhQ (a b:Bool) (n m:Nat):sg a n * sg b m = sg (a != b) (n * m):=by
 unfold sg;cases a <;> cases b <;> simp [Int.neg_mul,Int.mul_neg]
theorem ZdF (a:Bool) (n m:Nat):sg a n * (m:Int) = sg a (n * m):=by
 unfold sg;cases a <;> simp [Int.neg_mul]
theorem Zcq {a b:Bool} {n m d e:Nat} (hd:d ≠ 0) (he:e ≠ 0):fq a n d * fq b m e = fq (a != b) (n * m) (d * e):=by
 rw [Zdl hd,Zdl he,Zdl (Nat.mul_ne_zero hd he),Rat.mkRat_mul_mkRat,ZhQ]
theorem Zgr {a b:Bool} {n m d e:Nat} (hd:d ≠ 0) (he:e ≠ 0):fq a n d + fq b m e = mkRat (sg a (n * e) + sg b (m * d)) (d * e):=by
 rw [Zdl hd,Zdl he,Rat.mkRat_add_mkRat _ _ hd he,ZdF,ZdF]
theorem UR {a:Bool} {n m d e:Nat} (hd:d ≠ 0) (he:e ≠ 0):fq a n d + fq a m e = fq a (n * e + m * d) (d * e):=by
 rw [Zgr hd he,Zdl (Nat.mul_ne_zero hd he)];congr 1;unfold sg;cases a <;> simp <;> omega
theorem US {a b:Bool} {n m d e:Nat} (hd:d ≠ 0) (he:e ≠ 0) (hab:a ≠ b) (h:m * d <= n * e):fq a n d + fq b m e = fq a (n * e - m * d) (d * e):=by
 rw [Zgr hd he,Zdl (Nat.mul_ne_zero hd he)];congr 1;unfold sg;cases a <;> cases b <;> simp at hab ⊢ <;> omega
theorem Zbc {a b:Bool} {n m d e:Nat} (hd:d ≠ 0) (he:e ≠ 0) (hab:a ≠ b) (h:n * e <= m * d):fq a n d + fq b m e = fq b (m * d - n * e) (d * e):=by
 rw [Rat.add_comm,US he hd (Ne.symm hab) h,Nat.mul_comm e d]
theorem Zig (a:Bool) (n d:Nat) : -fq a n d = fq (!a) n d:=by
 unfold fq;rw [ZhP,Rat.neg_mkRat]
theorem Zif {a:Bool} {n d:Nat} (hd:d ≠ 0):(fq a n d).num = sg a (n / n.gcd d) /\ (fq a n d).den = d / n.gcd d:=by
 rw [Zdl hd,Rat.num_mkRat,Rat.den_mkRat,if_neg hd,if_neg hd,Zgg,Nat.gcd_comm d n];refine ⟨?_,rfl⟩;unfold sg;cases a
 ·simp
 ·have hg:(n.gcd d:Int) ∣ (n:Int):=Int.natCast_dvd_natCast.2 (Nat.gcd_dvd_left n d);simp [Int.neg_ediv_of_dvd hg]
theorem Zv {a:Bool} {n d:Nat} (hd:d ≠ 0):qs (fq a n d) = (a && decide (n ≠ 0)) /\ qn (fq a n d) = n / n.gcd d /\ (fq a n d).den = d / n.gcd d:=by
 obtain ⟨h1,h2⟩:=Zif (a:=a) (n:=n) hd;have hz:n / n.gcd d = 0 ↔ n = 0:=by
  constructor
  ·intro h;rcases Nat.eq_zero_or_pos n with h0 | h0
   ·exact h0
   ·have:=Nat.div_pos (Nat.le_of_dvd h0 (Nat.gcd_dvd_left n d)) (Nat.gcd_pos_of_pos_left d h0);omega
  ·rintro rfl;simp
 refine ⟨?_,?_,h2⟩
 ·clear h2;generalize n / n.gcd d = t at *
  unfold qs;rw [h1];unfold sg;cases a
  ·simp
  ·by_cases h0:n = 0
   ·rw [hz.2 h0];simp [h0]
   ·have:t ≠ 0:=fun h=>h0 (hz.1 h);simp [h0];omega
 ·unfold qn;rw [h1,Zgg]
theorem ZhO (q:Rat):sg (qs q) (qn q) = q.num:=by
 unfold sg qs qn;by_cases h:q.num < 0
 ·simp [h];omega
 ·simp [h];omega
theorem XE (q:Rat):fq (qs q) (qn q) q.den = q:=by
 rw [Zdl q.den_nz,ZhO];exact Rat.mkRat_self q
theorem ZhU (q:Rat):(qn q).gcd q.den = 1:=q.reduced
theorem Zgp {a:Bool} {n d:Nat} (hd:d ≠ 0):Xw (fq a n d) = if n = 0 then 0 else if a then -1 else 1:=by
 obtain ⟨h1,h2,_⟩:=Zv (a:=a) (n:=n) hd;have hz:qn (fq a n d) = 0 ↔ n = 0:=by
  rw [h2];constructor
  ·intro h;rcases Nat.eq_zero_or_pos n with h0 | h0
   ·exact h0
   ·have:=Nat.div_pos (Nat.le_of_dvd h0 (Nat.gcd_dvd_left n d)) (Nat.gcd_pos_of_pos_left d h0);omega
  ·rintro rfl;simp
 unfold Xw;unfold qs at h1;unfold qn at hz;clear h2;generalize (fq a n d).num = z at *
 by_cases h0:n = 0
 ·rw [if_pos h0];have:=hz.2 h0;rw [if_neg (by omega),if_pos (by omega)]
 ·rw [if_neg h0];have h3:¬ z = 0:=fun h=>h0 (hz.1 (by omega));cases a
  ·simp at h1 ⊢;rw [if_neg (by omega),if_neg h3]
  ·simp [h0] at h1 ⊢;intro h4;omega
theorem Zgq {a:Bool} {n d:Nat} (hd:d ≠ 0) (hn:n ≠ 0):(fq a n d)⁻¹ = fq a d n:=by
 have h1:fq a n d * fq a d n = 1:=by
  rw [Zcq hd hn,Nat.mul_comm d n];have e:(a != a) = false:=by cases a <;> rfl
  rw [e,Zdl (Nat.mul_ne_zero hn hd)];unfold sg;rw [if_neg (by simp)];have:=Rat.mkRat_mul_left (n:=1) (d:=1) (a:=n * d) (Nat.mul_ne_zero hn hd);have e1:mkRat 1 1 = 1:=rfl;rw [e1] at this;simpa using this
 exact Rat.inv_eq_of_mul_eq_one h1
end Ear
namespace Ear

theorem ZhN {a:Bool} {n d:Nat} (hd:d ≠ 0):(nd (qn (fq a n d))).length <= (nd n).length /\ (nd (fq a n d).den).length <= (nd d).length:=by
 obtain ⟨_,h2,h3⟩:=Zv (a:=a) (n:=n) hd;rw [h2,h3];exact ⟨Ji (Nat.div_le_self _ _),Ji (Nat.div_le_self _ _)⟩
structure Sz (q:Rat) (k:Nat):Prop where
 num:(nd (qn q)).length <= k
 den:(nd q.den).length <= k
theorem Sz.mono {q:Rat} {k l:Nat} (h:Sz q k) (hl:k <= l):Sz q l:=⟨Nat.le_trans h.num hl,Nat.le_trans h.den hl⟩
theorem Sz.fq {a:Bool} {n d k:Nat} (hd:d ≠ 0) (h1:(nd n).length <= k) (h2:(nd d).length <= k):Sz (Ear.fq a n d) k:=
 ⟨Nat.le_trans (ZhN hd).1 h1,Nat.le_trans (ZhN hd).2 h2⟩
theorem Sz.mul {p q:Rat} {k l:Nat} (h1:Sz p k) (h2:Sz q l):Sz (p * q) (k + l):=by
 have h:=Zcq (a:=qs p) (b:=qs q) (n:=qn p) (m:=qn q) p.den_nz q.den_nz;rw [XE,XE] at h;rw [h];have a1:=h1.num;have a2:=h1.den;have a3:=h2.num;have a4:=h2.den;exact Sz.fq (Nat.mul_ne_zero p.den_nz q.den_nz) (Nat.le_trans (JH _ _) (by omega)) (Nat.le_trans (JH _ _) (by omega))
theorem Zer (p q:Rat):p + q = if qs p = qs q then fq (qs p) (qn p * q.den + qn q * p.den) (p.den * q.den) else if qn p * q.den < qn q * p.den then fq (qs q) (qn q * p.den - qn p * q.den) (p.den * q.den) else fq (qs p) (qn p * q.den - qn q * p.den) (p.den * q.den):=by
 conv=>lhs;rw [<- XE p,<- XE q]
 split
 ·rename_i h;rw [<- h];exact UR p.den_nz q.den_nz
 ·rename_i h;split
  ·rename_i h2;exact Zbc p.den_nz q.den_nz h (Nat.le_of_lt h2)
  ·rename_i h2;exact US p.den_nz q.den_nz h (Nat.le_of_not_lt h2)
theorem Sz.add {p q:Rat} {k l:Nat} (h1:Sz p k) (h2:Sz q l):Sz (p + q) (k + l + 1):=by
 have hd:p.den * q.den ≠ 0:=Nat.mul_ne_zero p.den_nz q.den_nz;have a1:=h1.num;have a2:=h1.den;have a3:=h2.num;have a4:=h2.den;have b1:=JH (qn p) q.den;have b2:=JH (qn q) p.den;have b3:=JH p.den q.den;rw [Zer];split
 ·exact Sz.fq hd (Xm _ _ (k + l) (by omega) (by omega)) (by omega)
 ·split
  ·exact Sz.fq hd (Nat.le_trans (Ji (Nat.sub_le _ _)) (by omega)) (by omega)
  ·exact Sz.fq hd (Nat.le_trans (Ji (Nat.sub_le _ _)) (by omega)) (by omega)
theorem Zgh (q:Rat):qn (-q) = qn q:=by unfold qn;rw [Rat.neg_num];omega
theorem ZeE (q:Rat):(-q).den = q.den:=Rat.neg_den ..
theorem Sz.neg {q:Rat} {k:Nat} (h:Sz q k):Sz (-q) k:=⟨by rw [Zgh];exact h.num,by rw [ZeE];exact h.den⟩
theorem Sz.int {z:Int} {k:Nat} (h:(nd z.natAbs).length <= k) (h1 : 1 <= k):Sz (z:Rat) k:=
 ⟨by unfold qn;rw [Rat.num_intCast];exact h,by rw [Rat.den_intCast,Yy];exact h1⟩
theorem Sz.i64 {z:Int} (h1 : -9223372036854775808 <= z) (h2:z <= 9223372036854775807):Sz (z:Rat) 2:=
 Sz.int (JO (by simp;omega)) (by decide)
theorem ZhT (q:Rat):qs (-q) = (!qs q && decide (qn q ≠ 0)):=by
 unfold qs qn;rw [Rat.neg_num];generalize q.num = z;by_cases h1:z < 0
 ·simp [h1];omega
 ·by_cases h2:z = 0
  ·subst h2;simp
  ·have h3 : -z < 0:=by omega
   simp [h1,h2];omega
theorem ZdL {q:Rat}:qn q = 0 ↔ q = 0:=by
 unfold qn;rw [Int.natAbs_eq_zero];exact Rat.num_eq_zero
theorem YK {q:Rat} (h:q ≠ 0):qs q⁻¹ = qs q /\ qn q⁻¹ = q.den /\ (q⁻¹).den = qn q:=by
 have hn:qn q ≠ 0:=fun e=>h (ZdL.1 e);have e:q⁻¹ = fq (qs q) q.den (qn q):=by
  conv=>lhs;rw [<- XE q]
  exact Zgq q.den_nz hn
 obtain ⟨h1,h2,h3⟩:=Zv (a:=qs q) (n:=q.den) hn;rw [e,h1,h2,h3,Nat.gcd_comm,ZhU,Nat.div_one,Nat.div_one];refine ⟨?_,rfl,rfl⟩;have:=q.den_nz;simp [this]
end Ear
namespace Ear

def Zas (vs:List (List Int)) (n k j:Nat):List Int:=(List.range n).map fun c=>if c < j then YR vs c (k + 1) else YR vs c k
theorem ZdO (vs:List (List Int)) (n k:Nat):Zas vs n k 0 = Qq vs n k:=by
 unfold Zas Qq;apply List.map_congr_left;intro c _;rw [if_neg (by omega)]
theorem Zft (vs:List (List Int)) (n k:Nat):Zas vs n k n = Qq vs n (k + 1):=by
 unfold Zas Qq;apply List.map_congr_left;intro c hc;rw [if_pos (List.mem_range.1 hc)]
theorem UD (vs:List (List Int)) (n k j:Nat):(Zas vs n k j).length = n:=by simp [Zas]
theorem Zfs {vs:List (List Int)} {n k j:Nat} (hj:j < n):(Zas vs n k j)[j]?.getD 0 = YR vs j k:=by
 simp [Zas,List.getElem?_range hj]
theorem Zfr {vs:List (List Int)} {n k j:Nat}:(Zas vs n k j).set j (YR vs j k + (vs[k]?.getD [])[j]?.getD 0) = Zas vs n k (j + 1):=by
 apply List.ext_getElem (by simp [Zas]);intro q h1 h2;have hq:q < n:=by simpa [Zas] using h2
 rw [List.getElem_set];simp only [Zas,List.getElem_map,List.getElem_range];by_cases e:j = q
 ·subst e;rw [if_pos rfl,if_pos (by omega)];rfl
 ·rw [if_neg e];by_cases h3:q < j
  ·rw [if_pos h3,if_pos (by omega)]
  ·rw [if_neg h3,if_neg (by omega)]
theorem Zhy {lo hi:Int} {l:List Int} (h:YC lo hi l = true) {k:Nat} (hk:k < l.length):lo <= l[k]?.getD 0 /\ l[k]?.getD 0 <= hi:=by
 rw [List.getElem?_eq_getElem hk,Option.getD_some];exact Vt h (List.getElem_mem hk)
def gD (va vb:List (List Int)) (c:Nat):Int:=YR va c va.length * vb.length - YR vb c vb.length * va.length
def gI (va vb:List (List Int)):Nat -> Int
 | 0=>0
 | c + 1=>gI va vb c + gD va vb c * gD va vb c
def Zbq (va vb:List (List Int)):Rat:=(gI va vb (len0 va):Rat) * (((va.length * vb.length * (va.length + vb.length):Nat):Int):Rat)⁻¹
def gM (va vb:List (List Int)) (c:Nat):Rat:=(YR va c va.length:Rat) * ((va.length:Int):Rat)⁻¹ + -((YR vb c vb.length:Rat) * ((vb.length:Int):Rat)⁻¹)
def gR (va vb:List (List Int)):Nat -> Rat
 | 0=>((0:Int):Rat)
 | c + 1=>gR va vb c + gM va vb c * gM va vb c
theorem ZiL {va vb:List (List Int)} (ha:va.length ≠ 0) (hb:vb.length ≠ 0) (k:Nat):(gI va vb k:Rat) = gR va vb k * (((va.length:Int):Rat) * ((vb.length:Int):Rat)) * (((va.length:Int):Rat) * ((vb.length:Int):Rat)):=by
 have n0:((va.length:Int):Rat) ≠ 0:=by simpa using ha
 have m0:((vb.length:Int):Rat) ≠ 0:=by simpa using hb
 induction k with
 | zero=>simp [gI,gR]
 | succ k ih=>
  simp only [gI,gR,gM,gD,Rat.intCast_add,Rat.intCast_mul,Rat.intCast_sub,ih];generalize ((va.length:Int):Rat) = n at *
  generalize ((vb.length:Int):Rat) = m at *
  generalize ((YR va k va.length:Int):Rat) = x at *
  generalize ((YR vb k vb.length:Int):Rat) = y at *
  grind
theorem Zep {va vb:List (List Int)} (ha:va.length ≠ 0) (hb:vb.length ≠ 0):gR va vb (len0 va) * ((((va.length * vb.length:Nat):Int):Rat) * (((va.length + vb.length:Nat):Int):Rat)⁻¹) = Zbq va vb:=by
 unfold Zbq;rw [ZiL ha hb];have n0:((va.length:Int):Rat) ≠ 0:=by simpa using ha
 have m0:((vb.length:Int):Rat) ≠ 0:=by simpa using hb
 have s0:(((va.length + vb.length:Nat):Int):Rat) ≠ 0:=by
  have:((va.length + vb.length:Nat):Int) ≠ 0:=by omega
  exact_mod_cast this
 have e1:(((va.length * vb.length:Nat):Int):Rat) = ((va.length:Int):Rat) * ((vb.length:Int):Rat):=by simp
 have e2:(((va.length * vb.length * (va.length + vb.length):Nat):Int):Rat) = ((va.length:Int):Rat) * ((vb.length:Int):Rat) * (((va.length + vb.length:Nat):Int):Rat):=by simp
 rw [e1,e2];generalize ((va.length:Int):Rat) = n at *
 generalize ((vb.length:Int):Rat) = m at *
 generalize (((va.length + vb.length:Nat):Int):Rat) = s at *
 generalize gR va vb (len0 va) = g;grind
end Ear
