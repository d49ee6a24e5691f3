/- TopLearned -/
import Derived.Test.YtlgdlenoohkipaaGreatMTearn0
import Derived.Lib.BitFns
set_option maxRecDepth 100000
set_option maxHeartbeats 32000000
namespace Go.Proofs.YtlgdlenoohkipaaGreat
open Go.RowKit Ear

def Zj4 (v:Int) (w:World) (e:Ending) (w':World):Prop:=e = .returned (.int .i64 v) /\ ∃ n,w' = w.drewN n
theorem ZeR (n:Nat):(madeCells (Value.int .i64 0).cells (n * 1)).toList = ics (List.replicate n 0):=by
 apply List.ext_getElem (by simp [madeCells]);intro k h1 h2;simp [madeCells,Value.cells,Nat.mod_one]
theorem Za4 (w:World) (n:Nat) (hn:n <= 1000000000) (base:Nat) (hb:base <= w.heap.size) :
  ∃ w',(Instr.makeSlice 35 (.int .i64 (n:Int)) (.int .i64 (n:Int))).run Tryz.prog w = .ok (.slice (some ⟨w.heap.size,0,none⟩) n n) w' /\
   w'.ownsRow base 3 1 (.slice (some ⟨w.heap.size,0,none⟩) n n) n (ics (List.replicate n 0)) /\ Below w.heap.size w w':=by
 obtain ⟨i0,hi0,hz0,hz1,hz2⟩:=info_parts Yz;obtain ⟨w',h1,h2,h3⟩:=run_make_full (P:=Tryz.prog) w base 35 3 i0 _ 1 Tryz.underlying35 hi0 hz0 hz1 .i64 .i64 n (by rw [hz2];omega) (by unfold maxLen;omega) hb;rw [ZeR] at h2;exact ⟨w',h1,h2,Xa h3⟩
def ZaE (b:Bool) (w:World) (e:Ending) (w':World):Prop:=e = .returned (.bool b) /\ Below w.heap.size w w'
theorem ZeB {w:World} {base:Nat} {e:TypeId} {n g:Nat} {xs:List Value} (h:w.ownsRow base e 1 (.slice (some ⟨g,0,none⟩) n n) n xs):base <= g /\ xs.length = n /\ w.heap[g]? = some (.cells xs.toArray e (0,0)):=by
 obtain ⟨h1,h2⟩:=h;rcases h2 with ⟨h2,_⟩ | ⟨g',cap,cur,hv,hb,hg,_,_,hs,ht⟩
 ·cases h2
 ·injection hv with e1 _ e3
  injection e1 with e1
  injection e1 with e1 _ _
  subst e1 e3;rw [List.take_of_length_le (by simp;omega)] at ht;subst ht;exact ⟨hb,by simpa using h1,by simpa using hg⟩
end Go.Proofs.YtlgdlenoohkipaaGreat
namespace Ear

abbrev BB:Int:=4294967296
def vl:List Int -> Int
 | []=>0
 | d :: l=>d + BB * vl l
def dgs (l:List Int):Prop:=∀ x ∈ l,0 <= x /\ x <= 4294967295
theorem Zjw (k:Nat) : 0 < BB ^ k:=Int.pow_pos (by decide)
theorem Zaz (k:Nat):BB ^ (k + 1) = BB * BB ^ k:=by rw [Int.pow_succ,Int.mul_comm]
theorem YK (a b:List Int):vl (a ++ b) = vl a + BB ^ a.length * vl b:=by
 induction a with
 | nil=>simp [vl]
 | cons d a ih=>rw [List.cons_append,vl,vl,ih,List.length_cons,Zaz,Int.mul_add,Int.mul_assoc,Int.add_assoc]
theorem Yq (l:List Int) (k:Nat) (hk:k < l.length):vl (l.take (k + 1)) = vl (l.take k) + BB ^ k * l[k]?.getD 0:=by
 rw [List.take_succ_eq_append_getElem hk,YK,List.getElem?_eq_getElem hk,List.length_take,Nat.min_eq_left (by omega)];simp [vl]
theorem Xd (n:Nat):vl (List.replicate n 0) = 0:=by
 induction n with
 | zero=>rfl
 | succ n ih=>rw [List.replicate_succ,vl,ih];rfl
theorem Qp (l:List Int) (k:Nat) (v:Int) (hk:k < l.length):vl (l.set k v) = vl l + BB ^ k * (v - l[k]?.getD 0):=by
 induction l generalizing k with
 | nil=>simp at hk
 | cons d l ih=>
  cases k with
  | zero=>simp [vl];omega
  | succ k=>
   rw [List.set_cons_succ,vl,vl,ih k (by simpa using hk),Zaz,List.getElem?_cons_succ,Int.mul_add,Int.mul_assoc,Int.add_assoc]
theorem Zdc {l:List Int} (h:dgs l) : 0 <= vl l /\ vl l < BB ^ l.length:=by
 induction l with
 | nil=>simp [vl]
 | cons d l ih=>
  have h1:=h d (List.mem_cons_self ..);have h2:=ih fun x hx=>h x (List.mem_cons_of_mem _ hx);rw [vl,List.length_cons,Zaz];have h3:BB * (vl l + 1) <= BB * BB ^ l.length:=Int.mul_le_mul_of_nonneg_left (by omega) (by decide);have h4 : 0 <= BB * vl l:=Int.mul_nonneg (by decide) h2.1;rw [Int.mul_add] at h3;simp only [BB] at *
  omega
theorem JH {l:List Int} (h:dgs l) (k:Nat) : 0 <= l[k]?.getD 0 /\ l[k]?.getD 0 <= 4294967295:=by
 by_cases hk:k < l.length
 ·rw [List.getElem?_eq_getElem hk];exact h _ (List.getElem_mem hk)
 ·rw [List.getElem?_eq_none (by omega)];simp
theorem Zd {l:List Int} (h:dgs l) (k:Nat) {v:Int} (h0 : 0 <= v) (h1:v <= 4294967295):dgs (l.set k v):=by
 intro x hx;rcases List.mem_or_eq_of_mem_set hx with h2 | h2
 ·exact h x h2
 ·omega
theorem J7 (n:Nat):dgs (List.replicate n 0):=by
 intro x hx;have:=List.eq_of_mem_replicate hx;omega
theorem Zan {l:List Int} (h:dgs l) (k:Nat):dgs (l.take k):=fun x hx=>h x (List.mem_of_mem_take hx)
def zer (l:List Int) (k:Nat):Prop:=∀ q,k <= q -> l[q]?.getD 0 = 0
theorem ZiH {l:List Int} {k:Nat} (h:zer l k):vl l = vl (l.take k):=by
 have e:l = l.take k ++ l.drop k:=(List.take_append_drop k l).symm;have hz:vl (l.drop k) = 0:=by
  have:l.drop k = List.replicate (l.drop k).length 0:=by
   apply List.ext_getElem (by simp);intro q h1 h2;have:=h (k + q) (by omega);rw [List.getElem?_eq_getElem (by simp at h1;omega)] at this;simpa using this
  rw [this,Xd]
 conv=>lhs;rw [e]
 rw [YK,hz];simp
theorem ZbM {x y:Int} (hx : 0 <= x /\ x <= 4294967295) (hy : 0 <= y /\ y <= 4294967295) : 0 <= x * y /\ x * y <= 18446744065119617025:=by
 have h1:=Int.mul_nonneg hx.1 hy.1;have h2:x * y <= 4294967295 * 4294967295:=Int.mul_le_mul hx.2 hy.2 hy.1 (by decide);omega
end Ear
namespace Go.Proofs.YtlgdlenoohkipaaGreat
open Go.RowKit Ear

abbrev ucs (l:List Int):List Value:=l.map (Value.int .u32)
theorem XJ:(Tryz.prog.info? 170).map (fun i=>(i.zero,i.size,i.bytes)) = some (some (.int .u32 0),1,4):=by kernel_rfl
theorem ZcO (n:Nat):(madeCells (Value.int .u32 0).cells (n * 1)).toList = ucs (List.replicate n 0):=by
 apply List.ext_getElem (by simp [madeCells]);intro k h1 h2;simp [madeCells,Value.cells,Nat.mod_one]
theorem XN (w:World) (n:Nat) (hn:n <= 1000000000) (base:Nat) (hb:base <= w.heap.size) :
  ∃ w',(Instr.makeSlice 29 (.int .i64 (n:Int)) (.int .i64 (n:Int))).run Tryz.prog w = .ok (.slice (some ⟨w.heap.size,0,none⟩) n n) w' /\
   w'.ownsRow base 170 1 (.slice (some ⟨w.heap.size,0,none⟩) n n) n (ucs (List.replicate n 0)) /\ Below w.heap.size w w':=by
 obtain ⟨i0,hi0,hz0,hz1,hz2⟩:=info_parts XJ;obtain ⟨w',h1,h2,h3⟩:=run_make_full (P:=Tryz.prog) w base 29 170 i0 _ 1 Tryz.underlying29 hi0 hz0 hz1 .i64 .i64 n (by rw [hz2];omega) (by unfold maxLen;omega) hb;rw [ZcO] at h2;exact ⟨w',h1,h2,Xa h3⟩
theorem Lies.uat {w:World} {A:Option Addr} {l:List Int} (h:Lies w A (ucs l)) {k:Nat} (hk:k < l.length) :
  ∃ b off,A = some ⟨b,off,none⟩ /\ b < w.heap.size /\ w.cell? ⟨b,off + k,none⟩ = some (.int .u32 (l[k]?.getD 0)):=by
 obtain ⟨b,off,e,hb,hc⟩:=h (by simp;omega);refine ⟨b,off,e,hb,hc k _ ?_⟩;simp [gE hk]
end Go.Proofs.YtlgdlenoohkipaaGreat
namespace Ear

def nd (n:Nat):List Int:=if h:n = 0 then [] else ((n % 4294967296:Nat):Int) :: nd (n / 4294967296)
termination_by n
decreasing_by omega
theorem JE:nd 0 = []:=by rw [nd];simp
theorem YO {n:Nat} (h:n ≠ 0):nd n = ((n % 4294967296:Nat):Int) :: nd (n / 4294967296):=by rw [nd];simp [h]
theorem Jo (n:Nat):vl (nd n) = n:=by
 induction n using Nat.strongRecOn with
 | ind n ih=>
  by_cases h:n = 0
  ·subst h;rw [JE];rfl
  ·rw [YO h,vl,ih _ (by omega)];simp only [BB];omega
theorem Jy (n:Nat):dgs (nd n):=by
 induction n using Nat.strongRecOn with
 | ind n ih=>
  by_cases h:n = 0
  ·subst h;rw [JE];intro x hx;simp at hx
  ·rw [YO h];intro x hx;rcases List.mem_cons.1 hx with rfl | hx
   ·omega
   ·exact ih _ (by omega) x hx
def cn (l:List Int):Prop:=l[l.length - 1]?.getD 1 ≠ 0
theorem ZfB:cn []:=by unfold cn;simp
theorem Ziy {d:Int} {l:List Int} (h:cn (d :: l)):cn l:=by
 unfold cn at *
 cases l with
 | nil=>simp
 | cons e l=>simpa using h
theorem Jw {l:List Int} (h:dgs l) : 0 <= vl l:=(Zdc h).1
theorem Zao {d:Int} {l:List Int} (h:dgs (d :: l)):dgs l:=fun x hx=>h x (List.mem_cons_of_mem _ hx)
theorem Zi5 {l:List Int} (hd:dgs l) (hc:cn l):l = nd (vl l).toNat:=by
 induction l with
 | nil=>simp [vl,JE]
 | cons d l ih=>
  have h0:=hd d (List.mem_cons_self ..);have i:=ih (Zao hd) (Ziy hc);have hv:=Jw (Zao hd);have hne:(vl (d :: l)).toNat ≠ 0:=by
   cases l with
   | nil=>
    have:d ≠ 0:=(by unfold cn at hc;simpa using hc);simp [vl];omega
   | cons e l=>
    have:(vl (e :: l)).toNat ≠ 0:=by
     intro h;rw [h,JE] at i;cases i
    rw [vl];simp only [BB];omega
  rw [YO hne];have e1:(vl (d :: l)).toNat % 4294967296 = d.toNat:=by rw [vl];simp only [BB];omega
  have e2:(vl (d :: l)).toNat / 4294967296 = (vl l).toNat:=by rw [vl];simp only [BB];omega
  rw [e1,e2,<- i];congr 1;omega
theorem ZjS (n:Nat):cn (nd n):=by
 induction n using Nat.strongRecOn with
 | ind n ih=>
  by_cases h:n = 0
  ·subst h;rw [JE];exact ZfB
  ·have i:=ih (n / 4294967296) (by omega);rw [YO h];by_cases h2:n / 4294967296 = 0
   ·rw [h2,JE];unfold cn;simp;omega
   ·unfold cn at *
    rw [YO h2] at *
    simpa using i
theorem Zix {l:List Int} {k:Nat} (h:k = 0 ∨ l[k - 1]?.getD 0 ≠ 0):cn (l.take k):=by
 rcases h with rfl | h
 ·simp;exact ZfB
 ·have hk:k - 1 < l.length:=by
   rcases Nat.lt_or_ge (k - 1) l.length with h1 | h1
   ·exact h1
   ·rw [List.getElem?_eq_none h1] at h;exact absurd rfl h
  by_cases h0:k = 0
  ·subst h0;simp;exact ZfB
  ·unfold cn;rw [List.length_take,Nat.min_eq_left (by omega),List.getElem?_take_of_lt (by omega)];rw [List.getElem?_eq_getElem hk] at h ⊢;exact h
theorem ZbJ {l:List Int} {k:Nat} (hd:dgs l) (hz:zer l k) (h:k = 0 ∨ l[k - 1]?.getD 0 ≠ 0):l.take k = nd (vl l).toNat:=by
 rw [ZiH hz];exact Zi5 (Zan hd k) (Zix h)
theorem JX {n k:Nat} (h:n < 4294967296 ^ k):(nd n).length <= k:=by
 induction k generalizing n with
 | zero=>
  have:n = 0:=by simpa using h
  rw [this,JE];simp
 | succ k ih=>
  by_cases h0:n = 0
  ·rw [h0,JE];simp
  ·rw [YO h0,List.length_cons];have:=ih (n:=n / 4294967296) (by rw [Nat.pow_succ] at h;exact Nat.div_lt_of_lt_mul (by rw [Nat.mul_comm];exact h));omega
theorem Qa (k:Nat):BB ^ k = ((4294967296 ^ k:Nat):Int):=by simp [BB]
theorem ZE (n:Nat):n < 4294967296 ^ (nd n).length:=by
 have h:=(Zdc (Jy n)).2;rw [Jo,Qa] at h;omega
theorem Zi6 {n:Nat} (h0:n ≠ 0) : 4294967296 ^ ((nd n).length - 1) <= n:=by
 rcases Nat.lt_or_ge n (4294967296 ^ ((nd n).length - 1)) with h | h
 ·have h1:=JX h;have:(nd n).length ≠ 0:=by rw [YO h0];simp
  omega
 ·exact h
theorem ZeH {n:Nat}:nd n = [] ↔ n = 0:=by
 constructor
 ·intro h;have:=Jo n;rw [h] at this;simp [vl] at this;omega
 ·rintro rfl;exact JE
theorem Js {n:Nat}:(nd n).length = 0 ↔ n = 0:=by rw [List.length_eq_zero_iff];exact ZeH
theorem Zg8 {n m:Nat} (h:nd n = nd m):n = m:=by
 have h1:=Jo n;have h2:=Jo m;rw [h] at h1;omega
theorem Ji {n m:Nat} (h:n <= m):(nd n).length <= (nd m).length:=JX (Nat.lt_of_le_of_lt h (ZE m))
theorem JO (n m:Nat):(nd (n * m)).length <= (nd n).length + (nd m).length:=by
 apply JX;rw [Nat.pow_add];exact Nat.mul_lt_mul'' (ZE n) (ZE m)
theorem Xx (n m k:Nat) (h1:(nd n).length <= k) (h2:(nd m).length <= k):(nd (n + m)).length <= k + 1:=by
 apply JX;have a:=ZE n;have b:=ZE m;have c:=Nat.pow_le_pow_right (show 0 < 4294967296 by decide) h1;have d:=Nat.pow_le_pow_right (show 0 < 4294967296 by decide) h2;rw [Nat.pow_succ];omega
theorem Z6 {n m:Nat} (h:(nd n).length < (nd m).length):n < m:=by
 rcases Nat.lt_or_ge n m with h1 | h1
 ·exact h1
 ·have:=Ji h1;omega
theorem Yy:nd 1 = [1]:=by rw [YO (by decide)];simp [JE]
theorem Zcp {a b:List Int} (ha:dgs a) (hb:dgs b) (hl:a.length = b.length) {i:Nat} (hi:i < a.length) (hd:a.drop (i + 1) = b.drop (i + 1)) (h:a[i]?.getD 0 < b[i]?.getD 0):vl a < vl b:=by
 have key:∀ l:List Int,i < l.length -> vl l = vl (l.take i) + BB ^ i * (l[i]?.getD 0 + BB * vl (l.drop (i + 1))):=by
  intro l hl
  conv=>lhs;rw [<- List.take_append_drop i l]
  rw [YK,List.length_take,Nat.min_eq_left (by omega),List.drop_eq_getElem_cons hl,vl,List.getElem?_eq_getElem hl];rfl
 rw [key a hi,key b (by omega),hd];have t1:=(Zdc (Zan ha i)).2;have t2:=(Zdc (Zan hb i)).1;have hlen:(a.take i).length = i:=by simp;omega
 rw [hlen] at t1;have m:BB ^ i * (a[i]?.getD 0 + 1 + BB * vl (b.drop (i + 1))) <= BB ^ i * (b[i]?.getD 0 + BB * vl (b.drop (i + 1))):=Int.mul_le_mul_of_nonneg_left (by omega) (Int.le_of_lt (Zjw i));have e:BB ^ i * (a[i]?.getD 0 + 1 + BB * vl (b.drop (i + 1))) = BB ^ i * (a[i]?.getD 0 + BB * vl (b.drop (i + 1))) + BB ^ i:=by
  rw [show a[i]?.getD 0 + 1 + BB * vl (b.drop (i + 1)) = (a[i]?.getD 0 + BB * vl (b.drop (i + 1))) + 1 by omega,Int.mul_add,Int.mul_one]
 omega
def Ue (n m:Nat):Int:=if n < m then -1 else if n = m then 0 else 1
theorem Yk {n m:Nat} (h:n < m):Ue n m = -1:=by simp [Ue,h]
theorem XX {n m:Nat} (h:m < n):Ue n m = 1:=by unfold Ue;rw [if_neg (by omega),if_neg (by omega)]
theorem Yl {n m:Nat} (h:n = m):Ue n m = 0:=by unfold Ue;rw [if_neg (by omega),if_pos h]
theorem Zbm {a b:List Int} {i:Nat} (hl:a.length = b.length) (h:a.drop (i + 1) = b.drop (i + 1)) (he:a[i]?.getD 0 = b[i]?.getD 0):a.drop i = b.drop i:=by
 by_cases hi:i < a.length
 ·rw [List.drop_eq_getElem_cons hi,List.drop_eq_getElem_cons (show i < b.length by omega),h];rw [List.getElem?_eq_getElem hi,List.getElem?_eq_getElem (show i < b.length by omega)] at he;simp at he;rw [he]
 ·rw [List.drop_eq_nil_of_le (by omega),List.drop_eq_nil_of_le (by omega)]
structure PlusAt (a b out:List Int) (i:Nat) (c:Int):Prop where
 len:out.length = i
 dig:dgs out
 c0 : 0 <= c
 c1:c <= 1
 val:vl out + BB ^ i * c = vl (a.take i) + vl (b.take i)
theorem Yr (l:List Int) (k:Nat):vl (l.take (k + 1)) = vl (l.take k) + BB ^ k * l[k]?.getD 0:=by
 by_cases hk:k < l.length
 ·exact Yq l k hk
 ·rw [List.take_of_length_le (by omega),List.take_of_length_le (by omega),List.getElem?_eq_none (by omega)];simp
theorem PlusAt.start (a b:List Int):PlusAt a b [] 0 0:=⟨rfl,fun x hx=>by simp at hx,by omega,by omega,by simp [vl]⟩
theorem PlusAt.next {a b out:List Int} {i:Nat} {c:Int} (h:PlusAt a b out i c) (ha:dgs a) (hb:dgs b) {t:Int} (ht:t = c + a[i]?.getD 0 + b[i]?.getD 0):PlusAt a b (out ++ [t % 4294967296]) (i + 1) (t / 4294967296):=by
 have h1:=JH ha i;have h2:=JH hb i;have h3:=h.c0;have h4:=h.c1;refine ⟨by simp [h.len],?_,by omega,by omega,?_⟩
 ·intro x hx;rcases List.mem_append.1 hx with hx | hx
  ·exact h.dig x hx
  ·simp at hx;omega
 ·rw [YK,h.len,Yr,Yr];have hv:=h.val;simp only [vl,Int.mul_zero,Int.add_zero];have e1:BB ^ (i + 1) * (t / 4294967296) = BB ^ i * (BB * (t / 4294967296)):=by rw [Int.pow_succ,Int.mul_assoc]
  have e2:BB * (t / 4294967296) = t - t % 4294967296:=by simp only [BB];omega
  rw [e1,e2,Int.mul_sub,ht,Int.mul_add,Int.mul_add];omega
theorem PlusAt.done {a b out:List Int} {i:Nat} (h:PlusAt a b out i 0) (ha:a.length <= i) (hb:b.length <= i):vl out = vl a + vl b:=by
 have:=h.val;rw [List.take_of_length_le ha,List.take_of_length_le hb] at this;simpa using this
structure MinusAt (a b out:List Int) (i:Nat) (c:Int):Prop where
 len:out.length = i
 dig:dgs out
 c0 : 0 <= c
 c1:c <= 1
 val:vl out - BB ^ i * c = vl (a.take i) - vl (b.take i)
theorem MinusAt.start (a b:List Int):MinusAt a b [] 0 0:=⟨rfl,fun x hx=>by simp at hx,by omega,by omega,by simp [vl]⟩
theorem MinusAt.next {a b out:List Int} {i:Nat} {c d t:Int} (h:MinusAt a b out i c) (hd0 : 0 <= d) (hd1:d <= 1) (ht:t = a[i]?.getD 0 - (c + b[i]?.getD 0) + 4294967296 * d) (h0 : 0 <= t) (h1:t <= 4294967295):MinusAt a b (out ++ [t]) (i + 1) d:=by
 refine ⟨by simp [h.len],?_,hd0,hd1,?_⟩
 ·intro x hx;rcases List.mem_append.1 hx with hx | hx
  ·exact h.dig x hx
  ·simp at hx;omega
 ·rw [YK,h.len,Yr,Yr];have hv:=h.val;simp only [vl,Int.mul_zero,Int.add_zero];have e1:BB ^ (i + 1) * d = BB ^ i * (4294967296 * d):=by rw [Int.pow_succ,Int.mul_assoc]
  rw [e1,ht,Int.mul_add,Int.mul_sub,Int.mul_add];omega
theorem MinusAt.done {a b out:List Int} {c:Int} (h:MinusAt a b out a.length c) (hl:b.length <= a.length) (hle:vl b <= vl a):vl out = vl a - vl b:=by
 have hv:=h.val;rw [List.take_of_length_le (Nat.le_refl _),List.take_of_length_le hl] at hv;have bd:=(Zdc h.dig).2;rw [h.len] at bd;have h3:=h.c0;have h4:=h.c1;rcases (show c = 0 ∨ c = 1 by omega) with rfl | rfl
 ·simpa using hv
 ·exfalso;rw [Int.mul_one] at hv;omega
structure MulIn (a b out:List Int) (i j:Nat) (c:Int):Prop where
 len:out.length = a.length + b.length
 dig:dgs out
 zer:zer out (i + b.length)
 c0 : 0 <= c
 c1:c <= 4294967295
 val:vl out + BB ^ (i + j) * c = vl (a.take i) * vl b + BB ^ i * (a[i]?.getD 0 * vl (b.take j))
structure MulOut (a b out:List Int) (i:Nat):Prop where
 len:out.length = a.length + b.length
 dig:dgs out
 zer:zer out (i + b.length)
 val:vl out = vl (a.take i) * vl b
theorem ZL (n k:Nat):zer (List.replicate n 0) k:=by
 intro q _;by_cases hq:q < n
 ·rw [List.getElem?_eq_getElem (by simpa using hq)];simp
 ·rw [List.getElem?_eq_none (by simpa using Nat.le_of_not_lt hq)];rfl
theorem MulOut.start (a b:List Int):MulOut a b (List.replicate (a.length + b.length) 0) 0:=
 ⟨by simp,J7 _,ZL _ _,by rw [Xd];simp [vl]⟩
theorem MulOut.enter {a b out:List Int} {i:Nat} (h:MulOut a b out i):MulIn a b out i 0 0:=
 ⟨h.len,h.dig,h.zer,by omega,by omega,by rw [h.val];simp [vl]⟩
theorem MulIn.next {a b out:List Int} {i j:Nat} {c:Int} (h:MulIn a b out i j c) (ha:dgs a) (hb:dgs b) (hi:i < a.length) (hj:j < b.length) {t:Int} (ht:t = c + (out[i + j]?.getD 0 + a[i]?.getD 0 * b[j]?.getD 0)) :
  MulIn a b (out.set (i + j) (t % 4294967296)) i (j + 1) (t / 4294967296):=by
 have hx:=JH ha i;have hy:=JH hb j;have hp:=ZbM hx hy;have ho:=JH h.dig (i + j);have h0:=h.c0;have h1:=h.c1;refine ⟨by simp [h.len],Zd h.dig _ (by omega) (by omega),?_,by omega,by omega,?_⟩
 ·intro q hq;rw [List.getElem?_set_ne (by omega)];exact h.zer q hq
 ·rw [Qp _ _ _ (by rw [h.len];omega),Yq b j hj];have hv:=h.val;have e1:BB ^ (i + (j + 1)) * (t / 4294967296) = BB ^ (i + j) * (BB * (t / 4294967296)):=by
   rw [<- Nat.add_assoc,Int.pow_succ,Int.mul_assoc]
  have e2:BB * (t / 4294967296) = t - t % 4294967296:=by simp only [BB];omega
  have e3:BB ^ i * (a[i]?.getD 0 * (vl (b.take j) + BB ^ j * b[j]?.getD 0)) = BB ^ i * (a[i]?.getD 0 * vl (b.take j)) + BB ^ (i + j) * (a[i]?.getD 0 * b[j]?.getD 0):=by
   rw [Int.mul_add,Int.mul_add,Int.pow_add];congr 1;rw [Int.mul_assoc,<- Int.mul_assoc (a[i]?.getD 0),Int.mul_comm (a[i]?.getD 0) (BB ^ j),Int.mul_assoc]
  rw [e1,e2,e3];have e4:BB ^ (i + j) * (t % 4294967296 - out[i + j]?.getD 0) + BB ^ (i + j) * (t - t % 4294967296) = BB ^ (i + j) * c + BB ^ (i + j) * (a[i]?.getD 0 * b[j]?.getD 0):=by
   rw [<- Int.mul_add,<- Int.mul_add];congr 1;omega
  omega
theorem MulIn.leave {a b out:List Int} {i:Nat} {c:Int} (h:MulIn a b out i b.length c) (hi:i < a.length):MulOut a b (out.set (i + b.length) c) (i + 1):=by
 refine ⟨by simp [h.len],Zd h.dig _ h.c0 h.c1,?_,?_⟩
 ·intro q hq;rw [List.getElem?_set_ne (by omega)];exact h.zer q (by omega)
 ·have hv:=h.val;rw [List.take_length] at hv;rw [Qp _ _ _ (by rw [h.len];omega),h.zer _ (Nat.le_refl _),Yq a i hi,Int.sub_zero,hv,Int.add_mul,Int.mul_assoc]
theorem MulOut.done {a b out:List Int} (h:MulOut a b out a.length):vl out = vl a * vl b:=by
 rw [h.val,List.take_length]
end Ear
namespace Go.Proofs.YtlgdlenoohkipaaGreat
open Go.RowKit Ear

theorem Vm (w:World) (a b c:Nat):∃ n,((w.drewN a).drewN b).drewN c = w.drewN n:=⟨a + (b + c),by rw [World.drewN_drewN,World.drewN_drewN]⟩
theorem ZbB (l:List Int):zer l l.length:=fun q hq=>by rw [List.getElem?_eq_none hq];rfl
theorem QP {l:List Int} {n:Nat} (hn : 0 < n) (h:zer l n) (hx:l[n - 1]?.getD 0 = 0):zer l (n - 1):=fun q hq=>by
 by_cases e:q = n - 1
 ·subst e;exact hx
 ·exact h q (by omega)
theorem Lies.ndl {w:World} {A:Option Addr} {l:List Int} (h:Lies w A (ucs l)) (hd:dgs l) {v:Nat} (hv:vl l = v):Lies w A (ucs (nd v)):=by
 have key:∀ k,∀ l:List Int,l.length = k -> dgs l -> ∃ m,m <= l.length /\ zer l m /\ (m = 0 ∨ l[m - 1]?.getD 0 ≠ 0):=by
  intro k l hk _;have:∀ m,m <= l.length -> zer l m -> ∃ m,m <= l.length /\ zer l m /\ (m = 0 ∨ l[m - 1]?.getD 0 ≠ 0):=by
   intro m
   induction m with
   | zero=>intro h1 h2;exact ⟨0,h1,h2,.inl rfl⟩
   | succ m ih=>
    intro h1 h2;by_cases hx:l[m]?.getD 0 = 0
    ·exact ih (by omega) (QP (by omega) h2 hx)
    ·exact ⟨m + 1,h1,h2,.inr hx⟩
  exact this l.length nR (ZbB l)
 obtain ⟨m,_,hz,hm⟩:=key l.length l rfl hd;have e:=ZbJ hd hz hm;rw [hv,Int.toNat_natCast] at e;rw [<- e];have h2:=h.take m
 rwa [show (ucs l).take m = ucs (l.take m) from List.map_take.symm] at h2
theorem JD {l:List Int} (hd:dgs l) {v:Nat} (hv:vl l = v):(nd v).length <= l.length:=by
 apply JX;have:=(Zdc hd).2;rw [hv,Qa] at this;omega
theorem JL (A:Option Addr) (c:Nat) (l:List Int) (w:World) (h:Lies w A (ucs l)) (hd:Hid (dgs l)) (hlc:l.length <= c) (hn:l.length <= 9223372036854775807) (v:Nat) (hv:Hid (vl l = v)) :
  Calls Tryz.prog 43 #[.slice A l.length c] w fun e w'=>e = .returned (.slice A (nd v).length c) /\ w = w':=by
 have HZ:=zH (ZbB l);go_enter Tryz.func43,Tryz.ntmps43;go_wp2;go_loop [3] (fun i=>∃ k:Nat,k <= l.length /\ i = .int .i64 k /\ Hid (zer l k)) (fun i=>(intOf i).toNat)
 case atStart=>exact ⟨_,Nat.le_refl _,rfl,HZ⟩
 case round=>
  obtain ⟨k,hk,rfl,hz⟩:=hrel;clear HZ;have fin:∀ (hm:k = 0 ∨ l[k - 1]?.getD 0 ≠ 0),Hid ((nd v).length = k):=fun hm=>zH (by
   have e:=ZbJ hd.out hz.out hm;rw [hv.out,Int.toNat_natCast] at e;rw [<- e,List.length_take];omega)
  have FIN:=zH fin;clear fin;by_cases h0:k = 0
  ·subst h0;have F:=FIN.out (.inl rfl);go_wp2_with fail;go_ret;exact ⟨by rw [F.out];rfl,rfl⟩
  ·obtain ⟨b,off,rfl,hb,hc⟩:=h.uat (k:=k - 1) (by omega);have i0:((k:Int) - 1).toNat = k - 1:=(by omega);by_cases hx:l[k - 1]?.getD 0 = 0
   ·have HZ1:=zH (QP (by omega) hz.out hx);rw [hx] at hc;clear hx;go_wp2_with fail;exact ⟨⟨k - 1,by omega,by go_num,HZ1⟩,by simp [intOf];omega⟩
   ·have F:=FIN.out (.inr hx);have hd1:=JH hd.out (k - 1);generalize hx1:l[k - 1]?.getD 0 = x at *
    have HX:=zH hx1;clear hx1;have q:(x == 0) = false:=(by simpa using hx);have hkc:k <= c:=(by omega);go_wp2_with fail;go_ret;exact ⟨by rw [F.out];rfl,rfl⟩
theorem VM (A:Option Addr) (c n:Nat) (w:World) (h:Lies w A (ucs (nd n))) (hn:(nd n).length <= 9223372036854775807) (b:Bool) (hb:Hid (decide (n = 1) = b)) :
  Calls Tryz.prog 98 #[.slice A (nd n).length c] w fun e w'=>e = .returned (.bool b) /\ w = w':=by
 by_cases h1:(nd n).length = 1
 ·have hn0:n ≠ 0:=by rintro rfl;rw [JE] at h1;simp at h1
  have e:=YO hn0;have e2:n / 4294967296 = 0:=by
   have:=h1;rw [e,List.length_cons] at this;exact Js.1 (by omega)
  obtain ⟨bk,off,rfl,hbk,hc⟩:=h.uat (k:=0) (by omega);rw [e] at hc;simp only [List.getElem?_cons_zero,Option.getD_some,Nat.add_zero] at hc;have hlt:n % 4294967296 = n:=by omega
  rw [hlt] at hc;have HB:Hid (b = decide ((n:Int) = 1)):=zH (by rw [<- hb.out];simp;omega);have HL:=zH h1;rw [h1];have b1:n < 4294967296:=by omega
  clear e e2 hlt h1;go_enter Tryz.func98,Tryz.ntmps98;go_wp2_with fail;go_ret;exact ⟨Jm (by rw [HB.out];rfl),rfl⟩
 ·have HB:Hid (b = false):=zH (by
   rw [<- hb.out];simp;rintro rfl;exact h1 (by rw [Yy];rfl))
  have q:(((nd n).length:Int) == 1) = false:=by simp;omega
  generalize (nd n).length = m at *
  go_enter Tryz.func98,Tryz.ntmps98;go_wp2_with fail;go_ret;exact ⟨Jm (by rw [HB.out]),rfl⟩
theorem XQ (A B:Option Addr) (c d:Nat) (a b:List Int) (w:World) (hA:Lies w A (ucs a)) (hB:Lies w B (ucs b)) (da:Hid (dgs a)) (db:Hid (dgs b)) (hac:a.length <= c) (hbd:b.length <= d) (hn:a.length <= 9223372036854775807) (hm:b.length <= 9223372036854775807)
  (x y:Nat) (hx:Hid (vl a = x)) (hy:Hid (vl b = y)) (r:Int) (hr:Hid (Ue x y = r)) :
  Calls Tryz.prog 96 #[.slice A a.length c,.slice B b.length d] w (Zj4 r w):=by
 have LA:=zH (hA.ndl da.out hx.out);have LB:=zH (hB.ndl db.out hy.out);have na:=JD da.out hx.out;have nb:=JD db.out hy.out;have nx:(nd x).length <= 9223372036854775807:=by omega
 have ny:(nd y).length <= 9223372036854775807:=by omega
 clear na nb;go_enter Tryz.func96,Tryz.ntmps96;go_wp2_with fail;refine (JL A c a w hA da hac hn x hx).mono ?_;rintro e w' ⟨rfl,rfl⟩;go_wp2_with fail;refine (JL B d b w hB db hbd hm y hy).mono ?_;rintro e w' ⟨rfl,rfl⟩;by_cases h1:(nd x).length < (nd y).length
 ·have HR:Hid (r = -1):=zH (by rw [<- hr.out];exact Yk (Z6 h1));have q:(((nd x).length:Int) != (nd y).length) = true:=by simp;omega
  generalize (nd x).length = m at *
  generalize (nd y).length = n at *
  go_wp2_with fail;go_ret;exact ⟨JU (by rw [HR.out]),0,rfl⟩
 ·by_cases h2:(nd y).length < (nd x).length
  ·have HR:Hid (r = 1):=zH (by rw [<- hr.out];exact XX (Z6 h2));have q:(((nd x).length:Int) != (nd y).length) = true:=(by simp;omega);generalize (nd x).length = m at *
   generalize (nd y).length = n at *
   go_wp2_with fail;go_ret;exact ⟨JU (by rw [HR.out]),0,rfl⟩
  ·have hl:(nd y).length = (nd x).length:=by omega
   have DX:=zH (Jy x);have DY:=zH (Jy y);have VX:=zH (Jo x);have VY:=zH (Jo y);have LX:=LA.out;have LY:=LB.out;clear LA LB h1 h2;generalize nd x = xs at *
   generalize nd y = ys at *
   have HL:=zH hl;rw [hl] at ny ⊢;clear hl;go_wp2_with fail;go_loopw [5] (fun i wr=>∃ k:Nat,k <= xs.length /\ i = .int .i64 ((k:Int) - 1) /\ Hid (xs.drop k = ys.drop k) /\ ∃ n,wr = w.drewN n) (fun i _=>(intOf i + 1).toNat)
   case atStart=>exact ⟨xs.length,Nat.le_refl _,rfl,zH (by rw [List.drop_eq_nil_of_le nR,List.drop_eq_nil_of_le (by rw [HL.out];exact Nat.le_refl _)]),0,rfl⟩
   case round=>
    obtain ⟨k,hk,rfl,hdr,n,hwd⟩:=hrel;have L1:Lies wr A (ucs xs):=(by rw [hwd];exact LX.drewN n);have L2:Lies wr B (ucs ys):=(by rw [hwd];exact LY.drewN n);have WD:=zH hwd;clear hwd;by_cases h0:k = 0
    ·subst h0;have HR:Hid (r = 0):=zH (by
      have e:xs = ys:=(by simpa using hdr.out);have h1:=VX.out;rw [e,VY.out] at h1;rw [<- hr.out];exact Yl (by omega))
     go_wp2_with fail;go_ret;exact ⟨JU (by rw [HR.out]),n,WD.out⟩
    ·obtain ⟨b1,o1,rfl,hb1,hc1⟩:=L1.uat (k:=k - 1) (by omega);obtain ⟨b2,o2,rfl,hb2,hc2⟩:=L2.uat (k:=k - 1) (by rw [HL.out];omega);have i0:((k:Int) - 1).toNat = k - 1:=(by omega);have d1:=JH DX.out (k - 1);have d2:=JH DY.out (k - 1);have ek:k - 1 + 1 = k:=(by omega);have lt1:xs[k - 1]?.getD 0 < ys[k - 1]?.getD 0 -> Hid (r = -1):=fun hlt=>zH (by
      have:=Zcp DX.out DY.out HL.out.symm (i:=k - 1) (by omega) (by rw [ek];exact hdr.out) hlt;rw [VX.out,VY.out] at this;rw [<- hr.out];exact Yk (by omega))
     have gt1:ys[k - 1]?.getD 0 < xs[k - 1]?.getD 0 -> Hid (r = 1):=fun hlt=>zH (by
      have:=Zcp DY.out DX.out HL.out (i:=k - 1) (by rw [HL.out];omega) (by rw [ek];exact hdr.out.symm) hlt;rw [VX.out,VY.out] at this;rw [<- hr.out];exact XX (by omega))
     have eq1:xs[k - 1]?.getD 0 = ys[k - 1]?.getD 0 -> Hid (xs.drop (k - 1) = ys.drop (k - 1)):=fun he=>zH (Zbm HL.out.symm (by rw [ek];exact hdr.out) he);have LT:=zH lt1;have GT:=zH gt1;have EQ:=zH eq1;clear lt1 gt1 eq1 ek;generalize xs[k - 1]?.getD 0 = u at *
     generalize ys[k - 1]?.getD 0 = v at *
     by_cases hlt:u < v
     ·have HR:=LT.out hlt;have q:(u != v) = true:=(by simp;omega);clear LT GT EQ;go_wp2_with fail;go_quiet (fail);go_wp2_with fail;go_quiet (fail);go_wp2_with fail;go_ret;exact ⟨JU (by rw [HR.out]),by rw [WD.out];exact Vm _ _ _ _⟩
     ·by_cases hgt:v < u
      ·have HR:=GT.out hgt;have q:(u != v) = true:=(by simp;omega);clear LT GT EQ;go_wp2_with fail;go_quiet (fail);go_wp2_with fail;go_quiet (fail);go_wp2_with fail;go_ret;exact ⟨JU (by rw [HR.out]),by rw [WD.out];exact Vm _ _ _ _⟩
      ·have he:u = v:=(by omega);have HD:=EQ.out he;subst he;clear LT GT EQ hlt hgt;go_wp2_with fail;go_quiet (fail);go_wp2_with fail;exact ⟨⟨k - 1,by omega,by go_num,HD,by rw [WD.out];exact Vo _ _ _⟩,by simp [intOf];omega⟩
theorem Ja {B:Nat} (w:World) (n:Nat):Below B w (w.drewN n):=⟨rfl,rfl,rfl,Nat.le_refl _,fun _ _=>rfl⟩

end Go.Proofs.YtlgdlenoohkipaaGreat
