/- TalkHears -/
import Init.Data.Int.DivMod.Lemmas
import Derived.Lib.BitFns
import Derived.WalkSpells
import Derived.WalkLawsBesides
import Derived.BigQuiet
import Derived.Deep.RegionHeld3
import Derived.Deep.DeepCutAuto
import Derived.StillTailTactics
import Derived.Lib.Hide
import Derived.Deep.Slices
import Derived.Deep.AppendLies
import Derived.Laws.CopyOwn
import Derived.Deep.DrawnRows
import Derived.Shelf.Abstract
import Derived.Test.YtcjicjfbippmnaaGreatRows
set_option maxRecDepth 100000
set_option maxHeartbeats 32000000
abbrev Wh:=@Array.getD_eq_getD_getElem?
abbrev Wi:=@decide_eq_true
abbrev Wk:=@Nat.lt_of_lt_of_le
abbrev Wl:=@List.getElem?_eq_some_iff
abbrev Wm:=@List.take_of_length_le
abbrev Wo:=@List.take_succ_eq_append_getElem
abbrev Wt:=@Array.getElem?_eq_getElem
abbrev Wv:=@List.drop_eq_getElem_cons
abbrev Ww:=@if_neg
abbrev Wy:=@Bool.and_eq_true
abbrev Wz:=@beq_eq_false_iff_ne
abbrev WA:=@if_pos
abbrev WE:=@List.mem_cons
abbrev WF:=@List.getElem?_eq_none
abbrev WG:=@Array.getElem?_eq_some_iff
abbrev WH:=@Nat.zero_add
abbrev WI:=@List.length_append
abbrev WK:=@Nat.le_refl
abbrev WL:=@List.getElem?_map
abbrev WN:=@List.drop_eq_nil_of_le
abbrev WO:=@List.mem_of_getElem?
abbrev WP:=@List.all_eq_true
abbrev WQ:=@Bool.eq_false_iff
abbrev WS:=@List.mem_singleton
abbrev WT:=@List.mem_range
abbrev WV:=@List.mem_map_of_mem
abbrev WW:=@List.getElem?_eq_getElem
abbrev WY:=@List.mem_append
abbrev WZ:=@List.length_cons
abbrev WaB:=@of_decide_eq_true
abbrev WaE:=@List.take_append_drop
abbrev WaF:=@congrArg
abbrev WaG:=@List.map_cons
abbrev WaH:=@Option.getD_some
abbrev WaJ:=@List.set_append_right
abbrev WaK:=@Array.getElem?_replicate
abbrev WaL:=@List.getElem?_append_right
abbrev WaM:=@List.map_append
abbrev WaN:=@List.pairwise_iff_getElem
abbrev WaO:=@List.mem_map
abbrev WaP:=@List.length_set
abbrev WaQ:=@List.length_map
abbrev WaR:=@decide_eq_true_eq
abbrev WaS:=@Nat.lt_or_ge
abbrev WaT:=@List.length_take
abbrev WaU:=@Nat.zero_le
abbrev WaV:=@Nat.add_zero
abbrev WaW:=@List.getElem?_set_ne
abbrev WaX:=@List.flatMap_cons
abbrev Wa0:=@Nat.mul_assoc
abbrev Wa1:=@List.append_nil
abbrev Wa3:=@List.map_nil
abbrev Wa4:=@Nat.pow_le_pow_right
abbrev Wa6:=@List.append_assoc
abbrev Wa7:=@of_decide_eq_false
abbrev Wa8:=@Int.mul_assoc
abbrev Wa9:=@Nat.lt_of_le_of_lt
abbrev WbA:=@List.mem_cons_self
abbrev WbB:=@Array.getElem?_setIfInBounds
abbrev WbC:=@Nat.pow_succ
abbrev WbD:=@Int.mul_comm
abbrev WbE:=@Array.getElem?_toList
abbrev WbF:=@Nat.div_div_eq_div_mul
abbrev WbH:=@List.getElem?_set_self
abbrev WbJ:=@Nat.add_assoc
abbrev WbK:=@Int.mul_le_mul_of_nonneg_left
abbrev WbL:=@List.length_replicate
abbrev WbM:=@List.eq_of_mem_replicate
abbrev WbO:=@Nat.min_eq_left
abbrev WbS:=@Int.mul_add
abbrev WbT:=@Int.eq_ofNat_of_zero_le
abbrev WbW:=@Nat.mul_le_mul_right
abbrev WbX:=@List.mem_of_mem_take
abbrev WbZ:=@Array.getElem?_eq_none
abbrev Wb0:=@List.getElem_of_mem
abbrev Wb1:=@Classical.not_not
abbrev Wb4:=@Nat.mul_ne_zero
abbrev Wb5:=@Nat.pow_pos
abbrev Wb6:=@List.mem_cons_of_mem
abbrev Wb7:=@List.length_eq_zero_iff
abbrev Wb8:=@Nat.mul_comm
abbrev Wb9:=@List.map_map
abbrev WcC:=@Nat.dvd_of_mod_eq_zero
abbrev WcD:=@List.drop_of_length_le
abbrev WcE:=@List.length_eraseIdx_of_lt
abbrev WcF:=@Array.toList_setIfInBounds
abbrev WcG:=@List.map_set
abbrev WcH:=@Nat.pow_add
abbrev WcI:=@List.mem_or_eq_of_mem_set
abbrev WcJ:=@Classical.byContradiction
abbrev WcK:=@Array.replicate_succ
abbrev WcM:=@List.pairwise_map
abbrev WcN:=@Int.toNat_natCast
abbrev WcO:=@Nat.sub_self
abbrev WcP:=@Nat.mul_div_cancel_left
abbrev WcQ:=@List.getElem?_cons_succ
abbrev WcR:=@Bool.true_and
abbrev WcS:=@Nat.mod_eq_of_lt
abbrev WcT:=@List.getElem_mem
abbrev WcU:=@List.ext_getElem
abbrev WcV:=@List.eq_nil_of_length_eq_zero
abbrev WcX:=@Int.mul_nonneg
abbrev WcY:=@Bool.false_and
abbrev Wc1:=@Array.any_eq_true'
abbrev Wc3:=@Nat.le_trans
abbrev Wc4:=@List.mem_iff_getElem?
abbrev Wc7:=@List.getD_eq_getElem?_getD
abbrev Wc9:=@List.mem_of_mem_drop
abbrev WdA:=@List.getElem?_append_left
abbrev WdB:=@Int.mul_le_mul
abbrev WdC:=@Bool.and_false
abbrev WdD:=@List.take_length
abbrev WdE:=@List.mem_flatMap
abbrev WdF:=@List.length_drop
abbrev WdG:=@List.getElem?_range
abbrev WdH:=@List.getElem?_take_of_lt
abbrev WdI:=@Int.add_zero
abbrev WdJ:=@Nat.eq_zero_or_pos
abbrev WdK:=@Nat.div_le_self
abbrev WdL:=@List.mem_filter
abbrev WdM:=@List.getElem?_drop
abbrev WdQ:=@List.eraseIdx_eq_take_drop_succ
abbrev WdR:=@Nat.zero_mul
abbrev WdS:=@Nat.gcd_comm
abbrev WdT:=@Int.mul_le_mul_of_nonneg_right
abbrev WdU:=@Int.mul_ediv_add_emod
abbrev WdW:=@decide_eq_decide
abbrev WdX:=@Nat.le_of_not_lt
abbrev WdY:=@Nat.div_eq_of_lt
abbrev WdZ:=@List.take_append_of_le_length
abbrev Wd0:=@List.getElem_set
abbrev Wd1:=@List.getElem?_append
abbrev Wd3:=@Nat.sub_le
abbrev Wd5:=@List.length_flatten
abbrev Wd6:=@List.drop_succ_cons
abbrev Wd7:=@Int.natCast_mul
abbrev Wd8:=@Int.ediv_nonneg
abbrev Wd9:=@Nat.le_of_lt
abbrev WeA:=@List.set_cons_zero
abbrev WeB:=@Array.all_eq_true'
abbrev WeC:=@Decidable.byContradiction
abbrev WeE:=@List.all_eq_false
abbrev WeF:=@Int.emod_eq_of_lt
abbrev WeG:=@Array.getElem_mem
abbrev WeH:=@Ne.symm
abbrev WeI:=@Nat.gcd_pos_of_pos_left
abbrev WeJ:=@Nat.div_one
abbrev WeK:=@List.map_take
abbrev WeL:=@List.map_drop
abbrev WeN:=@List.drop_length
abbrev WeO:=@List.cons_append
abbrev WeQ:=@List.filter_eq_nil_iff
abbrev WeR:=@Nat.gcd_le_left
abbrev WeS:=@Nat.add_comm
abbrev WeT:=@Int.ediv_lt_of_lt_mul
abbrev WeU:=@bne_iff_ne
abbrev WeV:=@Nat.div_lt_of_lt_mul
abbrev WeW:=@List.findIdx_getElem
abbrev WeX:=@Array.mem_toList_iff
abbrev WeY:=@Nat.mul_le_mul
abbrev We0:=@Nat.pos_iff_ne_zero
abbrev We1:=@Nat.mul_pos
abbrev We2:=@Nat.mul_add
abbrev We4:=@List.replicate_succ
abbrev We5:=@List.countP_eq_zero
abbrev We6:=@Int.mul_one
abbrev We7:=@Int.add_mul
abbrev We8:=@Array.toList_modify
abbrev We9:=@Array.getElem?_push
abbrev WfA:=@Nat.pos_of_ne_zero
abbrev WfC:=@List.set_cons_succ
abbrev WfD:=@List.pairwise_cons
abbrev WfE:=@List.eraseIdx_append_of_length_le
abbrev WfF:=@Int.emod_lt_of_pos
abbrev WfH:=@Nat.mod_lt
abbrev WfI:=@Nat.lt_trichotomy
abbrev WfJ:=@List.findIdx_eq_length_of_false
abbrev WfL:=@Array.toList_push
namespace Ear

def inR (lo hi x:Int):Bool:=decide (lo <= x) && decide (x <= hi)
theorem ZcM {lo hi x:Int}:inR lo hi x = true ↔ lo <= x /\ x <= hi:=by simp [inR]
def ZJ (lo hi:Int) (l:List Int):Bool:=l.all (inR lo hi)
theorem VP {lo hi:Int} {l:List Int} (h:ZJ lo hi l = true) {x:Int} (hx:x ∈ l):lo <= x /\ x <= hi:=
 ZcM.1 (WP.1 h x hx)
theorem Zh0 {lo hi:Int} {l:List Int} (h:∀ x ∈ l,lo <= x /\ x <= hi):ZJ lo hi l = true:=
 WP.2 fun x hx=>ZcM.2 (h x hx)
theorem ZgJ {lo hi:Int} {l:List Int} (h:ZJ lo hi l = true) {k:Nat} (hk:k < l.length):lo <= l[k] /\ l[k] <= hi:=VP h (WcT hk)
end Ear
namespace Ear

def okV (n:Nat) (x:List Int):Bool:=x.length == n && decide (1 <= x.length) && decide (x.length <= 64) && ZJ (-1048576) 1048576 x
def len0 (vs:List (List Int)):Nat:=(vs.headD []).length
def ZW (vs:List (List Int)):Bool:=vs.all (okV (len0 vs))
theorem Ug {n:Nat} {x:List Int}:okV n x = true ↔ x.length = n /\ 1 <= x.length /\ x.length <= 64 /\ ZJ (-1048576) 1048576 x = true:=by
 simp [okV,and_assoc]
theorem ZhI {lo hi:Int} {l:List Int} (h:ZJ lo hi l = true) (h0:lo <= 0) (h1 : 0 <= hi) (k:Nat):lo <= l[k]?.getD 0 /\ l[k]?.getD 0 <= hi:=by
 by_cases hk:k < l.length
 ·rw [WW hk];exact ZgJ h hk
 ·rw [WF (by omega)];exact ⟨h0,h1⟩
def dsK (v c:List Int):Nat -> Int
 | 0=>0
 | k + 1=>dsK v c k + (v[k]?.getD 0 - c[k]?.getD 0) * (v[k]?.getD 0 - c[k]?.getD 0)
def Qu (vs:List (List Int)) (c:Nat):Nat -> Int
 | 0=>0
 | t + 1=>Qu vs c t + (vs[t]?.getD [])[c]?.getD 0
theorem Qg {vs:List (List Int)} (h:∀ x ∈ vs,ZJ (-1048576) 1048576 x = true) (c t:Nat) : -(t * 1048576) <= Qu vs c t /\ Qu vs c t <= t * 1048576:=by
 induction t with
 | zero=>simp [Qu]
 | succ t ih=>
  have h2 : -1048576 <= (vs[t]?.getD [])[c]?.getD 0 /\ (vs[t]?.getD [])[c]?.getD 0 <= 1048576:=by
   by_cases ht:t < vs.length
   ·rw [WW ht];exact ZhI (h _ (WcT ht)) (by omega) (by omega) c
   ·rw [WF (show vs.length <= t by omega)];simp
  simp only [Qu];generalize (vs[t]?.getD [])[c]?.getD 0 = x at *
  omega
def QS (vs:List (List Int)) (n t:Nat):List Int:=(List.range n).map fun c=>Qu vs c t
theorem Zd9 (vs:List (List Int)) (n:Nat):QS vs n 0 = List.replicate n 0:=by
 apply WcU (by simp [QS]);intro q h1 h2;simp [QS,Qu]
theorem Vf {vs:List (List Int)} (h:ZW vs = true) {x:List Int} (hx:x ∈ vs):x.length = len0 vs /\ 1 <= x.length /\ x.length <= 64 /\ ZJ (-1048576) 1048576 x = true:=
 Ug.1 (WP.1 h x hx)
end Ear
namespace Ear

def QD (gs:List (List (List Int))):Bool:=gs.all (fun g=>!g.isEmpty) && ZW gs.flatten
def ZeX (gs:List (List (List Int))):Int:=if 60 < gs.length ∨ 10000 < gs.flatten.length then 5 else if QD gs = true then 0 else 2
theorem Zc8 (vs:List (List Int)) (v:List Int):ZW (vs ++ [v]) = (ZW vs && okV (if vs = [] then v.length else len0 vs) v):=by
 cases vs with
 | nil=>simp [ZW,len0]
 | cons x l=>simp [ZW,len0,Bool.and_assoc]
theorem ZdZ {a b:List (List Int)} (h:ZW (a ++ b) = true):ZW a = true:=by
 cases a with
 | nil=>rfl
 | cons x l=>
  unfold ZW at *
  rw [List.all_append,Wy] at h;exact h.1
theorem ZeN {vs:List (List Int)} {v:List Int}:len0 (vs ++ [v]) = if vs = [] then v.length else len0 vs:=by
 cases vs <;> simp [len0]
theorem ZeM {vs:List (List Int)} (h:ZW vs = true):len0 vs = 0 ↔ vs = []:=by
 cases vs with
 | nil=>simp [len0]
 | cons x l=>
  have:=(Vf h (WbA ..)).2.1;simp [len0];rintro rfl;simp at this
def flK (gs:List (List (List Int))) (k:Nat):List (List Int):=(gs.take k).flatten
theorem ZaF (gs:List (List (List Int))):flK gs 0 = []:=by simp [flK]
theorem ZaG {gs:List (List (List Int))} {k:Nat} (hk:k < gs.length):flK gs (k + 1) = flK gs k ++ gs[k]:=by
 unfold flK;rw [Wo hk,List.flatten_append];simp only [List.flatten_cons,List.flatten_nil,List.append_nil]
theorem Zci {gs:List (List (List Int))} {k:Nat} (hk:gs.length <= k):flK gs k = gs.flatten:=by simp [flK,List.take_of_length_le hk]
theorem ZhM {gs:List (List (List Int))} {k:Nat}:∃ r,gs.flatten = flK gs k ++ r:=⟨(gs.drop k).flatten,by rw [flK,<- List.flatten_append,WaE]⟩
theorem ZiS {gs:List (List (List Int))} {k:Nat} (hk:k < gs.length) (j:Nat):∃ r,gs.flatten = flK gs k ++ gs[k].take j ++ r:=by
 obtain ⟨r,hr⟩:=ZhM (gs:=gs) (k:=k + 1);refine ⟨gs[k].drop j ++ r,?_⟩;rw [hr,ZaG hk]
 conv=>lhs;rw [<- WaE j gs[k]]
 simp only [List.append_assoc]
theorem ZhN {gs:List (List (List Int))} (h:∀ g ∈ gs,g.length <= 10000) (k:Nat) (hk:k <= 1000):(flK gs k).length <= 10000000:=by
 have key:∀ k,(flK gs k).length <= k * 10000:=by
  intro k
  induction k with
  | zero=>simp [flK]
  | succ k ih=>
   by_cases hlt:k < gs.length
   ·rw [ZaG hlt,WI];have:=h _ (WcT hlt);omega
   ·have e:flK gs (k + 1) = flK gs k:=(Zci (gs:=gs) (k:=k + 1) (by omega)).trans (Zci (gs:=gs) (k:=k) (by omega)).symm;rw [e];exact Wc3 ih (WbW _ (Nat.le_succ k))
 have:=key k;omega
theorem ZeW {gs:List (List (List Int))} {k:Nat} (hk:k < gs.length) (he:gs[k] = []):QD gs = false:=by
 unfold QD;rw [Bool.and_eq_false_iff];left;rw [WeE];exact ⟨_,WcT hk,by simp [he]⟩
theorem ZhF {gs:List (List (List Int))} {k j:Nat} (hk:k < gs.length) (hj:j < gs[k].length) (h:ZW (flK gs k ++ gs[k].take j ++ [gs[k][j]]) = false):QD gs = false:=by
 unfold QD;rw [Bool.and_eq_false_iff];right;obtain ⟨r,hr⟩:=ZiS hk (j + 1);rw [Wo hj] at hr;rw [WQ];intro ht;rw [hr] at ht;have:=ZdZ ht;rw [<- Wa6] at this;rw [this] at h;cases h
end Ear
namespace Ear

abbrev BB:Int:=4294967296
def vl:List Int -> Int
 | []=>0
 | d :: l=>d + BB * vl l
def dgs (l:List Int):Prop:=∀ x ∈ l,0 <= x /\ x <= 4294967295
theorem Zi3 (k:Nat) : 0 < BB ^ k:=Int.pow_pos (by decide)
theorem ZaQ (k:Nat):BB ^ (k + 1) = BB * BB ^ k:=by rw [Int.pow_succ,WbD]
theorem YR (a b:List Int):vl (a ++ b) = vl a + BB ^ a.length * vl b:=by
 induction a with
 | nil=>simp [vl]
 | cons d a ih=>rw [WeO,vl,vl,ih,WZ,ZaQ,WbS,Wa8,Int.add_assoc]
theorem YG (l:List Int) (k:Nat) (hk:k < l.length):vl (l.take (k + 1)) = vl (l.take k) + BB ^ k * l[k]?.getD 0:=by
 rw [Wo hk,YR,WW hk,WaT,WbO (by omega)];simp [vl]
theorem Xe (n:Nat):vl (List.replicate n 0) = 0:=by
 induction n with
 | zero=>rfl
 | succ n ih=>rw [We4,vl,ih];rfl
theorem QL (l:List Int) (k:Nat) (v:Int) (hk:k < l.length):vl (l.set k v) = vl l + BB ^ k * (v - l[k]?.getD 0):=by
 induction l generalizing k with
 | nil=>simp at hk
 | cons d l ih=>
  cases k with
  | zero=>simp [vl];omega
  | succ k=>
   rw [WfC,vl,vl,ih k (by simpa using hk),ZaQ,WcQ,WbS,Wa8,Int.add_assoc]
theorem Zc7 {l:List Int} (h:dgs l) : 0 <= vl l /\ vl l < BB ^ l.length:=by
 induction l with
 | nil=>simp [vl]
 | cons d l ih=>
  have h1:=h d (WbA ..);have h2:=ih fun x hx=>h x (Wb6 _ hx);rw [vl,WZ,ZaQ];have h3:BB * (vl l + 1) <= BB * BB ^ l.length:=WbK (by omega) (by decide);have h4 : 0 <= BB * vl l:=WcX (by decide) h2.1;rw [WbS] at h3;simp only [BB] at *
  omega
theorem JH {l:List Int} (h:dgs l) (k:Nat) : 0 <= l[k]?.getD 0 /\ l[k]?.getD 0 <= 4294967295:=by
 by_cases hk:k < l.length
 ·rw [WW hk];exact h _ (WcT hk)
 ·rw [WF (by omega)];simp
theorem Zx {l:List Int} (h:dgs l) (k:Nat) {v:Int} (h0 : 0 <= v) (h1:v <= 4294967295):dgs (l.set k v):=by
 intro x hx;rcases WcI hx with h2 | h2
 ·exact h x h2
 ·omega
theorem J6 (n:Nat):dgs (List.replicate n 0):=by
 intro x hx;have:=WbM hx;omega
theorem ZaI {l:List Int} (h:dgs l) (k:Nat):dgs (l.take k):=fun x hx=>h x (WbX hx)
def zer (l:List Int) (k:Nat):Prop:=∀ q,k <= q -> l[q]?.getD 0 = 0
theorem Zic {l:List Int} {k:Nat} (h:zer l k):vl l = vl (l.take k):=by
 have e:l = l.take k ++ l.drop k:=(WaE k l).symm;have hz:vl (l.drop k) = 0:=by
  have:l.drop k = List.replicate (l.drop k).length 0:=by
   apply WcU (by simp);intro q h1 h2;have:=h (k + q) (by omega);rw [WW (by simp at h1;omega)] at this;simpa using this
  rw [this,Xe]
 conv=>lhs;rw [e]
 rw [YR,hz];simp
theorem Zb3 {x y:Int} (hx : 0 <= x /\ x <= 4294967295) (hy : 0 <= y /\ y <= 4294967295) : 0 <= x * y /\ x * y <= 18446744065119617025:=by
 have h1:=WcX hx.1 hy.1;have h2:x * y <= 4294967295 * 4294967295:=WdB hx.2 hy.2 hy.1 (by decide);omega
end Ear
namespace Ear

def nd (n:Nat):List Int:=if h:n = 0 then [] else ((n % 4294967296:Nat):Int) :: nd (n / 4294967296)
termination_by n
decreasing_by omega
theorem JG:nd 0 = []:=by rw [nd];simp
theorem YX {n:Nat} (h:n ≠ 0):nd n = ((n % 4294967296:Nat):Int) :: nd (n / 4294967296):=by rw [nd];simp [h]
theorem Ju (n:Nat):vl (nd n) = n:=by
 induction n using Nat.strongRecOn with
 | ind n ih=>
  by_cases h:n = 0
  ·subst h;rw [JG];rfl
  ·rw [YX h,vl,ih _ (by omega)];simp only [BB];omega
theorem JC (n:Nat):dgs (nd n):=by
 induction n using Nat.strongRecOn with
 | ind n ih=>
  by_cases h:n = 0
  ·subst h;rw [JG];intro x hx;simp at hx
  ·rw [YX h];intro x hx;rcases WE.1 hx with rfl | hx
   ·omega
   ·exact ih _ (by omega) x hx
def cn (l:List Int):Prop:=l[l.length - 1]?.getD 1 ≠ 0
theorem Zff:cn []:=by unfold cn;simp
theorem ZhX {d:Int} {l:List Int} (h:cn (d :: l)):cn l:=by
 unfold cn at *
 cases l with
 | nil=>simp
 | cons e l=>simpa using h
theorem Jx {l:List Int} (h:dgs l) : 0 <= vl l:=(Zc7 h).1
theorem ZaJ {d:Int} {l:List Int} (h:dgs (d :: l)):dgs l:=fun x hx=>h x (Wb6 _ hx)
theorem Ziv {l:List Int} (hd:dgs l) (hc:cn l):l = nd (vl l).toNat:=by
 induction l with
 | nil=>simp [vl,JG]
 | cons d l ih=>
  have h0:=hd d (WbA ..);have i:=ih (ZaJ hd) (ZhX hc);have hv:=Jx (ZaJ hd);have hne:(vl (d :: l)).toNat ≠ 0:=by
   cases l with
   | nil=>
    have:d ≠ 0:=(by unfold cn at hc;simpa using hc);simp [vl];omega
   | cons e l=>
    have:(vl (e :: l)).toNat ≠ 0:=by
     intro h;rw [h,JG] at i;cases i
    rw [vl];simp only [BB];omega
  rw [YX hne];have e1:(vl (d :: l)).toNat % 4294967296 = d.toNat:=by rw [vl];simp only [BB];omega
  have e2:(vl (d :: l)).toNat / 4294967296 = (vl l).toNat:=by rw [vl];simp only [BB];omega
  rw [e1,e2,<- i];congr 1;omega
theorem Zjk (n:Nat):cn (nd n):=by
 induction n using Nat.strongRecOn with
 | ind n ih=>
  by_cases h:n = 0
  ·subst h;rw [JG];exact Zff
  ·have i:=ih (n / 4294967296) (by omega);rw [YX h];by_cases h2:n / 4294967296 = 0
   ·rw [h2,JG];unfold cn;simp;omega
   ·unfold cn at *
    rw [YX h2] at *
    simpa using i
theorem ZhW {l:List Int} {k:Nat} (h:k = 0 ∨ l[k - 1]?.getD 0 ≠ 0):cn (l.take k):=by
 rcases h with rfl | h
 ·simp;exact Zff
 ·have hk:k - 1 < l.length:=by
   rcases WaS (k - 1) l.length with h1 | h1
   ·exact h1
   ·rw [WF h1] at h;exact absurd rfl h
  by_cases h0:k = 0
  ·subst h0;simp;exact Zff
  ·unfold cn;rw [WaT,WbO (by omega),WdH (by omega)];rw [WW hk] at h ⊢;exact h
theorem Zb0 {l:List Int} {k:Nat} (hd:dgs l) (hz:zer l k) (h:k = 0 ∨ l[k - 1]?.getD 0 ≠ 0):l.take k = nd (vl l).toNat:=by
 rw [Zic hz];exact Ziv (ZaI hd k) (ZhW h)
theorem JV {n k:Nat} (h:n < 4294967296 ^ k):(nd n).length <= k:=by
 induction k generalizing n with
 | zero=>
  have:n = 0:=by simpa using h
  rw [this,JG];simp
 | succ k ih=>
  by_cases h0:n = 0
  ·rw [h0,JG];simp
  ·rw [YX h0,WZ];have:=ih (n:=n / 4294967296) (by rw [WbC] at h;exact WeV (by rw [Wb8];exact h));omega
theorem Qt (k:Nat):BB ^ k = ((4294967296 ^ k:Nat):Int):=by simp [BB]
theorem Vr (n:Nat):n < 4294967296 ^ (nd n).length:=by
 have h:=(Zc7 (JC n)).2;rw [Ju,Qt] at h;omega
theorem Ziw {n:Nat} (h0:n ≠ 0) : 4294967296 ^ ((nd n).length - 1) <= n:=by
 rcases WaS n (4294967296 ^ ((nd n).length - 1)) with h | h
 ·have h1:=JV h;have:(nd n).length ≠ 0:=by rw [YX h0];simp
  omega
 ·exact h
theorem Zez {n:Nat}:nd n = [] ↔ n = 0:=by
 constructor
 ·intro h;have:=Ju n;rw [h] at this;simp [vl] at this;omega
 ·rintro rfl;exact JG
theorem Jw {n:Nat}:(nd n).length = 0 ↔ n = 0:=by rw [Wb7];exact Zez
theorem ZgV {n m:Nat} (h:nd n = nd m):n = m:=by
 have h1:=Ju n;have h2:=Ju m;rw [h] at h1;omega
theorem Jl {n m:Nat} (h:n <= m):(nd n).length <= (nd m).length:=JV (Wa9 h (Vr m))
theorem JM (n m:Nat):(nd (n * m)).length <= (nd n).length + (nd m).length:=by
 apply JV;rw [WcH];exact Nat.mul_lt_mul'' (Vr n) (Vr m)
theorem Xx (n m k:Nat) (h1:(nd n).length <= k) (h2:(nd m).length <= k):(nd (n + m)).length <= k + 1:=by
 apply JV;have a:=Vr n;have b:=Vr m;have c:=Wa4 (show 0 < 4294967296 by decide) h1;have d:=Wa4 (show 0 < 4294967296 by decide) h2;rw [WbC];omega
theorem Vs {n m:Nat} (h:(nd n).length < (nd m).length):n < m:=by
 rcases WaS n m with h1 | h1
 ·exact h1
 ·have:=Jl h1;omega
theorem YN:nd 1 = [1]:=by rw [YX (by decide)];simp [JG]
theorem Zcw {a b:List Int} (ha:dgs a) (hb:dgs b) (hl:a.length = b.length) {i:Nat} (hi:i < a.length) (hd:a.drop (i + 1) = b.drop (i + 1)) (h:a[i]?.getD 0 < b[i]?.getD 0):vl a < vl b:=by
 have key:∀ l:List Int,i < l.length -> vl l = vl (l.take i) + BB ^ i * (l[i]?.getD 0 + BB * vl (l.drop (i + 1))):=by
  intro l hl
  conv=>lhs;rw [<- WaE i l]
  rw [YR,WaT,WbO (by omega),Wv hl,vl,WW hl];rfl
 rw [key a hi,key b (by omega),hd];have t1:=(Zc7 (ZaI ha i)).2;have t2:=(Zc7 (ZaI hb i)).1;have hlen:(a.take i).length = i:=by simp;omega
 rw [hlen] at t1;have m:BB ^ i * (a[i]?.getD 0 + 1 + BB * vl (b.drop (i + 1))) <= BB ^ i * (b[i]?.getD 0 + BB * vl (b.drop (i + 1))):=WbK (by omega) (Int.le_of_lt (Zi3 i));have e:BB ^ i * (a[i]?.getD 0 + 1 + BB * vl (b.drop (i + 1))) = BB ^ i * (a[i]?.getD 0 + BB * vl (b.drop (i + 1))) + BB ^ i:=by
  rw [show a[i]?.getD 0 + 1 + BB * vl (b.drop (i + 1)) = (a[i]?.getD 0 + BB * vl (b.drop (i + 1))) + 1 by omega,WbS,We6]
 omega
def Uv (n m:Nat):Int:=if n < m then -1 else if n = m then 0 else 1
theorem Yu {n m:Nat} (h:n < m):Uv n m = -1:=by simp [Uv,h]
theorem Yf {n m:Nat} (h:m < n):Uv n m = 1:=by unfold Uv;rw [Ww (by omega),Ww (by omega)]
theorem Yv {n m:Nat} (h:n = m):Uv n m = 0:=by unfold Uv;rw [Ww (by omega),WA h]
theorem ZbG {a b:List Int} {i:Nat} (hl:a.length = b.length) (h:a.drop (i + 1) = b.drop (i + 1)) (he:a[i]?.getD 0 = b[i]?.getD 0):a.drop i = b.drop i:=by
 by_cases hi:i < a.length
 ·rw [Wv hi,Wv (show i < b.length by omega),h];rw [WW hi,WW (show i < b.length by omega)] at he;simp at he;rw [he]
 ·rw [WN (by omega),WN (by omega)]
structure PlusAt (a b out:List Int) (i:Nat) (c:Int):Prop where
 len:out.length = i
 dig:dgs out
 c0 : 0 <= c
 c1:c <= 1
 val:vl out + BB ^ i * c = vl (a.take i) + vl (b.take i)
theorem YH (l:List Int) (k:Nat):vl (l.take (k + 1)) = vl (l.take k) + BB ^ k * l[k]?.getD 0:=by
 by_cases hk:k < l.length
 ·exact YG l k hk
 ·rw [Wm (by omega),Wm (by omega),WF (by omega)];simp
theorem PlusAt.start (a b:List Int):PlusAt a b [] 0 0:=⟨rfl,fun x hx=>by simp at hx,by omega,by omega,by simp [vl]⟩
theorem PlusAt.next {a b out:List Int} {i:Nat} {c:Int} (h:PlusAt a b out i c) (ha:dgs a) (hb:dgs b) {t:Int} (ht:t = c + a[i]?.getD 0 + b[i]?.getD 0):PlusAt a b (out ++ [t % 4294967296]) (i + 1) (t / 4294967296):=by
 have h1:=JH ha i;have h2:=JH hb i;have h3:=h.c0;have h4:=h.c1;refine ⟨by simp [h.len],?_,by omega,by omega,?_⟩
 ·intro x hx;rcases WY.1 hx with hx | hx
  ·exact h.dig x hx
  ·simp at hx;omega
 ·rw [YR,h.len,YH,YH];have hv:=h.val;simp only [vl,Int.mul_zero,Int.add_zero];have e1:BB ^ (i + 1) * (t / 4294967296) = BB ^ i * (BB * (t / 4294967296)):=by rw [Int.pow_succ,Wa8]
  have e2:BB * (t / 4294967296) = t - t % 4294967296:=by simp only [BB];omega
  rw [e1,e2,Int.mul_sub,ht,WbS,WbS];omega
theorem PlusAt.done {a b out:List Int} {i:Nat} (h:PlusAt a b out i 0) (ha:a.length <= i) (hb:b.length <= i):vl out = vl a + vl b:=by
 have:=h.val;rw [Wm ha,Wm hb] at this;simpa using this
structure MinusAt (a b out:List Int) (i:Nat) (c:Int):Prop where
 len:out.length = i
 dig:dgs out
 c0 : 0 <= c
 c1:c <= 1
 val:vl out - BB ^ i * c = vl (a.take i) - vl (b.take i)
theorem MinusAt.start (a b:List Int):MinusAt a b [] 0 0:=⟨rfl,fun x hx=>by simp at hx,by omega,by omega,by simp [vl]⟩
theorem MinusAt.next {a b out:List Int} {i:Nat} {c d t:Int} (h:MinusAt a b out i c) (hd0 : 0 <= d) (hd1:d <= 1) (ht:t = a[i]?.getD 0 - (c + b[i]?.getD 0) + 4294967296 * d) (h0 : 0 <= t) (h1:t <= 4294967295):MinusAt a b (out ++ [t]) (i + 1) d:=by
 refine ⟨by simp [h.len],?_,hd0,hd1,?_⟩
 ·intro x hx;rcases WY.1 hx with hx | hx
  ·exact h.dig x hx
  ·simp at hx;omega
 ·rw [YR,h.len,YH,YH];have hv:=h.val;simp only [vl,Int.mul_zero,Int.add_zero];have e1:BB ^ (i + 1) * d = BB ^ i * (4294967296 * d):=by rw [Int.pow_succ,Wa8]
  rw [e1,ht,WbS,Int.mul_sub,WbS];omega
theorem MinusAt.done {a b out:List Int} {c:Int} (h:MinusAt a b out a.length c) (hl:b.length <= a.length) (hle:vl b <= vl a):vl out = vl a - vl b:=by
 have hv:=h.val;rw [Wm (WK _),Wm hl] at hv;have bd:=(Zc7 h.dig).2;rw [h.len] at bd;have h3:=h.c0;have h4:=h.c1;rcases (show c = 0 ∨ c = 1 by omega) with rfl | rfl
 ·simpa using hv
 ·exfalso;rw [We6] at hv;omega
structure MulIn (a b out:List Int) (i j:Nat) (c:Int):Prop where
 len:out.length = a.length + b.length
 dig:dgs out
 zer:zer out (i + b.length)
 c0 : 0 <= c
 c1:c <= 4294967295
 val:vl out + BB ^ (i + j) * c = vl (a.take i) * vl b + BB ^ i * (a[i]?.getD 0 * vl (b.take j))
structure MulOut (a b out:List Int) (i:Nat):Prop where
 len:out.length = a.length + b.length
 dig:dgs out
 zer:zer out (i + b.length)
 val:vl out = vl (a.take i) * vl b
theorem Vd (n k:Nat):zer (List.replicate n 0) k:=by
 intro q _;by_cases hq:q < n
 ·rw [WW (by simpa using hq)];simp
 ·rw [WF (by simpa using WdX hq)];rfl
theorem MulOut.start (a b:List Int):MulOut a b (List.replicate (a.length + b.length) 0) 0:=
 ⟨by simp,J6 _,Vd _ _,by rw [Xe];simp [vl]⟩
theorem MulOut.enter {a b out:List Int} {i:Nat} (h:MulOut a b out i):MulIn a b out i 0 0:=
 ⟨h.len,h.dig,h.zer,by omega,by omega,by rw [h.val];simp [vl]⟩
theorem MulIn.next {a b out:List Int} {i j:Nat} {c:Int} (h:MulIn a b out i j c) (ha:dgs a) (hb:dgs b) (hi:i < a.length) (hj:j < b.length) {t:Int} (ht:t = c + (out[i + j]?.getD 0 + a[i]?.getD 0 * b[j]?.getD 0)) :
  MulIn a b (out.set (i + j) (t % 4294967296)) i (j + 1) (t / 4294967296):=by
 have hx:=JH ha i;have hy:=JH hb j;have hp:=Zb3 hx hy;have ho:=JH h.dig (i + j);have h0:=h.c0;have h1:=h.c1;refine ⟨by simp [h.len],Zx h.dig _ (by omega) (by omega),?_,by omega,by omega,?_⟩
 ·intro q hq;rw [WaW (by omega)];exact h.zer q hq
 ·rw [QL _ _ _ (by rw [h.len];omega),YG b j hj];have hv:=h.val;have e1:BB ^ (i + (j + 1)) * (t / 4294967296) = BB ^ (i + j) * (BB * (t / 4294967296)):=by
   rw [<- WbJ,Int.pow_succ,Wa8]
  have e2:BB * (t / 4294967296) = t - t % 4294967296:=by simp only [BB];omega
  have e3:BB ^ i * (a[i]?.getD 0 * (vl (b.take j) + BB ^ j * b[j]?.getD 0)) = BB ^ i * (a[i]?.getD 0 * vl (b.take j)) + BB ^ (i + j) * (a[i]?.getD 0 * b[j]?.getD 0):=by
   rw [WbS,WbS,Int.pow_add];congr 1;rw [Wa8,<- Wa8 (a[i]?.getD 0),WbD (a[i]?.getD 0) (BB ^ j),Wa8]
  rw [e1,e2,e3];have e4:BB ^ (i + j) * (t % 4294967296 - out[i + j]?.getD 0) + BB ^ (i + j) * (t - t % 4294967296) = BB ^ (i + j) * c + BB ^ (i + j) * (a[i]?.getD 0 * b[j]?.getD 0):=by
   rw [<- WbS,<- WbS];congr 1;omega
  omega
theorem MulIn.leave {a b out:List Int} {i:Nat} {c:Int} (h:MulIn a b out i b.length c) (hi:i < a.length):MulOut a b (out.set (i + b.length) c) (i + 1):=by
 refine ⟨by simp [h.len],Zx h.dig _ h.c0 h.c1,?_,?_⟩
 ·intro q hq;rw [WaW (by omega)];exact h.zer q (by omega)
 ·have hv:=h.val;rw [WdD] at hv;rw [QL _ _ _ (by rw [h.len];omega),h.zer _ (WK _),YG a i hi,Int.sub_zero,hv,We7,Wa8]
theorem MulOut.done {a b out:List Int} (h:MulOut a b out a.length):vl out = vl a * vl b:=by
 rw [h.val,WdD]
end Ear
namespace Ear

def sg (neg:Bool) (n:Nat):Int:=if neg then -(n:Int) else n
def fq (neg:Bool) (n d:Nat):Rat:=mkRat (sg neg n) (if d = 0 then 1 else d)
def qs (q:Rat):Bool:=decide (q.num < 0)
def qn (q:Rat):Nat:=q.num.natAbs
def XH (q:Rat):Int:=if q.num < 0 then -1 else if q.num = 0 then 0 else 1
theorem Zft {neg:Bool} {n d:Nat} (h:d ≠ 0):fq neg n d = mkRat (sg neg n) d:=by unfold fq;rw [Ww h]
theorem ZgT (neg:Bool) (n:Nat):(sg neg n).natAbs = n:=by unfold sg;split <;> omega
theorem Zim (neg:Bool) (n:Nat):sg (!neg) n = -sg neg n:=by unfold sg;cases neg <;> simp
theorem Zin (a b:Bool) (n m:Nat):sg a n * sg b m = sg (a != b) (n * m):=by
 unfold sg;cases a <;> cases b <;> simp [Int.neg_mul,Int.mul_neg]
theorem Zeg (a:Bool) (n m:Nat):sg a n * (m:Int) = sg a (n * m):=by
 unfold sg;cases a <;> simp [Int.neg_mul]
theorem Ze6 {a b:Bool} {n m d e:Nat} (hd:d ≠ 0) (he:e ≠ 0):fq a n d * fq b m e = fq (a != b) (n * m) (d * e):=by
 rw [Zft hd,Zft he,Zft (Wb4 hd he),Rat.mkRat_mul_mkRat,Zin]
theorem Zg1 {a b:Bool} {n m d e:Nat} (hd:d ≠ 0) (he:e ≠ 0):fq a n d + fq b m e = mkRat (sg a (n * e) + sg b (m * d)) (d * e):=by
 rw [Zft hd,Zft he,Rat.mkRat_add_mkRat _ _ hd he,Zeg,Zeg]
theorem Qb {a:Bool} {n m d e:Nat} (hd:d ≠ 0) (he:e ≠ 0):fq a n d + fq a m e = fq a (n * e + m * d) (d * e):=by
 rw [Zg1 hd he,Zft (Wb4 hd he)];congr 1;unfold sg;cases a <;> simp <;> omega
theorem Qc {a b:Bool} {n m d e:Nat} (hd:d ≠ 0) (he:e ≠ 0) (hab:a ≠ b) (h:m * d <= n * e):fq a n d + fq b m e = fq a (n * e - m * d) (d * e):=by
 rw [Zg1 hd he,Zft (Wb4 hd he)];congr 1;unfold sg;cases a <;> cases b <;> simp at hab ⊢ <;> omega
theorem ZbD {a b:Bool} {n m d e:Nat} (hd:d ≠ 0) (he:e ≠ 0) (hab:a ≠ b) (h:n * e <= m * d):fq a n d + fq b m e = fq b (m * d - n * e) (d * e):=by
 rw [Rat.add_comm,Qc he hd (WeH hab) h,Wb8 e d]
theorem ZiP (a:Bool) (n d:Nat) : -fq a n d = fq (!a) n d:=by
 unfold fq;rw [Zim,Rat.neg_mkRat]
theorem ZiO {a:Bool} {n d:Nat} (hd:d ≠ 0):(fq a n d).num = sg a (n / n.gcd d) /\ (fq a n d).den = d / n.gcd d:=by
 rw [Zft hd,Rat.num_mkRat,Rat.den_mkRat,Ww hd,Ww hd,ZgT,WdS d n];refine ⟨?_,rfl⟩;unfold sg;cases a
 ·simp
 ·have hg:(n.gcd d:Int) ∣ (n:Int):=Int.natCast_dvd_natCast.2 (Nat.gcd_dvd_left n d);simp [Int.neg_ediv_of_dvd hg]
theorem ZG {a:Bool} {n d:Nat} (hd:d ≠ 0):qs (fq a n d) = (a && decide (n ≠ 0)) /\ qn (fq a n d) = n / n.gcd d /\ (fq a n d).den = d / n.gcd d:=by
 obtain ⟨h1,h2⟩:=ZiO (a:=a) (n:=n) hd;have hz:n / n.gcd d = 0 ↔ n = 0:=by
  constructor
  ·intro h;rcases WdJ n with h0 | h0
   ·exact h0
   ·have:=Nat.div_pos (Nat.le_of_dvd h0 (Nat.gcd_dvd_left n d)) (WeI d h0);omega
  ·rintro rfl;simp
 refine ⟨?_,?_,h2⟩
 ·clear h2;generalize n / n.gcd d = t at *
  unfold qs;rw [h1];unfold sg;cases a
  ·simp
  ·by_cases h0:n = 0
   ·rw [hz.2 h0];simp [h0]
   ·have:t ≠ 0:=fun h=>h0 (hz.1 h);simp [h0];omega
 ·unfold qn;rw [h1,ZgT]
theorem Zil (q:Rat):sg (qs q) (qn q) = q.num:=by
 unfold sg qs qn;by_cases h:q.num < 0
 ·simp [h];omega
 ·simp [h];omega
theorem XX (q:Rat):fq (qs q) (qn q) q.den = q:=by
 rw [Zft q.den_nz,Zil];exact Rat.mkRat_self q
theorem Zir (q:Rat):(qn q).gcd q.den = 1:=q.reduced
theorem ZiN {a:Bool} {n d:Nat} (hd:d ≠ 0):XH (fq a n d) = if n = 0 then 0 else if a then -1 else 1:=by
 obtain ⟨h1,h2,_⟩:=ZG (a:=a) (n:=n) hd;have hz:qn (fq a n d) = 0 ↔ n = 0:=by
  rw [h2];constructor
  ·intro h;rcases WdJ n with h0 | h0
   ·exact h0
   ·have:=Nat.div_pos (Nat.le_of_dvd h0 (Nat.gcd_dvd_left n d)) (WeI d h0);omega
  ·rintro rfl;simp
 unfold XH;unfold qs at h1;unfold qn at hz;clear h2;generalize (fq a n d).num = z at *
 by_cases h0:n = 0
 ·rw [WA h0];have:=hz.2 h0;rw [Ww (by omega),WA (by omega)]
 ·rw [Ww h0];have h3:¬ z = 0:=fun h=>h0 (hz.1 (by omega));cases a
  ·simp at h1 ⊢;rw [Ww (by omega),Ww h3]
  ·simp [h0] at h1 ⊢;intro h4;omega
theorem ZiQ {a:Bool} {n d:Nat} (hd:d ≠ 0) (hn:n ≠ 0):(fq a n d)⁻¹ = fq a d n:=by
 have h1:fq a n d * fq a d n = 1:=by
  rw [Ze6 hd hn,Wb8 d n];have e:(a != a) = false:=by cases a <;> rfl
  rw [e,Zft (Wb4 hn hd)];unfold sg;rw [Ww (by simp)];have:=Rat.mkRat_mul_left (n:=1) (d:=1) (a:=n * d) (Wb4 hn hd);have e1:mkRat 1 1 = 1:=rfl;rw [e1] at this;simpa using this
 exact Rat.inv_eq_of_mul_eq_one h1
end Ear
namespace Ear

theorem Zij {a:Bool} {n d:Nat} (hd:d ≠ 0):(nd (qn (fq a n d))).length <= (nd n).length /\ (nd (fq a n d).den).length <= (nd d).length:=by
 obtain ⟨_,h2,h3⟩:=ZG (a:=a) (n:=n) hd;rw [h2,h3];exact ⟨Jl (WdK _ _),Jl (WdK _ _)⟩
structure Sz (q:Rat) (k:Nat):Prop where
 num:(nd (qn q)).length <= k
 den:(nd q.den).length <= k
theorem Sz.mono {q:Rat} {k l:Nat} (h:Sz q k) (hl:k <= l):Sz q l:=⟨Wc3 h.num hl,Wc3 h.den hl⟩
theorem Sz.fq {a:Bool} {n d k:Nat} (hd:d ≠ 0) (h1:(nd n).length <= k) (h2:(nd d).length <= k):Sz (Ear.fq a n d) k:=
 ⟨Wc3 (Zij hd).1 h1,Wc3 (Zij hd).2 h2⟩
theorem Sz.mul {p q:Rat} {k l:Nat} (h1:Sz p k) (h2:Sz q l):Sz (p * q) (k + l):=by
 have h:=Ze6 (a:=qs p) (b:=qs q) (n:=qn p) (m:=qn q) p.den_nz q.den_nz;rw [XX,XX] at h;rw [h];have a1:=h1.num;have a2:=h1.den;have a3:=h2.num;have a4:=h2.den;exact Sz.fq (Wb4 p.den_nz q.den_nz) (Wc3 (JM _ _) (by omega)) (Wc3 (JM _ _) (by omega))
theorem Ze5 (p q:Rat):p + q = if qs p = qs q then fq (qs p) (qn p * q.den + qn q * p.den) (p.den * q.den) else if qn p * q.den < qn q * p.den then fq (qs q) (qn q * p.den - qn p * q.den) (p.den * q.den) else fq (qs p) (qn p * q.den - qn q * p.den) (p.den * q.den):=by
 conv=>lhs;rw [<- XX p,<- XX q]
 split
 ·rename_i h;rw [<- h];exact Qb p.den_nz q.den_nz
 ·rename_i h;split
  ·rename_i h2;exact ZbD p.den_nz q.den_nz h (Wd9 h2)
  ·rename_i h2;exact Qc p.den_nz q.den_nz h (WdX h2)
theorem Sz.add {p q:Rat} {k l:Nat} (h1:Sz p k) (h2:Sz q l):Sz (p + q) (k + l + 1):=by
 have hd:p.den * q.den ≠ 0:=Wb4 p.den_nz q.den_nz;have a1:=h1.num;have a2:=h1.den;have a3:=h2.num;have a4:=h2.den;have b1:=JM (qn p) q.den;have b2:=JM (qn q) p.den;have b3:=JM p.den q.den;rw [Ze5];split
 ·exact Sz.fq hd (Xx _ _ (k + l) (by omega) (by omega)) (by omega)
 ·split
  ·exact Sz.fq hd (Wc3 (Jl (Wd3 _ _)) (by omega)) (by omega)
  ·exact Sz.fq hd (Wc3 (Jl (Wd3 _ _)) (by omega)) (by omega)
theorem ZgU (q:Rat):qn (-q) = qn q:=by unfold qn;rw [Rat.neg_num];omega
theorem Zfd (q:Rat):(-q).den = q.den:=Rat.neg_den ..
theorem Sz.neg {q:Rat} {k:Nat} (h:Sz q k):Sz (-q) k:=⟨by rw [ZgU];exact h.num,by rw [Zfd];exact h.den⟩
theorem Sz.int {z:Int} {k:Nat} (h:(nd z.natAbs).length <= k) (h1 : 1 <= k):Sz (z:Rat) k:=
 ⟨by unfold qn;rw [Rat.num_intCast];exact h,by rw [Rat.den_intCast,YN];exact h1⟩
theorem Sz.i64 {z:Int} (h1 : -9223372036854775808 <= z) (h2:z <= 9223372036854775807):Sz (z:Rat) 2:=
 Sz.int (JV (by simp;omega)) (by decide)
theorem Ziq (q:Rat):qs (-q) = (!qs q && decide (qn q ≠ 0)):=by
 unfold qs qn;rw [Rat.neg_num];generalize q.num = z;by_cases h1:z < 0
 ·simp [h1];omega
 ·by_cases h2:z = 0
  ·subst h2;simp
  ·have h3 : -z < 0:=by omega
   simp [h1,h2];omega
theorem Zep {q:Rat}:qn q = 0 ↔ q = 0:=by
 unfold qn;rw [Int.natAbs_eq_zero];exact Rat.num_eq_zero
theorem U4 {q:Rat} (h:q ≠ 0):qs q⁻¹ = qs q /\ qn q⁻¹ = q.den /\ (q⁻¹).den = qn q:=by
 have hn:qn q ≠ 0:=fun e=>h (Zep.1 e);have e:q⁻¹ = fq (qs q) q.den (qn q):=by
  conv=>lhs;rw [<- XX q]
  exact ZiQ q.den_nz hn
 obtain ⟨h1,h2,h3⟩:=ZG (a:=qs q) (n:=q.den) hn;rw [e,h1,h2,h3,WdS,Zir,WeJ,WeJ];refine ⟨?_,rfl,rfl⟩;have:=q.den_nz;simp [this]
end Ear
namespace Ear

def ZaS (vs:List (List Int)) (n k j:Nat):List Int:=(List.range n).map fun c=>if c < j then Qu vs c (k + 1) else Qu vs c k
theorem Zet (vs:List (List Int)) (n k:Nat):ZaS vs n k 0 = QS vs n k:=by
 unfold ZaS QS;apply List.map_congr_left;intro c _;rw [Ww (by omega)]
theorem Zf0 (vs:List (List Int)) (n k:Nat):ZaS vs n k n = QS vs n (k + 1):=by
 unfold ZaS QS;apply List.map_congr_left;intro c hc;rw [WA (WT.1 hc)]
theorem UT (vs:List (List Int)) (n k j:Nat):(ZaS vs n k j).length = n:=by simp [ZaS]
theorem ZfZ {vs:List (List Int)} {n k j:Nat} (hj:j < n):(ZaS vs n k j)[j]?.getD 0 = Qu vs j k:=by
 simp [ZaS,List.getElem?_range hj]
theorem ZfY {vs:List (List Int)} {n k j:Nat}:(ZaS vs n k j).set j (Qu vs j k + (vs[k]?.getD [])[j]?.getD 0) = ZaS vs n k (j + 1):=by
 apply WcU (by simp [ZaS]);intro q h1 h2;have hq:q < n:=by simpa [ZaS] using h2
 rw [Wd0];simp only [ZaS,List.getElem_map,List.getElem_range];by_cases e:j = q
 ·subst e;rw [WA rfl,WA (by omega)];rfl
 ·rw [Ww e];by_cases h3:q < j
  ·rw [WA h3,WA (by omega)]
  ·rw [Ww h3,Ww (by omega)]
theorem Zh1 {lo hi:Int} {l:List Int} (h:ZJ lo hi l = true) {k:Nat} (hk:k < l.length):lo <= l[k]?.getD 0 /\ l[k]?.getD 0 <= hi:=by
 rw [WW hk,WaH];exact VP h (WcT hk)
def gD (va vb:List (List Int)) (c:Nat):Int:=Qu va c va.length * vb.length - Qu vb c vb.length * va.length
def gI (va vb:List (List Int)):Nat -> Int
 | 0=>0
 | c + 1=>gI va vb c + gD va vb c * gD va vb c
def Zgr (va vb:List (List Int)):Rat:=(gI va vb (len0 va):Rat) * (((va.length * vb.length * (va.length + vb.length):Nat):Int):Rat)⁻¹
end Ear
namespace Ear
end Ear
namespace Go.Proofs.YtcjicjfbippmnaaGreat
open Go.RowKit
abbrev _root_.Wg:=@heap_alloc_new
abbrev _root_.Wp:=@Below.refl
abbrev _root_.Ws:=@World.cell?_of_block
abbrev _root_.Wu:=@Below.heap_setCell
abbrev _root_.Wx:=@cell_of_row
abbrev _root_.WB:=@bodyPost_ret
abbrev _root_.WC:=@wpAnyH_done
abbrev _root_.WJ:=@World.ownsRow_nil
abbrev _root_.WM:=@IntWalk.i64_in
abbrev _root_.WaA:=@RowKit.Below.heap_setCell
abbrev _root_.WaC:=@Below.heap_alloc
abbrev _root_.WaD:=@Lib.run_eql_slice_nil
abbrev _root_.WaI:=@info_parts
abbrev _root_.WaY:=@World.grownBy.refl
abbrev _root_.WaZ:=@RowKit.Below.heap_alloc
abbrev _root_.Wa2:=@ByteArray.toList_eq
abbrev _root_.Wa5:=@World.drewN_drewN
abbrev _root_.WbV:=@wpList_append_own_at
abbrev _root_.WbY:=@World.frozen?_of_block
abbrev _root_.Wb3:=@IntWalk.u64_in
abbrev _root_.WcA:=@World.ownsRow_lit
abbrev _root_.WcB:=@RowKit.Below.refl
abbrev _root_.WcL:=@enters_of
abbrev _root_.Wc2:=@callsIn_wide
abbrev _root_.Wc8:=@World.cell?_alloc_lt
abbrev _root_.WdV:=@Addr.add_lit
abbrev _root_.WeD:=@Calls.quiet_of
abbrev _root_.WeZ:=@AllReadyH.cons
abbrev _root_.WfG:=@run_sliceAt_slice
theorem _root_.zH {p:Prop} (h:p):Hid p:=Lib.hid h
abbrev _root_.gT (b:Act) (k:Nat):Value:=b.tmps.getD k undef
theorem _root_.zA {α:Type _} (l:List α) (i:Nat) (a : α):l.toArray.setIfInBounds i a = (l.set i a).toArray:=List.setIfInBounds_toArray l i a
theorem _root_.zB {α:Type _} {x : α} {xs:List α} {a : α}:(x :: xs).set 0 a = a :: xs:=rfl
theorem _root_.zC {α:Type _} {x : α} {xs:List α} {i:Nat} {a : α}:(x :: xs).set (i + 1) a = x :: xs.set i a:=rfl
theorem _root_.bR {b:Nat} {w:World}:Below b w w:=Below.refl _ _
theorem _root_.nR {n:Nat}:n <= n:=WK _
theorem _root_.cR {w:World} {g:Nat} {cs:Array Value} {t:TypeId} {fr:Nat × Nat} (j:Nat) (h:w.heap[g]? = some (.cells cs t fr)):w.cell? ⟨g,j,none⟩ = cs[j]?:=cell_of_row _ _ j _ _ _ h
theorem _root_.aE {α:Type _} {i:Nat} {b : α} {xs:Array α} (h:xs[i]? = some b):∃ h:i < xs.size,xs[i] = b:=WG.1 h
theorem _root_.tR {a b c:Nat}:a <= b -> b <= c -> a <= c:=Wc3
theorem _root_.gM {α:Type _} {l:List α} {n:Nat} (h:n < l.length):l[n] ∈ l:=WcT h
theorem _root_.dF {p:Prop} [Decidable p]:¬p -> decide p = false:=decide_eq_false
theorem _root_.gE {α:Type _} {l:List α} {i:Nat} (h:i < l.length):l[i]? = some l[i]:=WW h

def Lies (w:World) (A:Option Addr) (xs:List Value):Prop:=
 0 < xs.length -> ∃ b off,A = some ⟨b,off,none⟩ /\ b < w.heap.size /\ ∀ k u,xs[k]? = some u -> w.cell? ⟨b,off + k,none⟩ = some u

abbrev ics (l:List Int):List Value:=l.map (Value.int .i64)

theorem Lies.nil (w:World) (A:Option Addr):Lies w A []:=fun h=>absurd h (by simp)

theorem Lies.keep {w w':World} {A:Option Addr} {xs:List Value} (h:Lies w A xs) (hs:w.heap.size <= w'.heap.size)
  (hk:∀ p:Addr,p.block < w.heap.size -> w'.cell? p = w.cell? p):Lies w' A xs:=fun h0=>by
 obtain ⟨b,off,e,hb,hc⟩:=h h0;exact ⟨b,off,e,by omega,fun k u hu=>(hk _ hb).trans (hc k u hu)⟩
theorem Lies.below {w w':World} {A:Option Addr} {xs:List Value} (h:Lies w A xs) (hb:Below w.heap.size w w'):Lies w' A xs:=
 h.keep hb.size fun _ hp=>hb.cell hp
theorem Lies.alloc {w:World} {A:Option Addr} {xs:List Value} (h:Lies w A xs) (o:Obj):Lies (w.alloc o) A xs:=
 h.keep (by simp) fun p hp=>World.cell?_alloc_lt w o p hp
theorem Lies.drewN {w:World} {A:Option Addr} {xs:List Value} (h:Lies w A xs) (n:Nat):Lies (w.drewN n) A xs:=h
theorem Lies.at_ {w:World} {A:Option Addr} {l:List Int} (h:Lies w A (ics l)) {k:Nat} (hk:k < l.length) :
  ∃ b off,A = some ⟨b,off,none⟩ /\ b < w.heap.size /\ w.cell? ⟨b,off + k,none⟩ = some (.int .i64 (l[k]?.getD 0)):=by
 obtain ⟨b,off,e,hb,hc⟩:=h (by simp;omega);refine ⟨b,off,e,hb,hc k _ ?_⟩;simp [List.getElem?_eq_getElem hk]
theorem Lies.of_own {w:World} {base:Nat} {e:TypeId} {size n c:Nat} {A:Option Addr} {xs:List Value} (h:w.ownsRow base e size (.slice A n c) n xs):Lies w A xs:=fun h0=>by
 have hn : 0 < n:=by
  have:=h.1;rcases WdJ n with h1 | h1
  ·subst h1;simp at this;subst this;simp at h0
  ·exact h1
 obtain ⟨g,cap,hv,_,hlt⟩:=h.form hn;have hA:A = some ⟨g,0,none⟩:=by injection hv
 subst hA;refine ⟨g,0,rfl,hlt,fun k u hu=>?_⟩;have:=h.cells (g:=g) rfl k u hu
 rwa [Addr.add_lit] at this

theorem JO {a w:World} {g:Nat} (h:a.grownBy w (some g)) {p:Addr} (hp:p.block = g ∨ a.heap.size <= p.block) (u:Value):a.grownBy (w.setCell p u) (some g):=
 ⟨h.os,h.tape,h.output,by simpa [World.setCell] using h.size,fun i hi hne=>(Below.heap_setCell w p u i (by
  rintro rfl;rcases hp with hp | hp
  ·exact hne (by rw [hp])
  ·omega)).trans (h.block i hi hne)⟩
theorem Below.of_only {a w:World} {B g:Nat} (h:a.grownBy w (some g)) (hB:B <= a.heap.size) (hg:B <= g):Below B a w:=
 ⟨h.os,h.tape,h.output,h.size,fun k hk=>h.block k (by omega) (fun e=>by injection e;omega)⟩
theorem JI {w:World} {b b':Nat} {e:TypeId} {size n:Nat} {v:Value} {xs:List Value} (h:w.ownsRow b e size v n xs) (hb:b' <= b):w.ownsRow b' e size v n xs:=by
 obtain ⟨h1,h2⟩:=h;refine ⟨h1,?_⟩;rcases h2 with h2 | ⟨g,cap,cur,hv,hg,rest⟩
 ·exact .inl h2
 ·exact .inr ⟨g,cap,cur,hv,by omega,rest⟩
theorem JU {w:World} {base:Nat} {e:TypeId} {size n:Nat} {v:Value} {xs:List Value} (h:w.ownsRow base e size v n xs) {p:Addr} (hp:p.block < base) (u:Value):(w.setCell p u).ownsRow base e size v n xs:=
 ownsRow_setCell_below h hp u
open Ear
theorem JT {k:IntKind} {a b:Int} (h:a = b):Ending.returned (.int k a) = .returned (.int k b):=by rw [h]
theorem JB {a b:Bool} (h:a = b):Ending.returned (.bool a) = .returned (.bool b):=by rw [h]

end Go.Proofs.YtcjicjfbippmnaaGreat
