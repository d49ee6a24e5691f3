/- TalkBetter -/
import Derived.Test.YtcjicjfbippmnaaGreatMTBett1
import Derived.Lib.BitFns
import Derived.Lib.Strings
import Derived.Lib.Slices
import Derived.Lib.Small
import Derived.Lib.Walk
set_option maxRecDepth 100000
set_option maxHeartbeats 32000000
namespace Go.Proofs.YtcjicjfbippmnaaGreat
open Go.RowKit Ear

theorem U3 (x:Int) (w:World):Calls Tryz.prog 199 #[.int .i64 x] w fun e w'=>e = .returned (.bool false) /\ w = w':=by
 go_enter Tryz.func199,Tryz.ntmps199;go_wp2_with fail;go_ret;exact ⟨Jn (by simp),rfl⟩
theorem Zdr (x y:Int) (w:World) (r:Int) (hr:Hid (ZaV x y = r)):Calls Tryz.prog 182 #[.int .i64 x,.int .i64 y] w fun e w'=>e = .returned (.int .i64 r) /\ w = w':=by
 have hr0:=hr.out;unfold ZaV at hr0;clear hr;rcases (show x < y ∨ (¬ x < y /\ y < x) ∨ (¬ x < y /\ ¬ y < x) by omega) with h | ⟨h1,h2⟩ | ⟨h1,h2⟩
 ·rw [if_pos h] at hr0;subst hr0;go_enter Tryz.func182,Tryz.ntmps182;go_wp2_with (go_at_call 199;refine (U3 _ _).mono ?_;rintro e w' ⟨rfl,rfl⟩);go_ret;exact ⟨rfl,rfl⟩
 ·rw [if_neg h1,if_pos h2] at hr0;subst hr0;go_enter Tryz.func182,Tryz.ntmps182;go_wp2_with (go_at_call 199;refine (U3 _ _).mono ?_;rintro e w' ⟨rfl,rfl⟩);go_ret;exact ⟨rfl,rfl⟩
 ·rw [if_neg h1,if_neg h2] at hr0;subst hr0;go_enter Tryz.func182,Tryz.ntmps182;go_wp2_with (go_at_call 199;refine (U3 _ _).mono ?_;rintro e w' ⟨rfl,rfl⟩);go_ret;exact ⟨rfl,rfl⟩
theorem Uq (A B:Option Addr) (c d:Nat) (a b:List Int) (w:World) (hA:Lies w A (ics a)) (hB:Lies w B (ics b)) (ha:a.length <= 9223372036854775807) (hb:b.length <= 9223372036854775807) (r:Int) (hr:Hid (Xb a b = r)) :
  Calls Tryz.prog 150 #[.slice A a.length c,.slice B b.length d] w fun e w'=>e = .returned (.int .i64 r) /\ w = w':=by
 go_enter Tryz.func150,Tryz.ntmps150;go_wp2_with fail;go_loop [11] (fun i=>∃ k:Nat,k <= a.length /\ k <= b.length /\ i = .int .i64 k /\ Hid (a.take k = b.take k)) (fun i=>a.length - (intOf i).toNat)
 case atStart=>exact ⟨0,by omega,by omega,rfl,zH (by simp)⟩
 case round=>
  obtain ⟨k,hk,hk2,rfl,HT⟩:=hrel;by_cases hlt:k < a.length
  ·obtain ⟨bx,ox,rfl,hbx,hcx⟩:=hA.at_ hlt;by_cases hlb:k < b.length
   ·obtain ⟨bY,oY,rfl,hby,hcy⟩:=hB.at_ hlb;have HAT:=zH (fun hne=>ZfS (k:=k) HT.out hlt hlb hne);have HSU:=zH (fun he=>Ui (k:=k) HT.out hlt hlb he);have e1:a[k]?.getD 0 = a[k]:=(by rw [gE hlt];rfl);have e2:b[k]?.getD 0 = b[k]:=(by rw [gE hlb];rfl);rw [e1] at hcx;rw [e2] at hcy;clear e1 e2;generalize a[k] = x at *
    generalize b[k] = y at *
    obtain ⟨s,hs⟩:∃ s,s = ZaV x y:=⟨_,rfl⟩;have HS:=zH hs.symm;by_cases h0:s = 0
    ·have HT2:=zH (HSU.out (VF.1 (hs.symm.trans h0)));subst h0;clear hs HAT HSU;go_wp2_with (go_at_call 182;refine (Zdr _ _ _ 0 HS).mono ?_;rintro e w' ⟨rfl,rfl⟩);exact ⟨⟨k + 1,by omega,by omega,by go_num,HT2⟩,by simp [intOf];omega⟩
    ·have hz:r = s:=(by rw [<- hr.out,HAT.out (by rw [<- hs];exact h0),<- hs]);subst hz;have q0:(r != 0) = true:=(by simp [h0]);clear hs HAT HSU h0;go_wp2_with (go_at_call 182;refine (Zdr _ _ _ r HS).mono ?_;rintro e w' ⟨rfl,rfl⟩);go_ret;exact ⟨rfl,rfl⟩
   ·obtain rfl:k = b.length:=(by omega);have hz:r = 1:=(by rw [<- hr.out,Zd1 HT.out hlt rfl]);subst hz;go_wp2_with fail;go_ret;exact ⟨rfl,rfl⟩
  ·obtain rfl:k = a.length:=by omega
   have hz:=hr.out;rw [Zdm (by simpa using HT.out) hk2] at hz;clear hr;by_cases hl:a.length < b.length
   ·rw [if_pos hl] at hz;subst hz;go_wp2_with fail;go_ret;exact ⟨rfl,rfl⟩
   ·rw [if_neg hl] at hz;subst hz;go_wp2_with fail;go_ret;exact ⟨rfl,rfl⟩
theorem ZI (o v:Int) (w:World) (r:Bool) (hr:Hid ((decide (1 <= o) && decide (o <= 4) && decide (1 <= v) && decide (v <= 2000)) = r)):Calls Tryz.prog 148 #[.int .i64 o,.int .i64 v] w fun e w'=>e = .returned (.bool r) /\ w = w':=by
 have hr0:=hr.out;clear hr;rcases (show ¬ 1 <= o ∨ (1 <= o /\ ¬ o <= 4) ∨ (1 <= o /\ o <= 4 /\ ¬ 1 <= v) ∨ (1 <= o /\ o <= 4 /\ 1 <= v /\ ¬ v <= 2000) ∨ (1 <= o /\ o <= 4 /\ 1 <= v /\ v <= 2000) by omega) with h1 | ⟨h1,h2⟩ | ⟨h1,h2,h3⟩ | ⟨h1,h2,h3,h4⟩ | ⟨h1,h2,h3,h4⟩
 all_goals
  simp only [h1,decide_true,decide_false,Bool.true_and,Bool.false_and] at hr0;try simp only [h2,decide_true,decide_false,Bool.true_and,Bool.false_and] at hr0
  try simp only [h3,decide_true,decide_false,Bool.true_and,Bool.false_and] at hr0
  try simp only [h4,decide_true,decide_false] at hr0
  subst hr0;go_enter Tryz.func148,Tryz.ntmps148;go_wp2_with fail;go_ret;exact ⟨Jn (by simp;try omega),rfl⟩
structure PredD (g:FuncId) (q q2:Value) (p:Int -> Bool) (w:World):Prop where
 enter:∀ (args:Array Value) (w:World),(callFunc g args).run Tryz.prog w = .ok (.enter g args) w
 gives:∀ (x:Int),Calls Tryz.prog g #[.int .i64 x,q,q2] w fun e w'=>e = .returned (.bool (p x)) /\ w = w'

theorem Zhr (g:FuncId) (q q2:Value) (p:Int -> Bool) (A:Option Addr) (c:Nat) (l:List Int) (w:World) (hp:PredD g q q2 p w) (h:Lies w A (ics l)) (hn:l.length <= 9223372036854775807) :
  Calls Tryz.prog 164 #[.slice A l.length c,.func (.func g) #[] #[q,q2]] w (Zf8 p l w):=by
 have heg:=hp.enter;go_enter Tryz.func164,Tryz.ntmps164;go_wp2;go_loop [5,8] (fun _ i=>∃ k:Nat,k <= l.length /\ i = .int .i64 k /\ (l.take k).any p = false) (fun _ i=>l.length - (intOf i).toNat)
 case atStart=>exact ⟨0,Nat.zero_le _,rfl,rfl⟩
 case round=>
  obtain ⟨k,hk,rfl,hp'⟩:=hrel;have HP:=zH hp';clear hp';by_cases hlt:k < l.length
  ·obtain ⟨bk,off,rfl,hb,hc⟩:=h.at_ hlt;go_wp2_with fail;refine (hp.gives _).mono ?_;rintro e w' ⟨rfl,rfl⟩;cases hpx:p l[k] with
   | true=>
    have HX:=zH hpx;clear hpx;go_wp2_with fail;go_ret;exact ⟨k,rfl,rfl,by rw [Qe hlt HX.out];simp⟩
   | false=>
    have HX:=zH hpx;clear hpx;go_wp2_with fail;exact ⟨⟨k + 1,by omega,by go_num,VH hlt HP.out HX.out⟩,by simp [intOf];omega⟩
  ·go_wp2;go_ret;exact ⟨-1,rfl,rfl,by have hh:=HP.out;rw [List.take_of_length_le (by omega)] at hh;rw [hh];rfl⟩

theorem ZcC (g:FuncId) (q q2:Value) (p:Int -> Bool) (A:Option Addr) (c:Nat) (l:List Int) (w:World) (hp:PredD g q q2 p w) (h:Lies w A (ics l)) (hn:l.length <= 9223372036854775807) :
  Calls Tryz.prog 112 #[.slice A l.length c,.func (.func g) #[] #[q,q2]] w fun e w'=>e = .returned (.bool (l.any p)) /\ w = w':=by
 go_enter Tryz.func112,Tryz.ntmps112;go_wp2_with fail;refine (Zhr g q q2 p A c l _ hp h hn).mono ?_;rintro e w' ⟨r,rfl,rfl,hr⟩;have HR:=zH hr;clear hr;go_wp2_with fail;go_ret;exact ⟨Jn HR.out,rfl⟩

theorem Zbs (x lo hi:Int) (b b2:Nat) (w:World) (hc:w.cell? ⟨b,0,none⟩ = some (.int .i64 lo)) (hc2:w.cell? ⟨b2,0,none⟩ = some (.int .i64 hi)) :
  Calls Tryz.prog 181 #[.int .i64 x,.pointer (some ⟨b,0,none⟩),.pointer (some ⟨b2,0,none⟩)] w fun e w'=>e = .returned (.bool (!inR lo hi x)) /\ w = w':=by
 by_cases h1:x < lo
 ·go_enter Tryz.func181,Tryz.ntmps181;go_wp2;go_ret;exact ⟨Jn (by simp [inR];omega),rfl⟩
 ·by_cases h2:hi < x;all_goals
   go_enter Tryz.func181,Tryz.ntmps181;go_wp2;go_ret;exact ⟨Jn (by simp [inR];omega),rfl⟩
theorem Xl (A:Option Addr) (c:Nat) (l:List Int) (lo hi:Int) (w:World) (h:Lies w A (ics l)) (hn:l.length <= 9223372036854775807) (r:Bool) (hr:Hid (Xx lo hi l = r)) :
  Calls Tryz.prog 149 #[.slice A l.length c,.int .i64 lo,.int .i64 hi] w (Zdq r w):=by
 go_enter Tryz.func149,Tryz.ntmps149;go_wp2_with fail;refine (ZcC _ _ _ (fun x=>!inR lo hi x) A c l _ ⟨enters_of Tryz.func181 (by kernel_rfl) rfl,fun x=>Zbs x lo hi _ _ _ (by simp) (by simp)⟩ ((h.alloc _).alloc _) hn).mono ?_;rintro e w' ⟨rfl,rfl⟩;rw [Ya,hr.out];go_wp2_with fail;go_ret;exact ⟨Jn (by simp),(bR.alloc nR _).alloc (by simp) _⟩
end Go.Proofs.YtcjicjfbippmnaaGreat
namespace Ear

def okV (n:Nat) (x:List Int):Bool:=x.length == n && decide (1 <= x.length) && decide (x.length <= 64) && Xx (-1048576) 1048576 x
def len0 (vs:List (List Int)):Nat:=(vs.headD []).length
def ZX (vs:List (List Int)):Bool:=vs.all (okV (len0 vs))
theorem VW {n:Nat} {x:List Int}:okV n x = true ↔ x.length = n /\ 1 <= x.length /\ x.length <= 64 /\ Xx (-1048576) 1048576 x = true:=by
 simp [okV,and_assoc]
theorem ZiD {lo hi:Int} {l:List Int} (h:Xx lo hi l = true) (h0:lo <= 0) (h1 : 0 <= hi) (k:Nat):lo <= l[k]?.getD 0 /\ l[k]?.getD 0 <= hi:=by
 by_cases hk:k < l.length
 ·rw [List.getElem?_eq_getElem hk];exact ZaI h hk
 ·rw [List.getElem?_eq_none (by omega)];exact ⟨h0,h1⟩
def dsK (v c:List Int):Nat -> Int
 | 0=>0
 | k + 1=>dsK v c k + (v[k]?.getD 0 - c[k]?.getD 0) * (v[k]?.getD 0 - c[k]?.getD 0)
def Qn (vs:List (List Int)) (c:Nat):Nat -> Int
 | 0=>0
 | t + 1=>Qn vs c t + (vs[t]?.getD [])[c]?.getD 0
theorem Qb {vs:List (List Int)} (h:∀ x ∈ vs,Xx (-1048576) 1048576 x = true) (c t:Nat) : -(t * 1048576) <= Qn vs c t /\ Qn vs c t <= t * 1048576:=by
 induction t with
 | zero=>simp [Qn]
 | succ t ih=>
  have h2 : -1048576 <= (vs[t]?.getD [])[c]?.getD 0 /\ (vs[t]?.getD [])[c]?.getD 0 <= 1048576:=by
   by_cases ht:t < vs.length
   ·rw [List.getElem?_eq_getElem ht];exact ZiD (h _ (List.getElem_mem ht)) (by omega) (by omega) c
   ·rw [List.getElem?_eq_none (show vs.length <= t by omega)];simp
  simp only [Qn];generalize (vs[t]?.getD [])[c]?.getD 0 = x at *
  omega
def QH (vs:List (List Int)) (n t:Nat):List Int:=(List.range n).map fun c=>Qn vs c t
theorem Zew (vs:List (List Int)) (n:Nat):QH vs n 0 = List.replicate n 0:=by
 apply List.ext_getElem (by simp [QH]);intro q h1 h2;simp [QH,Qn]
theorem Vb {vs:List (List Int)} (h:ZX vs = true) {x:List Int} (hx:x ∈ vs):x.length = len0 vs /\ 1 <= x.length /\ x.length <= 64 /\ Xx (-1048576) 1048576 x = true:=
 VW.1 (List.all_eq_true.1 h x hx)
end Ear
namespace Ear

abbrev Tbl:=List (List Int × Int)
def ZiB (o v:Int) (g:List Int × Int):Bool:=decide ((g.1.length:Int) = o) && Xx 0 v g.1 && decide (1 <= g.2) && decide (g.2 <= 1073741824)
def Zeh (l:Tbl) (i:Nat):List Int × Int:=l[i]?.getD ([],0)
def Xv (o v:Int) (l:Tbl) (i:Nat):Bool:=ZiB o v (Zeh l i) && (i == 0 || decide (Xb (Zeh l (i - 1)).1 (Zeh l i).1 < 0))
def ZdE (o v:Int) (l:Tbl):Bool:=(List.range l.length).all (Xv o v l)
def Xz (o v:Int):Bool:=decide (1 <= o) && decide (o <= 4) && decide (1 <= v) && decide (v <= 2000)
def Yb (o v:Int) (l:Tbl):Int:=if 20000 < l.length then 5 else if Xz o v = true then (if ZdE o v l = true then 0 else 2) else 2
theorem Zhv {o v:Int} {l:Tbl} {k:Nat} (hk:k < l.length) (h:Xv o v l k = false):ZdE o v l = false:=by
 unfold ZdE;rw [List.all_eq_false];exact ⟨k,List.mem_range.2 hk,by simp [h]⟩
theorem Zab {o v:Int} {l:Tbl} (h:∀ k,k < l.length -> Xv o v l k = true):ZdE o v l = true:=by
 unfold ZdE;rw [List.all_eq_true];exact fun k hk=>h k (List.mem_range.1 hk)
theorem JX {l:Tbl} {k:Nat} (hk:k < l.length):Zeh l k = l[k]:=by
 unfold Zeh;rw [List.getElem?_eq_getElem hk];rfl
theorem JO {o v:Int} {l:Tbl}:Yb o v l = 0 ↔ l.length <= 20000 /\ Xz o v = true /\ ZdE o v l = true:=by
 unfold Yb;split
 ·constructor
  ·intro h;cases h
  ·intro h;omega
 ·split
  ·split
   ·rename_i h1 h2 h3;exact ⟨fun _=>⟨by omega,h2,h3⟩,fun _=>rfl⟩
   ·rename_i h1 h2 h3;exact ⟨fun h=>(by cases h),fun h=>absurd h.2.2 h3⟩
  ·rename_i h1 h2;exact ⟨fun h=>(by cases h),fun h=>absurd h.2.1 h2⟩
theorem JB {o v:Int}:Xz o v = true ↔ 1 <= o /\ o <= 4 /\ 1 <= v /\ v <= 2000:=by simp [Xz,and_assoc]
theorem Xr {o v:Int} {g:List Int × Int}:ZiB o v g = true ↔ (g.1.length:Int) = o /\ Xx 0 v g.1 = true /\ 1 <= g.2 /\ g.2 <= 1073741824:=by simp [ZiB,and_assoc]
end Ear
namespace Go.Proofs.YtcjicjfbippmnaaGreat
open Go.RowKit Ear

theorem Ze6 (n:Nat):(madeCells (Value.int .i64 0).cells (n * 1)).toList = ics (List.replicate n 0):=by
 apply List.ext_getElem (by simp [madeCells]);intro k h1 h2;simp [madeCells,Value.cells,Nat.mod_one]
theorem Zr (w:World) (n:Nat) (hn:n <= 1000000000) (base:Nat) (hb:base <= w.heap.size) :
  ∃ w',(Instr.makeSlice 40 (.int .i64 (n:Int)) (.int .i64 (n:Int))).run Tryz.prog w = .ok (.slice (some ⟨w.heap.size,0,none⟩) n n) w' /\
   w'.ownsRow base 3 1 (.slice (some ⟨w.heap.size,0,none⟩) n n) n (ics (List.replicate n 0)) /\ Below w.heap.size w w':=by
 obtain ⟨i0,hi0,hz0,hz1,hz2⟩:=info_parts YQ;obtain ⟨w',h1,h2,h3⟩:=run_make_full (P:=Tryz.prog) w base 40 3 i0 _ 1 Tryz.underlying40 hi0 hz0 hz1 .i64 .i64 n (by rw [hz2];omega) (by unfold maxLen;omega) hb;rw [Ze6] at h2;exact ⟨w',h1,h2,Xf h3⟩
theorem ZeR {w:World} {base:Nat} {e:TypeId} {n g:Nat} {xs:List Value} (h:w.ownsRow base e 1 (.slice (some ⟨g,0,none⟩) n n) n xs):base <= g /\ xs.length = n /\ w.heap[g]? = some (.cells xs.toArray e (0,0)):=by
 obtain ⟨h1,h2⟩:=h;rcases h2 with ⟨h2,_⟩ | ⟨g',cap,cur,hv,hb,hg,_,_,hs,ht⟩
 ·cases h2
 ·injection hv with e1 _ e3
  injection e1 with e1
  injection e1 with e1 _ _
  subst e1 e3;rw [List.take_of_length_le (by simp;omega)] at ht;subst ht;exact ⟨hb,by simpa using h1,by simpa using hg⟩
end Go.Proofs.YtcjicjfbippmnaaGreat
namespace Ear

abbrev BB:Int:=4294967296
def vl:List Int -> Int
 | []=>0
 | d :: l=>d + BB * vl l
def dgs (l:List Int):Prop:=∀ x ∈ l,0 <= x /\ x <= 4294967295
theorem Zkd (k:Nat) : 0 < BB ^ k:=Int.pow_pos (by decide)
theorem ZaP (k:Nat):BB ^ (k + 1) = BB * BB ^ k:=by rw [Int.pow_succ,Int.mul_comm]
theorem YW (a b:List Int):vl (a ++ b) = vl a + BB ^ a.length * vl b:=by
 induction a with
 | nil=>simp [vl]
 | cons d a ih=>rw [List.cons_append,vl,vl,ih,List.length_cons,ZaP,Int.mul_add,Int.mul_assoc,Int.add_assoc]
theorem YH (l:List Int) (k:Nat) (hk:k < l.length):vl (l.take (k + 1)) = vl (l.take k) + BB ^ k * l[k]?.getD 0:=by
 rw [List.take_succ_eq_append_getElem hk,YW,List.getElem?_eq_getElem hk,List.length_take,Nat.min_eq_left (by omega)];simp [vl]
theorem Xk (n:Nat):vl (List.replicate n 0) = 0:=by
 induction n with
 | zero=>rfl
 | succ n ih=>rw [List.replicate_succ,vl,ih];rfl
theorem QC (l:List Int) (k:Nat) (v:Int) (hk:k < l.length):vl (l.set k v) = vl l + BB ^ k * (v - l[k]?.getD 0):=by
 induction l generalizing k with
 | nil=>simp at hk
 | cons d l ih=>
  cases k with
  | zero=>simp [vl];omega
  | succ k=>
   rw [List.set_cons_succ,vl,vl,ih k (by simpa using hk),ZaP,List.getElem?_cons_succ,Int.mul_add,Int.mul_assoc,Int.add_assoc]
theorem Zdw {l:List Int} (h:dgs l) : 0 <= vl l /\ vl l < BB ^ l.length:=by
 induction l with
 | nil=>simp [vl]
 | cons d l ih=>
  have h1:=h d (List.mem_cons_self ..);have h2:=ih fun x hx=>h x (List.mem_cons_of_mem _ hx);rw [vl,List.length_cons,ZaP];have h3:BB * (vl l + 1) <= BB * BB ^ l.length:=Int.mul_le_mul_of_nonneg_left (by omega) (by decide);have h4 : 0 <= BB * vl l:=Int.mul_nonneg (by decide) h2.1;rw [Int.mul_add] at h3;simp only [BB] at *
  omega
theorem JI {l:List Int} (h:dgs l) (k:Nat) : 0 <= l[k]?.getD 0 /\ l[k]?.getD 0 <= 4294967295:=by
 by_cases hk:k < l.length
 ·rw [List.getElem?_eq_getElem hk];exact h _ (List.getElem_mem hk)
 ·rw [List.getElem?_eq_none (by omega)];simp
theorem Zx {l:List Int} (h:dgs l) (k:Nat) {v:Int} (h0 : 0 <= v) (h1:v <= 4294967295):dgs (l.set k v):=by
 intro x hx;rcases List.mem_or_eq_of_mem_set hx with h2 | h2
 ·exact h x h2
 ·omega
theorem Xa (n:Nat):dgs (List.replicate n 0):=by
 intro x hx;have:=List.eq_of_mem_replicate hx;omega
theorem ZaB {l:List Int} (h:dgs l) (k:Nat):dgs (l.take k):=fun x hx=>h x (List.mem_of_mem_take hx)
def zer (l:List Int) (k:Nat):Prop:=∀ q,k <= q -> l[q]?.getD 0 = 0
theorem Zjf {l:List Int} {k:Nat} (h:zer l k):vl l = vl (l.take k):=by
 have e:l = l.take k ++ l.drop k:=(List.take_append_drop k l).symm;have hz:vl (l.drop k) = 0:=by
  have:l.drop k = List.replicate (l.drop k).length 0:=by
   apply List.ext_getElem (by simp);intro q h1 h2;have:=h (k + q) (by omega);rw [List.getElem?_eq_getElem (by simp at h1;omega)] at this;simpa using this
  rw [this,Xk]
 conv=>lhs;rw [e]
 rw [YW,hz];simp
theorem ZeA {x y:Int} (hx : 0 <= x /\ x <= 4294967295) (hy : 0 <= y /\ y <= 4294967295) : 0 <= x * y /\ x * y <= 18446744065119617025:=by
 have h1:=Int.mul_nonneg hx.1 hy.1;have h2:x * y <= 4294967295 * 4294967295:=Int.mul_le_mul hx.2 hy.2 hy.1 (by decide);omega
end Ear
namespace Go.Proofs.YtcjicjfbippmnaaGreat
open Go.RowKit Ear

abbrev ucs (l:List Int):List Value:=l.map (Value.int .u32)
theorem XU:(Tryz.prog.info? 173).map (fun i=>(i.zero,i.size,i.bytes)) = some (some (.int .u32 0),1,4):=by kernel_rfl
theorem Zc9 (n:Nat):(madeCells (Value.int .u32 0).cells (n * 1)).toList = ucs (List.replicate n 0):=by
 apply List.ext_getElem (by simp [madeCells]);intro k h1 h2;simp [madeCells,Value.cells,Nat.mod_one]
theorem Yj (w:World) (n:Nat) (hn:n <= 1000000000) (base:Nat) (hb:base <= w.heap.size) :
  ∃ w',(Instr.makeSlice 26 (.int .i64 (n:Int)) (.int .i64 (n:Int))).run Tryz.prog w = .ok (.slice (some ⟨w.heap.size,0,none⟩) n n) w' /\
   w'.ownsRow base 173 1 (.slice (some ⟨w.heap.size,0,none⟩) n n) n (ucs (List.replicate n 0)) /\ Below w.heap.size w w':=by
 obtain ⟨i0,hi0,hz0,hz1,hz2⟩:=info_parts XU;obtain ⟨w',h1,h2,h3⟩:=run_make_full (P:=Tryz.prog) w base 26 173 i0 _ 1 Tryz.underlying26 hi0 hz0 hz1 .i64 .i64 n (by rw [hz2];omega) (by unfold maxLen;omega) hb;rw [Zc9] at h2;exact ⟨w',h1,h2,Xf h3⟩
theorem Lies.uat {w:World} {A:Option Addr} {l:List Int} (h:Lies w A (ucs l)) {k:Nat} (hk:k < l.length) :
  ∃ b off,A = some ⟨b,off,none⟩ /\ b < w.heap.size /\ w.cell? ⟨b,off + k,none⟩ = some (.int .u32 (l[k]?.getD 0)):=by
 obtain ⟨b,off,e,hb,hc⟩:=h (by simp;omega);refine ⟨b,off,e,hb,hc k _ ?_⟩;simp [gE hk]
def Zi2 (v:Int) (w:World) (e:Ending) (w':World):Prop:=e = .returned (.int .i64 v) /\ Below w.heap.size w w'
abbrev Jx (L:List Inn):List (List Int):=L.map fun x=>x.2.2
end Go.Proofs.YtcjicjfbippmnaaGreat
namespace Go
section
variable {P:Program} {ops:Array Oper} {Q:Exit -> Act -> World -> Prop} {md:Region.Mode}
theorem Jk {S:World -> Prop} {id:Nat} {a:Act} {w:World} (n:Nat) (hn:ops.size = n) (hm:P.follows .mixedOrders = true) (hS:S w.drew)
  (h:S w.drew -> wpAnyH P .any ops Q S n (Array.replicate n false) a w.drew):(Code.region id ops true).wp P Q a w:=by
 refine wp_region_any hm ?_;rw [hn];exact wpAny_of_held _ _ _ _ (h hS)
theorem Za3 {S:World -> Prop} {i:Nat} (d:Nat) {oi:Oper} {fuel:Nat} {listed:Array Bool} {t:Array Value} {df:List Deferred} {w:World} (hi:ops[i]? = some oi) (hd:oi.dst = some d)
  (hs:Region.noSelect ops = true) (hf:Region.free md ops listed i = true) (hr:(Region.ready md ops listed).contains i = true)
  (hQ:∀ c a w,Q (.panic c) (a.put (some d) undef) w -> Q (.panic c) a w) (hw:Region.wanted oi (yielded ops t) = false) (hS:S w)
  (h:wpAnyH P md ops Q S fuel (listed.setIfInBounds i true) ⟨t.setIfInBounds d undef,df⟩ w):wpAnyH P md ops Q S (fuel + 1) listed ⟨t,df⟩ w:=
 wpAnyH_take hi hs hf hr (by rw [hd];exact hQ) (.inr ⟨hw,rfl⟩) hS (by rw [hd];exact h)
theorem JR {S:World -> Prop} (i:Nat) {o:Oper} {fuel:Nat} {listed:Array Bool} {a:Act} {w:World} (ho:ops[i]? = some o) (hr:Region.ready md ops listed = [i]) (hw:Region.wanted o (yielded ops a.tmps) = true)
  (h:∀ K':Act -> World -> Prop,Shut (∀ a w,S w -> (S w -> wpAnyH P md ops Q S fuel (listed.setIfInBounds i true) a w) -> K' a w) -> Oper.wp P o a w K' Q):wpAnyH P md ops Q S (fuel + 1) listed a w:=
 wpAnyH_ready hr (by simp) (AllReadyH.cons ho (fun K hK=>by
  rw [if_pos hw];exact h K hK) AllReadyH.nil)
def Region.nextU:List Oper -> List Bool -> Nat -> Option (Nat × Oper × Nat)
 | o :: os,b :: bs,k=>if b = true then Region.nextU os bs (k + 1) else (match o.dst with | some d=>some (k,o,d) | none=>none)
 | _,_,_=>none
theorem Region.nextU_spec:∀ (os:List Oper) (bs:List Bool) (k:Nat) {i:Nat} {o:Oper} {d:Nat},Region.nextU os bs k = some (i,o,d) -> k <= i /\ os[i - k]? = some o /\ o.dst = some d
 | [],_,_,i,o,d,h=>by simp [Region.nextU] at h
 | _ :: _,[],_,i,o,d,h=>by simp [Region.nextU] at h
 | o' :: os,b :: bs,k,i,o,d,h=>by
  unfold Region.nextU at h;split at h
  ·obtain ⟨h1,h2,h3⟩:=Region.nextU_spec os bs (k + 1) h;refine ⟨by omega,?_,h3⟩;rw [show i - k = (i - (k + 1)) + 1 by omega,List.getElem?_cons_succ];exact h2
  ·split at h
   ·rename_i d' hd;injection h with h
    simp only [Prod.mk.injEq] at h;obtain ⟨rfl,rfl,rfl⟩:=h;exact ⟨Nat.le_refl _,by simp,hd⟩
   ·cases h
def Region.okU (md:Region.Mode) (ops:Array Oper) (listed:Array Bool) (i:Nat):Bool:=Region.noSelect ops && Region.free md ops listed i && (Region.ready md ops listed).contains i
theorem Jb {S:World -> Prop} {i d:Nat} {oi:Oper} {v:Value} {fuel:Nat} {listed:Array Bool} {t:Array Value} {df:List Deferred} {w:World} (hn:Region.nextU ops.toList listed.toList 0 = some (i,oi,d)) (hb:Region.okU md ops listed i = true)
  (hQ:∀ c a w,Q (.panic c) (a.put (some d) v) w -> Q (.panic c) a w) (hy:Region.wanted oi (yielded ops t) = true /\ ∀ w,S w -> (execOp (Act.eval ⟨t,df⟩) oi).run P w = .ok (.value v) w) (hS:S w)
  (h:wpAnyH P md ops Q S fuel (listed.setIfInBounds i true) ⟨t.setIfInBounds d v,df⟩ w):wpAnyH P md ops Q S (fuel + 1) listed ⟨t,df⟩ w:=by
 obtain ⟨_,h2,h3⟩:=Region.nextU_spec _ _ _ hn;unfold Region.okU at hb;simp only [Bool.and_eq_true] at hb;exact JL d (by simpa using h2) h3 hb.1.1 hb.1.2 hb.2 hQ hy hS h
theorem Xy {S:World -> Prop} {i d:Nat} {oi:Oper} {fuel:Nat} {listed:Array Bool} {t:Array Value} {df:List Deferred} {w:World} (hn:Region.nextU ops.toList listed.toList 0 = some (i,oi,d)) (hb:Region.okU md ops listed i = true)
  (hQ:∀ c a w,Q (.panic c) (a.put (some d) undef) w -> Q (.panic c) a w) (hw:Region.wanted oi (yielded ops t) = false) (hS:S w)
  (h:wpAnyH P md ops Q S fuel (listed.setIfInBounds i true) ⟨t.setIfInBounds d undef,df⟩ w):wpAnyH P md ops Q S (fuel + 1) listed ⟨t,df⟩ w:=by
 obtain ⟨_,h2,h3⟩:=Region.nextU_spec _ _ _ hn;unfold Region.okU at hb;simp only [Bool.and_eq_true] at hb;exact Za3 d (by simpa using h2) h3 hb.1.1 hb.1.2 hb.2 hQ hw hS h
end
end Go
namespace Go.Proofs.YtcjicjfbippmnaaGreat
open Go.RowKit Ear

structure LL (w:World) (A:Option Addr) (L:List Inn):Prop where
 lies:Lies w A (lcs L)
 inn:∀ x ∈ L,InOk w x
theorem LL.below {w w':World} {A:Option Addr} {L:List Inn} (h:LL w A L) (hb:Below w.heap.size w w'):LL w' A L:=⟨h.lies.below hb,fun x hx=>(h.inn x hx).below hb⟩

end Go.Proofs.YtcjicjfbippmnaaGreat
