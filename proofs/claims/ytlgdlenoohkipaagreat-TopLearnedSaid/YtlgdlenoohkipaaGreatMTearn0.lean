/- TopLearned -/
import Derived.WalkSpells
import Derived.WalkLawsBesides
import Derived.BigQuiet
import Derived.Deep.RegionHeld3
import Derived.Deep.DeepCutAuto
import Derived.StillTailTactics
import Derived.Lib.Hide
import Derived.Deep.Slices
import Derived.Deep.AppendLies
import Derived.Laws.CopyOwn
import Derived.Deep.DrawnRows
import Derived.Shelf.Abstract
import Derived.Test.YtlgdlenoohkipaaGreatRows
import Init.Data.Int.DivMod.Lemmas
import Derived.Laws.AppendOwnNone
set_option maxRecDepth 100000
set_option maxHeartbeats 32000000
namespace Ear
end Ear
namespace Go.Proofs.YtlgdlenoohkipaaGreat
open Go.RowKit
theorem _root_.zH {p:Prop} (h:p):Hid p:=Lib.hid h
abbrev _root_.gT (b:Act) (k:Nat):Value:=b.tmps.getD k undef
theorem _root_.zA {α:Type _} (l:List α) (i:Nat) (a : α):l.toArray.setIfInBounds i a = (l.set i a).toArray:=List.setIfInBounds_toArray l i a
theorem _root_.zB {α:Type _} {x : α} {xs:List α} {a : α}:(x :: xs).set 0 a = a :: xs:=rfl
theorem _root_.zC {α:Type _} {x : α} {xs:List α} {i:Nat} {a : α}:(x :: xs).set (i + 1) a = x :: xs.set i a:=rfl
theorem _root_.bR {b:Nat} {w:World}:Below b w w:=Below.refl _ _
theorem _root_.nR {n:Nat}:n <= n:=Nat.le_refl _
theorem _root_.cR {w:World} {g:Nat} {cs:Array Value} {t:TypeId} {fr:Nat × Nat} (j:Nat) (h:w.heap[g]? = some (.cells cs t fr)):w.cell? ⟨g,j,none⟩ = cs[j]?:=cell_of_row _ _ j _ _ _ h
theorem _root_.aE {α:Type _} {i:Nat} {b : α} {xs:Array α} (h:xs[i]? = some b):∃ h:i < xs.size,xs[i] = b:=Array.getElem?_eq_some_iff.1 h
theorem _root_.tR {a b c:Nat}:a <= b -> b <= c -> a <= c:=Nat.le_trans
theorem _root_.yM {α:Type _} {l:List α} {n:Nat} (h:n < l.length):l[n] ∈ l:=List.getElem_mem h
theorem _root_.dF {p:Prop} [Decidable p]:¬p -> decide p = false:=decide_eq_false
theorem _root_.gE {α:Type _} {l:List α} {i:Nat} (h:i < l.length):l[i]? = some l[i]:=List.getElem?_eq_getElem h

def Lies (w:World) (A:Option Addr) (xs:List Value):Prop:=
 0 < xs.length -> ∃ b off,A = some ⟨b,off,none⟩ /\ b < w.heap.size /\ ∀ k u,xs[k]? = some u -> w.cell? ⟨b,off + k,none⟩ = some u

abbrev ics (l:List Int):List Value:=l.map (Value.int .i64)

theorem Lies.nil (w:World) (A:Option Addr):Lies w A []:=fun h=>absurd h (by simp)

theorem Lies.keep {w w':World} {A:Option Addr} {xs:List Value} (h:Lies w A xs) (hs:w.heap.size <= w'.heap.size)
  (hk:∀ p:Addr,p.block < w.heap.size -> w'.cell? p = w.cell? p):Lies w' A xs:=fun h0=>by
 obtain ⟨b,off,e,hb,hc⟩:=h h0;exact ⟨b,off,e,by omega,fun k u hu=>(hk _ hb).trans (hc k u hu)⟩
theorem Lies.below {w w':World} {A:Option Addr} {xs:List Value} (h:Lies w A xs) (hb:Below w.heap.size w w'):Lies w' A xs:=
 h.keep hb.size fun _ hp=>hb.cell hp
theorem Lies.alloc {w:World} {A:Option Addr} {xs:List Value} (h:Lies w A xs) (o:Obj):Lies (w.alloc o) A xs:=
 h.keep (by simp) fun p hp=>World.cell?_alloc_lt w o p hp
theorem Lies.drewN {w:World} {A:Option Addr} {xs:List Value} (h:Lies w A xs) (n:Nat):Lies (w.drewN n) A xs:=h
theorem Lies.at_ {w:World} {A:Option Addr} {l:List Int} (h:Lies w A (ics l)) {k:Nat} (hk:k < l.length) :
  ∃ b off,A = some ⟨b,off,none⟩ /\ b < w.heap.size /\ w.cell? ⟨b,off + k,none⟩ = some (.int .i64 (l[k]?.getD 0)):=by
 obtain ⟨b,off,e,hb,hc⟩:=h (by simp;omega);refine ⟨b,off,e,hb,hc k _ ?_⟩;simp [List.getElem?_eq_getElem hk]
theorem Lies.of_own {w:World} {base:Nat} {e:TypeId} {size n c:Nat} {A:Option Addr} {xs:List Value} (h:w.ownsRow base e size (.slice A n c) n xs):Lies w A xs:=fun h0=>by
 have hn : 0 < n:=by
  have:=h.1;rcases Nat.eq_zero_or_pos n with h1 | h1
  ·subst h1;simp at this;subst this;simp at h0
  ·exact h1
 obtain ⟨g,cap,hv,_,hlt⟩:=h.form hn;have hA:A = some ⟨g,0,none⟩:=by injection hv
 subst hA;refine ⟨g,0,rfl,hlt,fun k u hu=>?_⟩;have:=h.cells (g:=g) rfl k u hu
 rwa [Addr.add_lit] at this

theorem XK {a w:World} {g:Nat} (h:a.grownBy w (some g)) {p:Addr} (hp:p.block = g ∨ a.heap.size <= p.block) (u:Value):a.grownBy (w.setCell p u) (some g):=
 ⟨h.os,h.tape,h.output,by simpa [World.setCell] using h.size,fun i hi hne=>(Below.heap_setCell w p u i (by
  rintro rfl;rcases hp with hp | hp
  ·exact hne (by rw [hp])
  ·omega)).trans (h.block i hi hne)⟩
theorem Below.of_only {a w:World} {B g:Nat} (h:a.grownBy w (some g)) (hB:B <= a.heap.size) (hg:B <= g):Below B a w:=
 ⟨h.os,h.tape,h.output,h.size,fun k hk=>h.block k (by omega) (fun e=>by injection e;omega)⟩
theorem J9 {w:World} {b b':Nat} {e:TypeId} {size n:Nat} {v:Value} {xs:List Value} (h:w.ownsRow b e size v n xs) (hb:b' <= b):w.ownsRow b' e size v n xs:=by
 obtain ⟨h1,h2⟩:=h;refine ⟨h1,?_⟩;rcases h2 with h2 | ⟨g,cap,cur,hv,hg,rest⟩
 ·exact .inl h2
 ·exact .inr ⟨g,cap,cur,hv,by omega,rest⟩
theorem J1 {w:World} {base:Nat} {e:TypeId} {size n:Nat} {v:Value} {xs:List Value} (h:w.ownsRow base e size v n xs) {p:Addr} (hp:p.block < base) (u:Value):(w.setCell p u).ownsRow base e size v n xs:=
 ownsRow_setCell_below h hp u
open Ear
theorem JU {k:IntKind} {a b:Int} (h:a = b):Ending.returned (.int k a) = .returned (.int k b):=by rw [h]

end Go.Proofs.YtlgdlenoohkipaaGreat
namespace Ear

def inR (lo hi x:Int):Bool:=decide (lo <= x) && decide (x <= hi)
theorem ZcU {lo hi x:Int}:inR lo hi x = true ↔ lo <= x /\ x <= hi:=by simp [inR]
def XI (lo hi:Int) (l:List Int):Bool:=l.all (inR lo hi)
theorem Ya {lo hi:Int} {l:List Int} (h:XI lo hi l = true) {x:Int} (hx:x ∈ l):lo <= x /\ x <= hi:=
 ZcU.1 (List.all_eq_true.1 h x hx)
theorem Zau {lo hi:Int} {l:List Int} (h:∀ x ∈ l,lo <= x /\ x <= hi):XI lo hi l = true:=
 List.all_eq_true.2 fun x hx=>ZcU.2 (h x hx)
theorem ZgS {lo hi:Int} {l:List Int} (h:XI lo hi l = true) {k:Nat} (hk:k < l.length):lo <= l[k] /\ l[k] <= hi:=Ya h (List.getElem_mem hk)
end Ear
namespace Go.Proofs.YtlgdlenoohkipaaGreat
open Go.RowKit Ear

theorem Vw {p:Int -> Bool} {l:List Int} {k:Nat} (hk:k < l.length) (h:(l.take k).all p = true) (hx:p l[k] = true):(l.take (k + 1)).all p = true:=by
 rw [List.take_succ_eq_append_getElem hk,List.all_append,h];simp [hx]
theorem YB {p:Int -> Bool} {l:List Int} {k:Nat} (hk:k < l.length) (hx:p l[k] = false):l.all p = false:=by
 rw [List.all_eq_false];exact ⟨l[k],yM hk,by simp [hx]⟩
theorem Jm {a b:Bool} (h:a = b):Ending.returned (.bool a) = .returned (.bool b):=by rw [h]
theorem Zat {p:Int -> Bool} {l:List Int} {k:Nat} (hk:k < l.length) (h:(l.take k).any p = false) (hx:p l[k] = false):(l.take (k + 1)).any p = false:=by
 rw [List.take_succ_eq_append_getElem hk,List.any_append,h];simp [hx]
theorem Zcg {p:Int -> Bool} {l:List Int} {k:Nat} (hk:k < l.length) (hx:p l[k] = true):l.any p = true:=by
 rw [List.any_eq_true];exact ⟨l[k],yM hk,hx⟩
def ZiD (p:Int -> Bool) (l:List Int) (w:World) (e:Ending) (w':World):Prop:=∃ r:Int,e = .returned (.int .i64 r) /\ w = w' /\ decide (0 <= r) = l.any p

theorem Zbr (lo hi:Int) (l:List Int):l.any (fun x=>!inR lo hi x) = !XI lo hi l:=by
 unfold XI;rw [List.all_eq_not_any_not];simp only [Bool.not_not]
theorem Vo (w:World) (a b:Nat):∃ n,(w.drewN a).drewN b = w.drewN n:=⟨a + b,World.drewN_drewN ..⟩
theorem Yz:(Tryz.prog.info? 3).map (fun i=>(i.zero,i.size,i.bytes)) = some (some (.int .i64 0),1,8):=by kernel_rfl

end Go.Proofs.YtlgdlenoohkipaaGreat
namespace Go

def PopQ (P:Program) (ops:Array Oper) (n:Nat) (Q:Exit -> Act -> World -> Prop):Exit -> Act -> World -> Prop
 | .normal,a,w=>wpOp P ops Q n (fun a w=>Q .normal a w) a w
 | e,a,w=>Q e a w

theorem PopQ.other {P:Program} {ops:Array Oper} {n:Nat} {Q:Exit -> Act -> World -> Prop} {e:Exit} {a:Act} {w:World} (he:e ≠ .normal) (h:PopQ P ops n Q e a w):Q e a w:=by
 cases e <;> first | exact h | exact absurd rfl he

theorem Oper.wp_other {P:Program} {o:Oper} {a:Act} {w:World} {K:Act -> World -> Prop} {Q Q':Exit -> Act -> World -> Prop} (h:∀ e a w,e ≠ Exit.normal -> Q' e a w -> Q e a w) (hh:o.wp P a w K Q'):o.wp P a w K Q:=by
 unfold Oper.wp at *
 generalize (execOp a.eval o).run P w = r at *
 cases r with
 | ok n w'=>
  cases n <;> simp only [Oper.upon] at hh ⊢ <;>
   first
    | exact hh
    | exact Calls.mono hh (fun e w'' he=>by
      cases e with
      | returned v=>exact he
      | panicked c=>exact h _ _ _ (by simp) he
      | outgrown=>obtain ⟨a,w,hq⟩:=he;exact ⟨a,w,h _ _ _ (by simp) hq⟩)
 | halt x w'=>cases x <;> simp only [Oper.upon] at hh ⊢ <;> first | exact hh | exact h _ _ _ (by simp) hh

def Region.popB (md:Region.Mode) (ops:Array Oper) (n:Nat):Bool:=
 (ops.size == n + 1) &&
 (List.range (n + 1)).all (fun i=>match ops[i]? with
  | some o=>o.after.all (fun e=>decide (e.on < i)) && (match o.guard with | some (j,_)=>decide (j < i) | none=>true)
  | none=>false) &&
 (List.range n).all (fun i=>match ops[n]? with
  | some o=>o.after.any (fun e=>Region.binds md e && (e.on == i || (match ops[e.on]? with | some m=>m.after.any (fun f=>Region.binds md f && f.on == i) | none=>false)))
  | none=>false)

section
variable {P:Program} {ops:Array Oper} {Q:Exit -> Act -> World -> Prop} {md:Region.Mode} {n:Nat}

theorem Region.popB_size (h:Region.popB md ops n = true):ops.size = n + 1:=by
 simp only [Region.popB,Bool.and_eq_true,beq_iff_eq] at h;exact h.1.1
theorem Region.popB_back (h:Region.popB md ops n = true) {i:Nat} {o:Oper} (ho:ops[i]? = some o):(∀ e ∈ o.after,e.on < i) /\ ∀ j b,o.guard = some (j,b) -> j < i:=by
 have hs:=Region.popB_size h;simp only [Region.popB,Bool.and_eq_true] at h;have hi:i < n + 1:=by rw [<- hs];exact (Array.getElem?_eq_some_iff.1 ho).1
 have h1:=List.all_eq_true.1 h.1.2 i (List.mem_range.2 hi);simp only [ho,Bool.and_eq_true] at h1;refine ⟨fun e he=>by simpa using Array.all_eq_true'.1 h1.1 e he,fun j b hg=>?_⟩;have:=h1.2;simp only [hg] at this;simpa using this
theorem Region.popB_last (h:Region.popB md ops n = true) {i:Nat} (hi:i < n) {o:Oper} (ho:ops[n]? = some o):∃ e ∈ o.after,Region.binds md e = true /\ (e.on = i ∨ ∃ m,ops[e.on]? = some m /\ ∃ f ∈ m.after,Region.binds md f = true /\ f.on = i):=by
 simp only [Region.popB,Bool.and_eq_true] at h;have h1:=List.all_eq_true.1 h.2 i (List.mem_range.2 hi);simp only [ho] at h1;obtain ⟨e,he,hb⟩:=Array.any_eq_true'.1 h1;simp only [Bool.and_eq_true,Bool.or_eq_true,beq_iff_eq] at hb;refine ⟨e,he,hb.1,?_⟩;rcases hb.2 with h2 | h2
 ·exact .inl h2
 ·cases hm:ops[e.on]? with
  | none=>rw [hm] at h2;cases h2
  | some m=>
   rw [hm] at h2;obtain ⟨f,hf,hb2⟩:=Array.any_eq_true'.1 h2;simp only [Bool.and_eq_true,beq_iff_eq] at hb2;exact .inr ⟨m,rfl,f,hf,hb2.1,hb2.2⟩

def ClosedL (md:Region.Mode) (ops:Array Oper) (l:Array Bool):Prop:=∀ (j:Nat) (o:Oper),ops[j]? = some o -> l.getD j false = true -> ∀ e ∈ o.after,Region.binds md e = true -> l.getD e.on false = true
theorem ClosedL.start (k:Nat):ClosedL md ops (Array.replicate k false):=fun j o ho hl=>by
 rw [Array.getD_eq_getD_getElem?,Array.getElem?_replicate] at hl;split at hl <;> simp at hl
theorem ClosedL.start' (k:Nat):ClosedL md ops ((Array.replicate k false).push false):=by rw [<- Array.replicate_succ];exact ClosedL.start _
theorem Vk {l:Array Bool} {i j:Nat} (h:l.getD j false = true):(l.setIfInBounds i true).getD j false = true:=by
 rw [Array.getD_eq_getD_getElem?] at h ⊢;rw [Array.getElem?_setIfInBounds];split
 ·split
  ·rfl
  ·rename_i e h1;subst e;rw [Array.getElem?_eq_none (by omega)] at h;cases h
 ·exact h
theorem ClosedL.set {l:Array Bool} {i:Nat} (hc:ClosedL md ops l) (hr:i ∈ Region.ready md ops l):ClosedL md ops (l.setIfInBounds i true):=by
 intro j o ho hl e he hb;obtain ⟨_,oi,hoi,hall⟩:=mem_ready.1 hr;by_cases hji:j = i
 ·subst hji;rw [hoi] at ho;cases ho;exact Vk (hall e he hb)
 ·refine Vk (hc j o ho ?_ e he hb);rw [Array.getD_eq_getD_getElem?] at hl ⊢
  rwa [Array.getElem?_setIfInBounds,if_neg (fun e=>hji e.symm)] at hl

theorem ZbU {i:Nat} (hs:ops.size = n + 1) (hi:i < n):ops.pop[i]? = ops[i]?:=by
 rw [Array.getElem?_pop];split
 ·rfl
 ·omega
theorem Xw {l:Array Bool} {i:Nat} {d:Bool} (hl:l.size = n) (hi:i < n):(l.push false).getD i d = l.getD i d:=by
 simp only [Array.getD_eq_getD_getElem?];rw [Array.getElem?_push,if_neg (by omega)]
theorem Zx {l:Array Bool} {d:Bool} (hl:l.size = n):(l.push false).getD n d = false:=by
 simp only [Array.getD_eq_getD_getElem?];rw [Array.getElem?_push,if_pos (by omega)];rfl

theorem Va (h:Region.popB md ops n = true) {l:Array Bool} (hl:l.size = n) {i:Nat} (hi:i < n):i ∈ Region.ready md ops (l.push false) ↔ i ∈ Region.ready md ops.pop l:=by
 have hs:=Region.popB_size h;rw [mem_ready,mem_ready,Xw hl hi,ZbU hs hi];constructor
 ·rintro ⟨h1,o,ho,h2⟩;refine ⟨h1,o,ho,fun e he hb=>?_⟩;have:=h2 e he hb
  rwa [Xw hl (by have:=(Region.popB_back h ho).1 e he;omega)] at this
 ·rintro ⟨h1,o,ho,h2⟩;refine ⟨h1,o,ho,fun e he hb=>?_⟩;rw [Xw hl (by have:=(Region.popB_back h ho).1 e he;omega)];exact h2 e he hb

theorem Zbf {l:Array Bool} {i:Nat} (h:¬ l.getD i false = true) (hi:i < l.size):l.getD i true = false:=by
 simp only [Array.getD_eq_getD_getElem?,Array.getElem?_eq_getElem hi,Option.getD_some] at *
 simpa using h

theorem YL (h:Region.popB md ops n = true) {l:Array Bool} (hl:l.size = n + 1):∀ (k i:Nat),i <= k -> i < n + 1 -> l.getD i false = false -> ∃ j,j <= i /\ j ∈ Region.ready md ops l:=by
 intro k
 induction k with
 | zero=>
  intro i hk hi hu;have hs:=Region.popB_size h;obtain rfl:i = 0:=by omega
  refine ⟨0,by omega,mem_ready.2 ⟨Zbf (by rw [hu];simp) (by omega),ops[0]'(by omega),Array.getElem?_eq_getElem _,fun e he _=>?_⟩⟩;have:=(Region.popB_back h (Array.getElem?_eq_getElem (by omega))).1 e he;omega
 | succ k ih=>
  intro i hk hi hu;have hs:=Region.popB_size h;by_cases hall:∀ e ∈ (ops[i]'(by omega)).after,Region.binds md e = true -> l.getD e.on false = true
  ·exact ⟨i,by omega,mem_ready.2 ⟨Zbf (by rw [hu];simp) (by omega),ops[i]'(by omega),Array.getElem?_eq_getElem _,hall⟩⟩
  ·simp only [Classical.not_forall] at hall;obtain ⟨e,he,hb,hne⟩:=hall;have hlt:=(Region.popB_back h (Array.getElem?_eq_getElem (by omega))).1 e he;obtain ⟨j,hj,hr⟩:=ih e.on (by omega) (by omega) (by simpa using hne);exact ⟨j,by omega,hr⟩

theorem ZbC (hs:ops.size = n + 1) {j:Nat} (hj:j < n) (t:Array Value):yielded ops.pop t j = yielded ops t j:=by
 unfold yielded;rw [ZbU hs hj]
theorem Zc6 (h:Region.popB md ops n = true) {i:Nat} {o:Oper} (hi:i < n) (ho:ops[i]? = some o) (t:Array Value):Region.wanted o (yielded ops.pop t) = Region.wanted o (yielded ops t):=by
 unfold Region.wanted;cases hg:o.guard with
 | none=>rfl
 | some g=>
  obtain ⟨j,b⟩:=g;have:=(Region.popB_back h ho).2 j b hg;simp only;rw [ZbC (Region.popB_size h) (by omega)]

theorem ZfS (h:Region.popB md ops n = true) {i:Nat} (hi:i < n) {K:Act -> World -> Prop} {a:Act} {w:World} (hh:wpOp P ops.pop (PopQ P ops n Q) i K a w):wpOp P ops Q i K a w:=by
 have hs:=Region.popB_size h;have ho:ops[i]? = some (ops[i]'(by omega)):=Array.getElem?_eq_getElem _;unfold wpOp at *
 rw [ZbU hs hi] at hh;have hwp:=Zc6 h hi ho a.tmps;simp only [ho] at hh ⊢;rw [hwp] at hh;split
 ·rename_i hw;simp only [hw,if_true] at hh;rcases hh with hh | ⟨h1,a',w',hq⟩
  ·exact .inl (Oper.wp_other (fun e a w he hq=>PopQ.other he hq) hh)
  ·exact .inr ⟨h1,a',w',hq⟩
 ·rename_i hw;simp only [hw] at hh;exact hh

theorem YY (h:Region.popB md ops n = true) {l:Array Bool} (hl:l.size = n) (hc:ClosedL md ops (l.push false)) (hr:n ∈ Region.ready md ops (l.push false)):∀ i,i < n -> l.getD i false = true:=by
 intro i hi;have hs:=Region.popB_size h;obtain ⟨_,o,ho,hall⟩:=mem_ready.1 hr;obtain ⟨e,he,hb,hon⟩:=Region.popB_last h hi ho;have:=hall e he hb;rcases hon with hon | ⟨m,hm,f,hf,hbf,hon⟩
 ·rwa [hon,Xw hl hi] at this
 ·have h2:=hc e.on m hm this f hf hbf
  rwa [hon,Xw hl hi] at h2

theorem YX {l:Array Bool} (hl:l.size = ops.size) (h:∀ i,i < ops.size -> l.getD i false = true):Region.ready md ops l = []:=by
 rw [List.eq_nil_iff_forall_not_mem];intro i hi;obtain ⟨h1,o,ho,_⟩:=mem_ready.1 hi;have hlt:=(Array.getElem?_eq_some_iff.1 ho).1;have:=h i hlt;simp only [Array.getD_eq_getD_getElem?,Array.getElem?_eq_getElem (show i < l.size by omega),Option.getD_some] at *
 rw [this] at h1;cases h1

theorem Qn (h:Region.popB md ops n = true) {l:Array Bool} (hl:l.size = n) {a:Act} {w:World} (hr:∀ i,i < n -> l.getD i false = true) (hq:PopQ P ops n Q .normal a w) (f:Nat):wpOp P ops Q n (wpAny P md ops Q f ((l.push false).setIfInBounds n true)) a w:=by
 have hs:=Region.popB_size h;refine wpOp_mono (fun a' w' hq'=>?_) hq;have hnil:Region.ready md ops ((l.push false).setIfInBounds n true) = []:=by
  refine YX (by simp;omega) fun i hi=>?_;by_cases hin:i = n
  ·subst hin;simp only [Array.getD_eq_getD_getElem?];rw [Array.getElem?_setIfInBounds,if_pos rfl,if_pos (by rw [Array.size_push,hl];omega)];rfl
  ·have:=hr i (by omega);rw [<- Xw hl (by omega)] at this;simp only [Array.getD_eq_getD_getElem?] at *
   rw [Array.getElem?_setIfInBounds,if_neg (by omega)];exact this
 cases f with
 | zero=>exact ⟨hnil,hq'⟩
 | succ f=>exact ⟨fun _=>hq',fun i hi=>by rw [hnil] at hi;cases hi⟩

theorem ZcF {l:Array Bool} {i:Nat} (hl:l.size = n) (hi:i < n):(l.push false).setIfInBounds i true = (l.setIfInBounds i true).push false:=by
 apply Array.ext_getElem?;intro k;simp only [Array.getElem?_setIfInBounds,Array.getElem?_push,Array.size_push,Array.size_setIfInBounds];by_cases hik:i = k
 ·subst hik;simp [show i < l.size + 1 by omega,show i < l.size by omega,show i ≠ l.size by omega]
 ·simp [hik]

theorem ZM (h:Region.popB md ops n = true):∀ (f:Nat) (l:Array Bool) (a:Act) (w:World),l.size = n -> ClosedL md ops (l.push false) -> wpAny P md ops.pop (PopQ P ops n Q) f l a w -> wpAny P md ops Q (f + 1) (l.push false) a w:=by
 have hs:=Region.popB_size h;intro f
 induction f with
 | zero=>
  intro l a w hl hc hw;refine ⟨fun h0=>?_,fun i hi=>?_⟩
  ·obtain ⟨j,_,hj⟩:=YL h (l:=l.push false) (by simp;omega) n n (Nat.le_refl _) (by omega) (Zx hl);rw [h0] at hj;cases hj
  ·have hlt:i < n + 1:=by
    obtain ⟨_,o,ho,_⟩:=mem_ready.1 hi;rw [<- hs];exact (Array.getElem?_eq_some_iff.1 ho).1
   by_cases hin:i = n
   ·subst hin;exact Qn h hl (YY h hl hc hi) hw.2 0
   ·have:=(Va h hl (by omega)).1 hi;rw [hw.1] at this;cases this
 | succ f ih=>
  intro l a w hl hc hw;refine ⟨fun h0=>?_,fun i hi=>?_⟩
  ·obtain ⟨j,_,hj⟩:=YL h (l:=l.push false) (by simp;omega) n n (Nat.le_refl _) (by omega) (Zx hl);rw [h0] at hj;cases hj
  ·have hlt:i < n + 1:=by
    obtain ⟨_,o,ho,_⟩:=mem_ready.1 hi;rw [<- hs];exact (Array.getElem?_eq_some_iff.1 ho).1
   by_cases hin:i = n
   ·subst hin;have hall:=YY h hl hc hi;exact Qn h hl hall (hw.1 (YX (by simp;omega) (fun k hk=>hall k (by simp at hk;omega)))) _
   ·have hlt':i < n:=(by omega);have h1:=ZfS h hlt' (hw.2 i ((Va h hl hlt').1 hi));rw [ZcF hl hlt'];exact wpOp_mono (fun a' w' hx=>ih _ a' w' (by simp;omega) (by rw [<- ZcF hl hlt'];exact hc.set hi) hx) h1

theorem Xg {S:World -> Prop} {id:Nat} {a:Act} {w:World} (n:Nat) (hm:P.follows .mixedOrders = true) (hB:Region.popB .any ops n = true) (hS:S w.drew)
  (h:S w.drew -> wpAnyH P .any ops.pop (PopQ P ops n Q) S n (Array.replicate n false) a w.drew):(Code.region id ops true).wp P Q a w:=by
 have hs:=Region.popB_size hB;refine wp_region_any hm ?_;have:=ZM hB n (Array.replicate n false) a w.drew (by simp) (ClosedL.start' _) (wpAny_of_held _ _ _ _ (h hS));rw [hs,show (Array.replicate (n + 1) false) = (Array.replicate n false).push false from Array.replicate_succ];exact this
theorem Jv {S:World -> Prop} {i:Nat} (d:Nat) {oi:Oper} {v:Value} {fuel:Nat} {listed:Array Bool} {t:Array Value} {df:List Deferred} {w:World} (hi:ops[i]? = some oi) (hd:oi.dst = some d)
  (hs:Region.noSelect ops = true) (hf:Region.free md ops listed i = true) (hr:(Region.ready md ops listed).contains i = true)
  (hQ:∀ c a w,Q (.panic c) (a.put (some d) v) w -> Q (.panic c) a w) (hy:Region.wanted oi (yielded ops t) = true /\ ∀ w,S w -> (execOp (Act.eval ⟨t,df⟩) oi).run P w = .ok (.value v) w) (hS:S w)
  (h:wpAnyH P md ops Q S fuel (listed.setIfInBounds i true) ⟨t.setIfInBounds d v,df⟩ w):wpAnyH P md ops Q S (fuel + 1) listed ⟨t,df⟩ w:=
 wpAnyH_take hi hs hf hr (by rw [hd];exact hQ) (.inl hy) hS (by rw [hd];exact h)
theorem Jh {S:World -> Prop} (i:Nat) {o:Oper} {fuel:Nat} {listed:Array Bool} {a:Act} {w:World} (ho:ops[i]? = some o) (hr:Region.ready md ops listed = [i]) (hg:o.guard = none)
  (h:∀ K':Act -> World -> Prop,Shut (∀ a w,S w -> (S w -> wpAnyH P md ops Q S fuel (listed.setIfInBounds i true) a w) -> K' a w) -> Oper.wp P o a w K' Q):wpAnyH P md ops Q S (fuel + 1) listed a w:=
 wpAnyH_ready hr (by simp) (AllReadyH.cons ho (fun K hK=>by
  have hw:Region.wanted o (yielded ops a.tmps) = true:=by simp [Region.wanted,hg]
  rw [if_pos hw];exact h K hK) AllReadyH.nil)
theorem PopQ.last {o:Oper} {a:Act} {w:World} (ho:ops[n]? = some o) (hg:o.guard = none) (h:∀ K':Act -> World -> Prop,(∀ a w,Q .normal a w -> K' a w) -> Oper.wp P o a w K' Q):PopQ P ops n Q .normal a w:=by
 show wpOp P ops Q n (fun a w=>Q .normal a w) a w;refine wpOp_step ho (fun K hK=>?_);have hw:Region.wanted o (yielded ops a.tmps) = true:=by simp [Region.wanted,hg]
 rw [if_pos hw];exact h K hK
theorem Uo {o:Oper} (w:World) {t0:Array Value} {df:List Deferred} {K:Act -> World -> Prop} (d:Nat) (hd:o.dst = some d) (s x:Operand) (t:TypeId)
  (ho:o.op = .call { callee:=.builtin .append,args:=#[s,x],argTypes:=#[t,t] })
  (base:Nat) (e:TypeId) (i:TypeInfo) (z:Value) (size bytes:Nat) (ht:P.underlying t = some (.slice e)) (hi:P.info? e = some i) (hz:i.zero = some z)
  (hsize:i.size = size) (hby:i.bytes = bytes) (hzs:z.cells.size = size) (hsz : 0 < size)
  (v:Value) (n:Nat) (xs:List Value) (hs:Act.eval ⟨t0,df⟩ s = v) (hown:w.ownsRow base e size v n xs)
  (ad:Addr) (m c:Nat) (news:List Value) (hx:Act.eval ⟨t0,df⟩ x = .slice (some ad) m c) (hl:news.length = m * size) (hnews:∀ j u,news[j]? = some u -> w.cell? (ad.add j) = some u) (h1:∀ u ∈ news,u.oneCell' = true)
  (hm : 0 < m) (h63:n + m <= maxLen) (hbytes:(n + m) * bytes <= 140737488355328) (hbase:base <= w.heap.size) (H:Nat) (hH:w.heap.size = H)
  (h:∀ g cap w',w'.ownsRow base e size (.slice (some ⟨g,0,none⟩) (n + m) cap) (n + m) (xs ++ news) -> w.grownBy w' v.ownBlock -> (v.ownBlock = some g ∨ g = H) -> g < w'.heap.size -> K ⟨t0.setIfInBounds d (.slice (some ⟨g,0,none⟩) (n + m) cap),df⟩ w'):o.wp P ⟨t0,df⟩ w K Q:=
 wp_append_lies w s x t ho base e i z size bytes ht hi hz hsize hby hzs hsz v n xs hs hown ad m c news hx hl hnews h1 hm h63 hbytes hbase H hH (by rw [hd];exact h)
end
end Go
namespace Go.Proofs.YtlgdlenoohkipaaGreat
open Go.RowKit Ear

def ZiC (out:List Int) (w:World) (e:Ending) (w':World):Prop:=
 ∃ A c,e = .returned (.slice A out.length c) /\ w'.ownsRow w.heap.size 3 1 (.slice A out.length c) out.length (ics out) /\ Below w.heap.size w w'
theorem UO (l:List Int):∀ u ∈ ics l,u.oneCell' = true:=by
 intro u hu;obtain ⟨x,_,rfl⟩:=List.mem_map.1 hu;rfl
theorem Yg {w:World} {base:Nat} {e:TypeId} {size n:Nat} {v:Value} {xs:List Value} (h:w.ownsRow base e size v n xs):∃ A c,v = .slice A n c:=by
 rcases h.2 with ⟨rfl,rfl⟩ | ⟨g,cap,cur,rfl,_⟩
 ·exact ⟨_,_,rfl⟩
 ·exact ⟨_,_,rfl⟩

theorem Lies.news {w:World} {ad:Addr} {xs:List Value} (h:Lies w (some ad) xs) (o:Obj) (j:Nat) (u:Value) (hu:xs[j]? = some u):(w.alloc o).cell? (ad.add j) = some u:=by
 obtain ⟨b,off,e,hb,hc⟩:=h (Nat.lt_of_le_of_lt (Nat.zero_le _) (List.getElem?_eq_some_iff.1 hu).1);cases e;rw [Addr.add_lit];exact (World.cell?_alloc_lt w o _ hb).trans (hc j u hu)

theorem ZdT (A:Option Addr) (c:Nat) (l:List Int) (w:World) (h:Lies w A (ics l)) (hA:A = none -> c = 0 /\ l = []) (hn:l.length <= 1000000) :
  Calls Tryz.prog 84 #[.slice A l.length c] w (ZiC l w):=by
 obtain ⟨i0,hi0,hz0,hz1,hz2⟩:=info_parts Yz;have HI:=zH hi0;have HZ0:=zH hz0;have HZ1:=zH hz1;have HZ2:=zH hz2;clear hi0 hz0 hz1 hz2;cases A with
 | none=>
  obtain ⟨rfl,rfl⟩:=hA rfl;have hnil:∀ W,(binOp .eql 35 (.slice none 0 0) (.slice none 0 0)).run Tryz.prog W = .ok (.bool true) W:=fun W=>Lib.run_eql_slice_nil W 35 3 none 0 0 0 0 Tryz.underlying35;go_enter Tryz.func84,Tryz.ntmps84;go_wp2_with fail;go_ret;exact ⟨none,0,rfl,World.ownsRow_nil _ _ _ _,Below.refl _ _⟩
 | some ad=>
  clear hA;have hnil:∀ W,(binOp .eql 35 (.slice (some ad) l.length c) (.slice none 0 0)).run Tryz.prog W = .ok (.bool false) W:=fun W=>Lib.run_eql_slice_nil W 35 3 (some ad) l.length c 0 0 Tryz.underlying35;have hnews:=zH (h.news);go_enter Tryz.func84,Tryz.ntmps84;go_wp2_with (at_builtin;refine wpList_append_own_at _ rfl (.tmp 5) (.tmp 6) _ rfl w.heap.size 3 i0 _ 1 8 Tryz.underlying35 HI.out HZ0.out HZ1.out HZ2.out rfl (by omega) (.slice (some ⟨w.heap.size,0,none⟩) 0 0) 0 [] rfl (World.ownsRow_lit w #[] 0 nR (by simp) rfl) ad l.length c (ics l) rfl (by simp) (hnews.out _) (UO l) (by unfold maxLen;omega) (by omega) (by simp) ?_;intro v' w1 hown1 hgrow _ hat);go_ret;obtain ⟨A',c',rfl⟩:=Yg hown1;refine ⟨A',c',by rw [Nat.zero_add];rfl,by simpa using hown1,(bR.alloc nR _).grown hgrow (by simp) (fun k hk=>?_)⟩;simp [Value.ownBlock] at hk;omega
theorem ZiR {w:World} {g:Nat} {t:TypeId} {cs:Array Value} (h:w.heap[g]? = some (.cells cs t (0,0))):g < w.heap.size:=(aE h).1
theorem Lies.cells_add {w:World} {ad:Addr} {xs:List Value} (h:Lies w (some ad) xs) (j:Nat) (u:Value) (hu:xs[j]? = some u):w.cell? (ad.add j) = some u:=by
 obtain ⟨b,off,e,hb,hc⟩:=h (Nat.lt_of_le_of_lt (Nat.zero_le _) (List.getElem?_eq_some_iff.1 hu).1);cases e;rw [Addr.add_lit];exact hc j u hu

theorem Lies.take {w:World} {A:Option Addr} {xs:List Value} (h:Lies w A xs) (k:Nat):Lies w A (xs.take k):=fun h0=>by
 obtain ⟨b,off,e,hb,hc⟩:=h (by simp at h0;omega);refine ⟨b,off,e,hb,fun j u hu=>hc j u ?_⟩;rw [List.getElem?_take] at hu;split at hu
 ·exact hu
 ·cases hu
end Go.Proofs.YtlgdlenoohkipaaGreat
namespace Go.Proofs.YtlgdlenoohkipaaGreat
open Go.RowKit

structure Led (w0 w:World) (F:List (Option Addr × List Value)):Prop where
 bel:Below w0.heap.size w0 w
 lies:∀ (i:Nat) (A:Option Addr) (xs:List Value),F[i]? = some (A,xs) -> Lies w A xs

section
variable {w0 w w':World} {F:List (Option Addr × List Value)}
theorem Led.nil (w:World):Led w w []:=⟨Below.refl _ _,fun i A xs h=>by simp at h⟩
theorem Led.below (h:Led w0 w F) (hb:Below w.heap.size w w'):Led w0 w' F:=
 ⟨h.bel.trans (hb.mono h.bel.size),fun i A xs e=>(h.lies i A xs e).below hb⟩
theorem Led.alloc (h:Led w0 w F) (o:Obj):Led w0 (w.alloc o) F:=
 ⟨h.bel.alloc h.bel.size o,fun i A xs e=>(h.lies i A xs e).alloc o⟩
theorem Led.add (h:Led w0 w F) {A:Option Addr} {xs:List Value} (hl:Lies w A xs):Led w0 w (F ++ [(A,xs)]):=⟨h.bel,fun i A' xs' e=>by
 rw [List.getElem?_append] at e;split at e
 ·exact h.lies i A' xs' e
 ·rename_i hge;have:i - F.length = 0:=by
   have:=(List.getElem?_eq_some_iff.1 e).1;simp at this;omega
  rw [this] at e;simp at e;obtain ⟨rfl,rfl⟩:=e;exact hl⟩
theorem Led.row (h:Led w0 w F) {g:Nat} {t:TypeId} {cs:Array Value} (hr:w.heap[g]? = some (.cells cs t (0,0))):Led w0 w (F ++ [(some ⟨g,0,none⟩,cs.toList)]):=
 h.add (fun _=>⟨g,0,rfl,ZiR hr,fun k u hu=>by rw [Nat.zero_add,cell_of_row w g k _ _ _ hr];simpa using hu⟩)
theorem Led.cell (h:Led w0 w F) (i:Nat) {b off:Nat} {xs:List Value} (e:F[i]? = some (some ⟨b,off,none⟩,xs)) (k:Nat) {u:Value} (hu:xs[k]? = some u):w.cell? ⟨b,off + k,none⟩ = some u:=by
 obtain ⟨b',off',e',_,hc⟩:=h.lies i _ _ e (by have:=(List.getElem?_eq_some_iff.1 hu).1;omega);cases e';exact hc k u hu
end

section
variable {P:Program} (w:World)
theorem JC {o:Oper} {a:Act} {K:Act -> World -> Prop} {Q:Exit -> Act -> World -> Prop} (s x:Operand) (t:TypeId)
  (ho:o.op = .call { callee:=.builtin .append,args:=#[s,x],argTypes:=#[t,t] })
  (base:Nat) (e:TypeId) (i:TypeInfo) (z:Value) (size bytes:Nat) (ht:P.underlying t = some (.slice e)) (hi:P.info? e = some i) (hz:i.zero = some z)
  (hsize:i.size = size) (hby:i.bytes = bytes) (hzs:z.cells.size = size) (hsz : 0 < size)
  (v:Value) (n:Nat) (xs:List Value) (hs:a.eval s = v) (hown:w.ownsRow base e size v n xs)
  (A:Option Addr) (m c:Nat) (news:List Value) (hx:a.eval x = .slice A m c) (hA:A = none -> c = 0) (hr:Lies w A news) (hl:news.length = m * size) (h1:∀ u ∈ news,u.oneCell' = true)
  (h63:n + m <= maxLen) (hbytes:(n + m) * bytes <= 140737488355328) (hbase:base <= w.heap.size) (N:Nat) (hN:n + m = N)
  (h:∀ A' c' w',w'.ownsRow base e size (.slice A' N c') N (xs ++ news) -> w.grownBy w' v.ownBlock -> ((Value.slice A' N c').ownBlock = v.ownBlock ∨ (Value.slice A' N c').ownBlock = some w.heap.size) -> K (a.put o.dst (.slice A' N c')) w'):o.wp P a w K Q:=by
 subst hN;cases A with
 | none=>
  have hnil:news = []:=by
   rcases news with _ | ⟨u,l⟩
   ·rfl
   ·obtain ⟨b,off,e,_⟩:=hr (by simp);cases e
  subst hnil;have hm:m = 0:=by
   rcases Nat.eq_zero_or_pos m with h0 | h0
   ·exact h0
   ·have:=Nat.mul_pos h0 hsz;simp at hl;omega
  subst hm;obtain rfl:=hA rfl;have hrun:=run_append_owned_none (P:=P) (w:=w) base t o.type e i size ht hi v n xs hown;unfold Oper.wp;simp [execOp,ho,resolve,invoke,builtin,hs,hx,hrun,Result.andThen];obtain ⟨A',c',rfl⟩:=Yg hown;exact h A' c' w (by simpa using hown) (World.grownBy.refl _ _) (.inl rfl)
 | some ad=>
  obtain ⟨v',w',hrun,h2,h3,_,h5⟩:=run_append_own_at (P:=P) w base t o.type e i z size bytes ht hi hz hsize hby hzs hsz v n xs hown ad m c news hl (fun j u hu=>hr.cells_add j u hu) h1 h63 hbytes hbase;obtain ⟨A',c',rfl⟩:=Yg h2;unfold Oper.wp execOp;simp only [ho,resolve,invoke,builtin,Sem.run_bind,Sem.run_pure,Result.andThen_ok,List.map_toArray,List.map_cons,List.map_nil,hs,hx,hrun];exact h A' c' w' h2 h3 h5
theorem Jg {ops:Array Oper} {rest:List Oper} {o:Oper} {a:Act} {Q:Exit -> Act -> World -> Prop} (hw:Region.wanted o (yielded ops a.tmps) = true) (s x:Operand) (t:TypeId)
  (ho:o.op = .call { callee:=.builtin .append,args:=#[s,x],argTypes:=#[t,t] })
  (base:Nat) (e:TypeId) (i:TypeInfo) (z:Value) (size bytes:Nat) (ht:P.underlying t = some (.slice e)) (hi:P.info? e = some i) (hz:i.zero = some z)
  (hsize:i.size = size) (hby:i.bytes = bytes) (hzs:z.cells.size = size) (hsz : 0 < size)
  (v:Value) (n:Nat) (xs:List Value) (hs:a.eval s = v) (hown:w.ownsRow base e size v n xs)
  (A:Option Addr) (m c:Nat) (news:List Value) (hx:a.eval x = .slice A m c) (hA:A = none -> c = 0) (hr:Lies w A news) (hl:news.length = m * size) (h1:∀ u ∈ news,u.oneCell' = true)
  (h63:n + m <= maxLen) (hbytes:(n + m) * bytes <= 140737488355328) (hbase:base <= w.heap.size) (N:Nat) (hN:n + m = N)
  (h:∀ A' c' w',w'.ownsRow base e size (.slice A' N c') N (xs ++ news) -> w.grownBy w' v.ownBlock -> ((Value.slice A' N c').ownBlock = v.ownBlock ∨ (Value.slice A' N c').ownBlock = some w.heap.size) -> wpList P ops Q rest (a.put o.dst (.slice A' N c')) w') :
  wpList P ops Q (o :: rest) a w:=
 wpList_step fun K hK=>by
  rw [if_pos hw];exact JC w s x t ho base e i z size bytes ht hi hz hsize hby hzs hsz v n xs hs hown A m c news hx hA hr hl h1 h63 hbytes hbase N hN fun A' c' w' h2 h3 h4=>hK _ _ (h A' c' w' h2 h3 h4)
theorem Ux {ops:Array Oper} {o:Oper} {a:Act} {K:Act -> World -> Prop} {Q:Exit -> Act -> World -> Prop} {E:Prop} (hgd:o.guard = none) (s x:Operand) (t:TypeId)
  (ho:o.op = .call { callee:=.builtin .append,args:=#[s,x],argTypes:=#[t,t] })
  (base:Nat) (e:TypeId) (i:TypeInfo) (z:Value) (size bytes:Nat) (ht:P.underlying t = some (.slice e)) (hi:P.info? e = some i) (hz:i.zero = some z)
  (hsize:i.size = size) (hby:i.bytes = bytes) (hzs:z.cells.size = size) (hsz : 0 < size)
  (v:Value) (n:Nat) (xs:List Value) (hs:a.eval s = v) (hown:w.ownsRow base e size v n xs)
  (A:Option Addr) (m c:Nat) (news:List Value) (hx:a.eval x = .slice A m c) (hA:A = none -> c = 0) (hr:Lies w A news) (hl:news.length = m * size) (h1:∀ u ∈ news,u.oneCell' = true)
  (h63:n + m <= maxLen) (hbytes:(n + m) * bytes <= 140737488355328) (hbase:base <= w.heap.size) (N:Nat) (hN:n + m = N)
  (h:∀ A' c' w',w'.ownsRow base e size (.slice A' N c') N (xs ++ news) -> w.grownBy w' v.ownBlock -> ((Value.slice A' N c').ownBlock = v.ownBlock ∨ (Value.slice A' N c').ownBlock = some w.heap.size) -> K (a.put o.dst (.slice A' N c')) w') :
  if Region.wanted o (yielded ops a.tmps) = true then Oper.wp P o a w K Q else E:=by
 have hw:Region.wanted o (yielded ops a.tmps) = true:=by simp [Region.wanted,hgd]
 rw [if_pos hw];exact JC w s x t ho base e i z size bytes ht hi hz hsize hby hzs hsz v n xs hs hown A m c news hx hA hr hl h1 h63 hbytes hbase N hN h
end
theorem ZeF {w w':World} (hb:Below w.heap.size w w'):w.grownBy w' none:=⟨hb.os,hb.tape,hb.output,hb.size,fun i hi _=>hb.block i hi⟩
theorem Xa {w w':World} (h:w.grownBy w' none):Below w.heap.size w w':=⟨h.os,h.tape,h.output,h.size,fun i hi=>h.block i hi (by simp)⟩
theorem JF {w w':World} (h:Below w.drew.heap.size w.drew w'):Below w.heap.size w w':=⟨h.os,h.tape,h.output,h.size,h.block⟩
theorem Jr {w w':World} {base:Nat} {e:TypeId} {size n:Nat} {v:Value} {xs:List Value} (h:w.ownsRow base e size v n xs) (hb:Below w.heap.size w w'):w'.ownsRow base e size v n xs:=
 h.kept (ZeF hb) (by cases hx:v.ownBlock <;> simp)
theorem ZaZ {w w':World} {base:Nat} {e:TypeId} {size n:Nat} {v:Value} {xs:List Value} {row:Option Nat} (h:w.ownsRow base e size v n xs) (hg:w.grownBy w' row) (hr:∀ k,v.ownBlock = some k -> row ≠ some k):w'.ownsRow base e size v n xs:=
 h.kept hg (by
  cases hx:v.ownBlock with
  | none=>exact .inl rfl
  | some k=>exact .inr (fun e=>hr k hx e.symm))
theorem Zaa {w:World} {base:Nat} {e:TypeId} {size n c:Nat} {A:Option Addr} {xs:List Value} (h:w.ownsRow base e size (.slice A n c) n xs):n <= c:=by
 rcases h.2 with ⟨e1,e2⟩ | ⟨gg,cap,cur,e1,_,_,e2,_⟩
 ·injection e1 with _ e3 _;omega
 ·injection e1 with _ _ e3;omega
theorem YP (a b:List Int):ics (a ++ b) = ics a ++ ics b:=by simp [ics]
end Go.Proofs.YtlgdlenoohkipaaGreat
