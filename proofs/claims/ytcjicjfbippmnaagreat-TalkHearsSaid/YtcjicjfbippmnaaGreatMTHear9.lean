/- TalkHears -/
import Derived.Test.YtcjicjfbippmnaaGreatMTHear8
set_option maxRecDepth 100000
set_option maxHeartbeats 32000000
namespace Go
section
variable {P:Program} {ops:Array Oper} {Q:Exit -> Act -> World -> Prop}

def Region.backB (ops:Array Oper):Bool:=(List.range ops.size).all fun i=>match ops[i]? with
 | some o=>o.after.all (fun e=>!Region.binds .any e || decide (e.on < i))
 | none=>false
def Oper.waits (o:Oper) (j:Nat):Bool:=o.after.any fun e=>Region.binds .any e && e.on == j
def Region.dstB (ops:Array Oper) (N:Nat):Bool:=(List.range ops.size).all fun i=>match ops[i]? with
 | some o=>(match o.dst with
  | some d=>decide (d < N) && (List.range ops.size).all fun j=>j == i || (match ops[j]? with | some o'=>o'.dst != some d | none=>true)
  | none=>true)
 | none=>true
def Region.keptB (ops:Array Oper) (i k:Nat):Bool:=(List.range ops.size).all fun j=>match ops[j]? with
 | some o=>o.dst != some k || o.waits i
 | none=>true
def Region.freeB (ops:Array Oper) (k:Nat):Bool:=(List.range ops.size).all fun j=>match ops[j]? with
 | some o=>o.dst != some k
 | none=>true
theorem Region.freeB_of {ops:Array Oper} {k:Nat} (h:Region.freeB ops k = true) (j:Nat) (o:Oper) (ho:ops[j]? = some o):o.dst ≠ some k:=by
 have:=WP.1 h j (WT.2 (WG.1 ho).1);simp only [ho] at this;simpa using this
def Oper.left (o:Oper) (b:Act):Value:=match o.dst with
 | some d=>b.tmps.getD d undef
 | none=>undef
structure Sl (ops:Array Oper) (a:Act) (G:Nat -> Value -> World -> Prop) (listed:Array Bool) (b:Act) (u:World):Prop where
 size:b.tmps.size = a.tmps.size
 defers:b.defers = a.defers
 lsize:listed.size = ops.size
 closed:∀ j o,ops[j]? = some o -> listed.getD j false = true -> ∀ k,o.waits k = true -> listed.getD k false = true
 same:∀ k,(∀ j o,ops[j]? = some o -> o.dst = some k -> listed.getD j false = false) -> b.tmps.getD k undef = a.tmps.getD k undef
 slot:∀ j o,ops[j]? = some o -> listed.getD j false = true -> G j (o.left b) u
theorem Xb {l:Array Bool} {i j:Nat}:(l.setIfInBounds i true).getD j false = true ↔ (j = i /\ i < l.size) ∨ l.getD j false = true:=by
 rw [Wh,Wh,WbB];by_cases h:i = j
 ·subst h;by_cases hl:i < l.size
  ·simp [hl]
  ·simp [hl]
 ·simp [h];intro e;exact absurd e.symm h
theorem JY {t:Array Value} {d k:Nat} {v:Value} (hd:d < t.size):(t.setIfInBounds d v).getD k undef = if k = d then v else t.getD k undef:=by
 rw [Wh,Wh,WbB];by_cases h:d = k
 ·subst h;simp [hd]
 ·rw [Ww h,Ww (fun e=>h e.symm)]
theorem Vm {i:Nat} {o:Oper} {listed:Array Bool} (ho:ops[i]? = some o):i ∈ Region.ready .any ops listed ↔ (i < ops.size /\ listed.getD i true = false /\ ∀ e ∈ o.after,Region.binds .any e = true -> listed.getD e.on false = true):=by
 unfold Region.ready;rw [WdL,WT];simp only [ho,Option.map_some,Option.getD_some,Bool.and_eq_true,Bool.not_eq_true',Array.all_eq_true',Bool.or_eq_true];constructor
 ·rintro ⟨h1,h2,h3⟩;refine ⟨h1,h2,fun e he hb=>?_⟩;rcases h3 e he with h | h
  ·rw [hb] at h;cases h
  ·exact h
 ·rintro ⟨h1,h2,h3⟩;refine ⟨h1,h2,fun e he=>?_⟩;by_cases hb:Region.binds .any e = true
  ·exact .inr (h3 e he hb)
  ·exact .inl (by simpa using hb)
theorem Xv (hB:Region.backB ops = true) {listed:Array Bool} (hl:listed.size = ops.size) (hr:Region.ready .any ops listed = []):∀ i,i < ops.size -> listed.getD i false = true:=by
 intro i
 induction i using Nat.strongRecOn with
 | ind i ih=>
  intro hi;apply WeC;intro hne;have ho:ops[i]? = some ops[i]:=Wt hi;have hb:∀ e ∈ ops[i].after,Region.binds .any e = true -> e.on < i:=by
   have:=WP.1 hB i (WT.2 hi);simp only [ho,Array.all_eq_true'] at this;intro e he hbe;have h1:=this e he;rw [hbe] at h1;simpa using h1
  have hm:i ∈ Region.ready .any ops listed:=(Vm ho).2 ⟨hi,by
   rw [Wh,Wt (by omega)] at hne ⊢;simpa using hne,fun e he hbe=>ih e.on (hb e he hbe) (by have:=hb e he hbe;omega)⟩
  rw [hr] at hm;cases hm
theorem Zab {N:Nat} (hD:Region.dstB ops N = true) {i:Nat} {o:Oper} {d:Nat} (ho:ops[i]? = some o) (hd:o.dst = some d):d < N /\ ∀ j o',ops[j]? = some o' -> o'.dst = some d -> j = i:=by
 have h:=WP.1 hD i (WT.2 (WG.1 ho).1);simp only [ho,hd,Bool.and_eq_true,decide_eq_true_eq] at h;refine ⟨h.1,fun j o' ho' hd'=>?_⟩;have h2:=WP.1 h.2 j (WT.2 (WG.1 ho').1);simp only [ho',hd',Bool.or_eq_true,beq_iff_eq] at h2;rcases h2 with h2 | h2
 ·exact h2
 ·simp at h2
theorem Xg:∀ (l:List Bool) (i:Nat),l[i]? = some false -> (l.set i true).countP (· == false) + 1 = l.countP (· == false):=by
 intro l
 induction l with
 | nil=>intro i h;simp at h
 | cons x l ih=>
  intro i h;cases i with
  | zero=>simp at h;subst h;simp
  | succ i=>
   have:=ih i (by simpa using h);rw [WfC,List.countP_cons,List.countP_cons];omega
theorem hx0 {listed:Array Bool} {i:Nat} (hli:i < listed.size) (h:listed.getD i false = false):listed.toList[i]? = some false:=by
 rw [WbE,Wt hli];rw [Wh,Wt hli] at h;simpa using h
def ZbM (P:Program) (ops:Array Oper) (Q:Exit -> Act -> World -> Prop) (a:Act) (S:World -> Prop) (T:World -> World -> Prop) (G:Nat -> Value -> World -> Prop) (i:Nat) (o:Oper):Prop:=
 ∀ (b:Act) (u:World),S u -> (∀ j o',ops[j]? = some o' -> o.waits j = true -> G j (o'.left b) u) -> (∀ k,Region.keptB ops i k = true -> b.tmps.getD k undef = a.tmps.getD k undef) ->
  ∀ K:Act -> World -> Prop,(∀ v u',S u' -> T u u' -> G i (if o.dst.isSome then v else undef) u' -> K (b.put o.dst v) u') -> if Region.wanted o (yielded ops b.tmps) = true then o.wp P b u K Q else K (b.put o.dst undef) u
def Jt (P:Program) (ops:Array Oper) (Q:Exit -> Act -> World -> Prop) (a:Act) (S:World -> Prop) (T:World -> World -> Prop) (G:Nat -> Value -> World -> Prop):List Oper -> Nat -> Prop
 | [],_=>True
 | o :: l,i=>ZbM P ops Q a S T G i o /\ Jt P ops Q a S T G l (i + 1)
theorem Zbf {a:Act} {S:World -> Prop} {T:World -> World -> Prop} {G:Nat -> Value -> World -> Prop}:∀ (l:List Oper) (i:Nat),Jt P ops Q a S T G l i -> ∀ k o,l[k]? = some o -> ZbM P ops Q a S T G (i + k) o:=by
 intro l
 induction l with
 | nil=>intro i _ k o h;simp at h
 | cons x l ih=>
  intro i h k o hk;cases k with
  | zero=>simp at hk;subst hk;exact h.1
  | succ k=>
   have:=ih (i + 1) h.2 k o (by simpa using hk)
   rwa [show i + 1 + k = i + (k + 1) by omega] at this
theorem ZU {a:Act} (N:Nat) (hN:a.tmps.size = N) (hB:Region.backB ops = true) (hD:Region.dstB ops N = true) (S:World -> Prop) (T:World -> World -> Prop) (G:Nat -> Value -> World -> Prop)
  (hG:∀ j v w w',G j v w -> T w w' -> G j v w') (hs:Jt P ops Q a S T G ops.toList 0)
  (hend:∀ b u,b.tmps.size = N -> b.defers = a.defers -> S u -> (∀ j o,ops[j]? = some o -> G j (o.left b) u) -> (∀ k,Region.freeB ops k = true -> b.tmps.getD k undef = a.tmps.getD k undef) -> Q .normal b u) :
  ∀ (f:Nat) (listed:Array Bool) (b:Act) (u:World),S u -> Sl ops a G listed b u -> (f = 0 -> Region.ready .any ops listed = []) -> (listed.toList.countP (· == false) <= f) -> wpAny P .any ops Q f listed b u:=by
 have fin:∀ (listed:Array Bool) (b:Act) (u:World),S u -> Sl ops a G listed b u -> Region.ready .any ops listed = [] -> Q .normal b u:=by
  intro listed b u hS hSl hr;have hall:=Xv hB hSl.lsize hr;refine hend b u (hSl.size.trans hN) hSl.defers hS (fun j o ho=>hSl.slot j o ho (hall j (WG.1 ho).1)) (fun k hk=>hSl.same k fun j o ho hd=>absurd hd (Region.freeB_of hk j o ho))
 intro f
 induction f with
 | zero=>intro listed b u hS hSl h0 _;exact ⟨h0 rfl,fin listed b u hS hSl (h0 rfl)⟩
 | succ f ih=>
  intro listed b u hS hSl _ hc;refine ⟨fin listed b u hS hSl,fun i hi=>?_⟩;have hlt:i < ops.size:=by
   unfold Region.ready at hi;exact WT.1 (WdL.1 hi).1
  have ho:ops[i]? = some ops[i]:=Wt hlt;generalize ops[i] = o at ho;obtain ⟨_,hun,dp⟩:=(Vm ho).1 hi;have hli:i < listed.size:=by rw [hSl.lsize];exact hlt
  have hunf:listed.getD i false = false:=by
   rw [Wh,Wt hli] at hun ⊢;simpa using hun
  have dp':∀ j,o.waits j = true -> listed.getD j false = true:=by
   intro j hj;obtain ⟨e,he,hb⟩:=Wc1.1 hj;simp only [Bool.and_eq_true,beq_iff_eq] at hb;rw [<- hb.2];exact dp e he hb.1
  have step:=Zbf _ _ hs i o (by rw [WbE];exact ho);rw [WH] at step;refine wpOp_step ho (fun K hK=>?_);refine step b u hS (fun j o' ho' hw=>hSl.slot j o' ho' (dp' j hw)) (fun k hk=>hSl.same k fun j o' ho' hd'=>?_) K (fun v u' hS' hT' hG'=>?_)
  ·have h:=WP.1 hk j (WT.2 (WG.1 ho').1);simp only [ho',hd',Bool.or_eq_true] at h;rcases h with h | h
   ·simp at h
   ·cases hlj:listed.getD j false with
    | false=>rfl
    | true=>have:=hSl.closed j o' ho' hlj i h;rw [hunf] at this;cases this
  ·refine hK _ _ (ih _ _ _ hS' ?_ ?_ ?_)
   ·have hput:∀ d,o.dst = some d -> d < b.tmps.size:=fun d hd=>by rw [hSl.size,hN];exact (Zab hD ho hd).1
    refine ⟨?_,?_,by simp [hSl.lsize],?_,?_,?_⟩
    ·unfold Act.put;cases o.dst <;> simp [hSl.size]
    ·unfold Act.put;cases o.dst <;> simp [hSl.defers]
    ·intro j o' ho' hl k hw;rw [Xb] at hl ⊢;rcases hl with ⟨rfl,_⟩ | hl
     ·rw [ho] at ho';cases ho';exact .inr (dp' k hw)
     ·exact .inr (hSl.closed j o' ho' hl k hw)
    ·intro k hk;have h1:listed.getD i false = false:=hunf;have hne:o.dst ≠ some k:=fun hd=>by
      have:=hk i o ho hd;have h2:(listed.setIfInBounds i true).getD i false = true:=Xb.2 (.inl ⟨rfl,hli⟩);rw [h2] at this;cases this
     have h3:=hSl.same k fun j o' ho' hd'=>by
      have:=hk j o' ho' hd';cases hlj:listed.getD j false with
      | false=>rfl
      | true=>rw [Xb.2 (.inr hlj)] at this;cases this
     rw [<- h3];unfold Act.put;cases hdd:o.dst with
     | none=>rfl
     | some d=>
      simp only;rw [JY (hput d hdd),Ww (fun e=>hne (by rw [hdd,e]))]
    ·intro j o' ho' hl;rw [Xb] at hl;by_cases hji:j = i
     ·subst hji;rw [ho] at ho';cases ho';unfold Oper.left Act.put;cases hdd:o.dst with
      | none=>rw [hdd] at hG';simpa using hG'
      | some d=>
       rw [hdd] at hG';simp only;rw [JY (hput d hdd),WA rfl];simpa using hG'
     ·have hl':listed.getD j false = true:=by
       rcases hl with ⟨e,_⟩ | hl
       ·exact absurd e hji
       ·exact hl
      have hold:=hG _ _ _ _ (hSl.slot j o' ho' hl') hT';have e:o'.left (b.put o.dst v) = o'.left b:=by
       unfold Oper.left Act.put;cases hdd':o'.dst with
       | none=>rfl
       | some d'=>
        cases hdd:o.dst with
        | none=>rfl
        | some d=>
         simp only;rw [JY (hput d hdd),Ww];intro e2;subst e2;exact hji ((Zab hD ho hdd).2 j o' ho' hdd')
      rw [e];exact hold
   ·intro hf;subst hf;have hz:(listed.setIfInBounds i true).toList.countP (· == false) = 0:=by
     have:=Xg listed.toList i (hx0 hli hunf);rw [WcF];omega
    rw [We5] at hz;unfold Region.ready;rw [WeQ];intro j hj;rw [WT] at hj;have hjl:j < (listed.setIfInBounds i true).size:=(by simp [hSl.lsize];exact hj);have:=hz ((listed.setIfInBounds i true)[j]) (WeX.2 (WeG hjl));rw [Wh,Wt hjl];simp only [Option.getD_some];cases hv:(listed.setIfInBounds i true)[j] with
    | true=>simp
    | false=>rw [hv] at this;exact absurd rfl this
   ·have:=Xg listed.toList i (hx0 hli hunf);rw [WcF];omega
theorem Xz {id:Nat} {a:Act} {w:World} (N:Nat) (hN:a.tmps.size = N) (hm:P.follows .mixedOrders = true) (hB:Region.backB ops = true) (hD:Region.dstB ops N = true) (S:World -> Prop) (T:World -> World -> Prop) (G:Nat -> Value -> World -> Prop)
  (hG:∀ j v w w',G j v w -> T w w' -> G j v w') (hS:S w.drew) (hs:Jt P ops Q a S T G ops.toList 0)
  (hend:∀ b u,b.tmps.size = N -> b.defers = a.defers -> S u -> (∀ j o,ops[j]? = some o -> G j (o.left b) u) -> (∀ k,Region.freeB ops k = true -> b.tmps.getD k undef = a.tmps.getD k undef) -> Q .normal b u):(Code.region id ops true).wp P Q a w:=by
 refine wp_region_any hm ?_;refine ZU N hN hB hD S T G hG hs hend _ _ _ _ hS ⟨rfl,rfl,by simp,?_,fun _ _=>rfl,?_⟩ ?_ ?_
 ·intro j o ho hl;rw [Wh,WaK] at hl;split at hl <;> simp at hl
 ·intro j o ho hl;rw [Wh,WaK] at hl;split at hl <;> simp at hl
 ·intro h0;unfold Region.ready;rw [h0];rfl
 ·simp only [Array.toList_replicate,List.countP_replicate];split <;> omega
theorem Jj {id:Nat} {a:Act} {w:World} (n N:Nat) (hN:a.tmps.size = N) (hm:P.follows .mixedOrders = true) (hP:Region.popB .any ops n = true) (hB:Region.backB ops.pop = true) (hD:Region.dstB ops.pop N = true) (S:World -> Prop) (T:World -> World -> Prop) (G:Nat -> Value -> World -> Prop)
  (hG:∀ j v w w',G j v w -> T w w' -> G j v w') (hS:S w.drew) (hs:Jt P ops.pop (PopQ P ops n Q) a S T G ops.pop.toList 0)
  (hend:∀ b u,b.tmps.size = N -> b.defers = a.defers -> S u -> (∀ j o,ops.pop[j]? = some o -> G j (o.left b) u) -> (∀ k,Region.freeB ops.pop k = true -> b.tmps.getD k undef = a.tmps.getD k undef) -> PopQ P ops n Q .normal b u):(Code.region id ops true).wp P Q a w:=by
 have hs':=Region.popB_size hP;have hsz:ops.pop.size = n:=by simp [hs']
 refine wp_region_any hm ?_;have key:=ZU (P:=P) (ops:=ops.pop) (Q:=PopQ P ops n Q) (a:=a) N hN hB hD S T G hG hs hend n (Array.replicate n false) a w.drew hS ⟨rfl,rfl,by simp [hs'],?_,fun _ _=>rfl,?_⟩ ?_ ?_
 ·have:=Ve hP n (Array.replicate n false) a w.drew (by simp) (ClosedL.start' _) key;rw [hs',show (Array.replicate (n + 1) false) = (Array.replicate n false).push false from WcK];exact this
 ·intro j o ho hl;rw [Wh,WaK] at hl;split at hl <;> simp at hl
 ·intro j o ho hl;rw [Wh,WaK] at hl;split at hl <;> simp at hl
 ·intro h0;unfold Region.ready;rw [hsz,h0];rfl
 ·simp only [Array.toList_replicate,List.countP_replicate];split <;> omega
theorem JL (b:Act) (N:Nat) (h:b.tmps.size = N):b = ⟨((List.range N).map fun k=>b.tmps.getD k undef).toArray,b.defers⟩:=by
 obtain ⟨t,d⟩:=b;simp only at h ⊢;congr;apply Array.ext
 ·simp [h]
 ·intro i h1 h2;simp [Array.getD_eq_getD_getElem?,Array.getElem?_eq_getElem h1]
end
end Go
namespace Go.Proofs.YtcjicjfbippmnaaGreat
open Go.RowKit Ear

def Bt (t:TypeId) (w:World) (k:Nat):Prop:=w.heap[k]? = some (.cells #[.bool false,.slice none 0 0,.slice none 0 0] t (0,0))
theorem Bt.new (t:TypeId) (w:World):Bt t (w.alloc (.cells #[.bool false,.slice none 0 0,.slice none 0 0] t)) w.heap.size:=Wg w _
theorem Bt.lt {t:TypeId} {w:World} {k:Nat} (h:Bt t w k):k < w.heap.size:=(aE h).1
theorem Bt.below {t:TypeId} {w w':World} {k:Nat} (h:Bt t w k) (hb:Below w.heap.size w w'):Bt t w' k:=(hb.block k h.lt).trans h
theorem Bt.alloc {t:TypeId} {w:World} {k:Nat} (h:Bt t w k) (o:Obj):Bt t (w.alloc o) k:=h.below ((Wp _ w).alloc nR o)
theorem Bt.facts {t:TypeId} {w:World} {k:Nat} (h:Bt t w k):w.cell? ⟨k,0,none⟩ = some (.bool false) /\ w.cell? ⟨k,1,none⟩ = some (.slice none 0 0) /\ w.cell? ⟨k,2,none⟩ = some (.slice none 0 0) /\ w.frozen? ⟨k,0,none⟩ = false /\ w.frozen? ⟨k,1,none⟩ = false /\ w.frozen? ⟨k,2,none⟩ = false:=
 ⟨by rw [Wx w k 0 _ _ _ h];rfl,by rw [Wx w k 1 _ _ _ h];rfl,by rw [Wx w k 2 _ _ _ h];rfl,by simp [World.frozen?,show w.heap[k]? = _ from h],by simp [World.frozen?,show w.heap[k]? = _ from h],by simp [World.frozen?,show w.heap[k]? = _ from h]⟩
theorem Lies.apartBt {t:TypeId} {w w':World} {A:Option Addr} {l:List Int} {k:Nat} (h:Lies w A (ucs l)) (hb:Bt t w k) (hs:w.heap.size <= w'.heap.size) (hk:∀ b,b ≠ k -> b < w.heap.size -> w'.heap[b]? = w.heap[b]?):Lies w' A (ucs l):=fun h0=>by
 obtain ⟨b,off,e,hlt,hc⟩:=h h0;have hne:b ≠ k:=by
  rintro rfl;have hl : 0 < l.length:=by simpa using h0
  have:=hc 0 (.int .u32 l[0]) (by simp [gE hl]);rw [Wx w b _ _ _ _ hb] at this;rcases (show off + 0 = 0 ∨ off + 0 = 1 ∨ off + 0 = 2 ∨ 3 <= off + 0 by omega) with e | e | e | e
  ·rw [e] at this;simp at this
  ·rw [e] at this;simp at this
  ·rw [e] at this;simp at this
  ·rw [WbZ (by simpa using e)] at this;cases this
 exact ⟨b,off,e,by omega,fun j u hu=>by
  rw [<- hc j u hu];exact Ws (a:=⟨b,off + j,none⟩) (hk b hne hlt)⟩
theorem XG {t:TypeId} {w:World} {A:Option Addr} {c k:Nat} {l:List Int} (h:Dg w A c l) (hb:Bt t w k) (v0 v1 v2:Value):Dg (((w.setCell ⟨k,0,none⟩ v0).setCell ⟨k,1,none⟩ v1).setCell ⟨k,2,none⟩ v2) A c l:=by
 have hk:∀ b,b ≠ k -> b < w.heap.size -> (((w.setCell ⟨k,0,none⟩ v0).setCell ⟨k,1,none⟩ v1).setCell ⟨k,2,none⟩ v2).heap[b]? = w.heap[b]?:=fun b hne _=>
  (Wu _ ⟨k,2,none⟩ v2 b hne).trans ((Wu _ ⟨k,1,none⟩ v1 b hne).trans (Wu _ ⟨k,0,none⟩ v0 b hne))
 exact ⟨h.lies.apartBt hb (by simp) hk,h.dig,h.cap,h.nil⟩
theorem Ji {w w':World} {B k:Nat} (h:Below B w w') (hk:B <= k) (v0 v1 v2:Value):Below B w (((w'.setCell ⟨k,0,none⟩ v0).setCell ⟨k,1,none⟩ v1).setCell ⟨k,2,none⟩ v2):=((h.setCell hk _).setCell hk _).setCell hk _
structure Nm (w:World) (x:Fr) (q:Rat):Prop where
 neg:x.neg = qs q
 num:x.N = nd (qn q)
 dn:x.D = nd q.den
 n:Dg w x.A x.c (nd (qn q))
 d:Dg w x.B x.d (nd q.den)
theorem Nm.below {w w':World} {x:Fr} {q:Rat} (h:Nm w x q) (hb:Below w.heap.size w w'):Nm w' x q:=⟨h.neg,h.num,h.dn,h.n.below hb,h.d.below hb⟩
def Qn (q:Rat) (w:World) (e:Ending) (w':World):Prop:=∃ x:Fr,e = .returned x.val /\ Nm w' x q /\ Below w.heap.size w w'
theorem Nm.mk' {w:World} {A B:Option Addr} {c d:Nat} {q:Rat} {b:Bool} (hb:b = qs q) (h1:Dg w A c (nd (qn q))) (h2:Dg w B d (nd q.den)):Nm w ⟨b,A,c,nd (qn q),B,d,nd q.den⟩ q:=⟨hb,rfl,rfl,h1,h2⟩
theorem Zae {W:World} {k:Nat} {a b c:Value} {t:TypeId} (h:W.heap[k]? = some (.cells #[a,b,c] t (0,0))):W.cell? ⟨k,0,none⟩ = some a /\ W.cell? ⟨k,1,none⟩ = some b /\ W.cell? ⟨k,2,none⟩ = some c:=
 ⟨by rw [Wx W k 0 _ _ _ h];rfl,by rw [Wx W k 1 _ _ _ h];rfl,by rw [Wx W k 2 _ _ _ h];rfl⟩
/-! what slots of a drawn region hold -/
def isV (v:Value):Value -> World -> Prop:=fun x _=>x = v
def isNd (n:Nat):Value -> World -> Prop:=fun x w=>∃ A c,x = .slice A (nd n).length c /\ Hid (Dg w A c (nd n))
def isNm (q:Rat):Value -> World -> Prop:=fun x w=>∃ r:Fr,x = r.val /\ Hid (Nm w r q)
def isFq (q:Rat):Value -> World -> Prop:=fun x w=>∃ r:Fr,x = r.val /\ Hid (Fq w r q)
def Keeps (p:Value -> World -> Prop):Prop:=∀ v w w',p v w -> Below w.heap.size w w' -> p v w'
theorem Fq.below {w w':World} {x:Fr} {q:Rat} (h:Fq w x q) (hb:Below w.heap.size w w'):Fq w' x q:=⟨h.ok.below hb,h.neg,h.num,h.dn⟩
theorem Keeps.isV (v:Value):Keeps (isV v):=fun _ _ _ h _=>h
theorem Keeps.isNd (n:Nat):Keeps (isNd n):=fun _ _ _ ⟨A,c,h1,h2⟩ hb=>⟨A,c,h1,zH (h2.out.below hb)⟩
theorem Keeps.isNm (q:Rat):Keeps (isNm q):=fun _ _ _ ⟨r,h1,h2⟩ hb=>⟨r,h1,zH (h2.out.below hb)⟩
theorem Keeps.isFq (q:Rat):Keeps (isFq q):=fun _ _ _ ⟨r,h1,h2⟩ hb=>⟨r,h1,zH (h2.out.below hb)⟩
def isBt (t:TypeId) (base:Nat):Value -> World -> Prop:=fun x w=>∃ k,x = .pointer (some ⟨k,0,none⟩) /\ Hid (Bt t w k) /\ base <= k
def isAg (b:Bool) (n:Nat):Value -> World -> Prop:=fun x w=>∃ A c,x = .agg #[.bool b,.slice A (nd n).length c,.slice none 0 0] /\ Hid (Dg w A c (nd n))
theorem Keeps.isBt (t:TypeId) (base:Nat):Keeps (isBt t base):=fun _ _ _ ⟨k,h1,h2,h3⟩ hb=>⟨k,h1,zH (h2.out.below hb),h3⟩
theorem Keeps.isAg (b:Bool) (n:Nat):Keeps (isAg b n):=fun _ _ _ ⟨A,c,h1,h2⟩ hb=>⟨A,c,h1,zH (h2.out.below hb)⟩
def Gl (l:List (Value -> World -> Prop)) (j:Nat) (v:Value) (w:World):Prop:=l.getD j (fun _ _=>True) v w
theorem Gl.keep {l:List (Value -> World -> Prop)} (h:∀ p ∈ l,Keeps p):∀ j v w w',Gl l j v w -> Below w.heap.size w w' -> Gl l j v w':=by
 intro j v w w' hj hb;unfold Gl at *
 by_cases hl:j < l.length
 ·have e:l.getD j (fun _ _=>True) = l[j]:=by rw [Wc7,gE hl];rfl
  rw [e] at hj ⊢;exact h _ (gM hl) _ _ _ hj hb
 ·have e:l.getD j (fun _ _=>True) = fun _ _=>True:=by rw [Wc7,WF (WdX hl)];rfl
  rw [e];trivial
theorem XP (neg:Bool) (A B:Option Addr) (c d n m:Nat) (w:World) (hA:Dg w A c (nd n)) (hB:Dg w B d (nd m)) (hn:(nd n).length <= 400000) (hm:(nd m).length <= 400000) (m0:m ≠ 0) :
  Calls Tryz.prog 128 #[.bool neg,.slice A (nd n).length c,.slice B (nd m).length d] w (Qn (fq neg n m) w):=by
 obtain ⟨p1,p2,p3⟩:=ZG (a:=neg) (n:=n) m0;have HP1:=zH p1;have HP2:=zH p2;have HP3:=zH p3;clear p1 p2 p3;have hg0:n.gcd m ≠ 0:=by have:=Nat.gcd_pos_of_pos_right n (show 0 < m by omega);omega
 obtain ⟨W1,hW1⟩:∃ W1:World,W1 = w.alloc (.cells #[.bool false,.slice none 0 0,.slice none 0 0] 119):=⟨_,rfl⟩;have B1:Hid (Below w.heap.size w W1):=zH (by rw [hW1];exact bR.alloc nR _);have X1:Hid (Bt 119 W1 w.heap.size):=zH (by rw [hW1];exact Bt.new _ w);have DN:=zH (hA.below B1.out);have DM:=zH (hB.below B1.out);have C1:=zH (Zfv A B c d n m W1 DN.out DM.out hn hm);have hz:(decide (n ≠ 0)) = decide (n / n.gcd m ≠ 0):=by
  rw [WdW];constructor
  ·intro h;exact We0.1 (Nat.div_pos (WeR m (WfA h)) (WfA hg0))
  ·rintro h rfl;exact h (Nat.zero_div _)
 have HZ:=zH hz;clear hz hA hB;go_enter Tryz.func128,Tryz.ntmps128;go_wp2_with fail;rw [<- hW1];clear hW1;refine C1.out.mono ?_;clear C1;rintro e w2 ⟨GA,gc,rfl,g1,g2,g3,g4⟩;have DG:=zH (Jz g1 g2 g3);have B2:=zH g4;have C2:=zH (Zak A GA c gc n (n.gcd m) w2 (DN.out.below g4) DG.out hn hg0);clear g1 g2 g3 g4;go_wp2_with fail;refine C2.out.mono ?_;clear C2;rintro e w3 ⟨A3,c3,A3',c3',rfl,d1,d2,hb⟩;have D3:=zH d1;have B3:=zH (B2.out.trans (hb.mono B2.out.size));have C3:=zH (Zak B GA d gc m (n.gcd m) w3 (DM.out.below B3.out) (DG.out.below hb) hm hg0);clear d1 d2 hb;go_wp2_with fail;refine C3.out.mono ?_;clear C3;rintro e w4 ⟨A4,c4,A4',c4',rfl,d1,d2,hb⟩;have D4:=zH d1;have D3':=zH (D3.out.below hb);have B4:=zH (B3.out.trans (hb.mono B3.out.size));have X4:=zH (X1.out.below B4.out);have BW:=zH (B1.out.trans (B4.out.mono B1.out.size));have HN:Hid (decide (0 < (nd (n / n.gcd m)).length) = decide (n / n.gcd m ≠ 0)):=zH (by
  rw [WdW,We0];exact not_congr Jw)
 clear d1 d2 hb DN DM DG D3 B1 B2 B3 B4 X1;obtain ⟨k0,k1,k2,f0,f1,f2⟩:=X4.out.facts;have HL:∀ b:Bool,b = (neg && decide (0 < (nd (n / n.gcd m)).length)) -> b = qs (fq neg n m):=fun b hb=>by rw [hb,HP1.out,HN.out,HZ.out]
 have HLH:=zH HL;clear HL;have fin:∀ b:Bool,b = (neg && decide (0 < (nd (n / n.gcd m)).length)) -> Qn (fq neg n m) w (.returned (.agg #[.bool b,.slice A3 (nd (n / n.gcd m)).length c3,.slice A4 (nd (m / n.gcd m)).length c4])) (((w4.setCell ⟨w.heap.size,0,none⟩ (.bool b)).setCell ⟨w.heap.size,1,none⟩ (.slice A3 (nd (n / n.gcd m)).length c3)).setCell ⟨w.heap.size,2,none⟩ (.slice A4 (nd (m / n.gcd m)).length c4)):=fun b hb=>by
  rw [<- HP2.out,<- HP3.out] at *
  exact ⟨⟨b,A3,c3,_,A4,c4,_⟩,rfl,Nm.mk' (HLH.out b hb) (XG D3'.out X4.out _ _ _) (XG D4.out X4.out _ _ _),Ji BW.out nR _ _ _⟩
 have FIN:=zH fin;clear fin HLH HN HZ HP1 HP2 HP3;generalize (nd (n / n.gcd m)).length = ln at *
 generalize (nd (m / n.gcd m)).length = lm at *
 cases neg with
 | false=>
  go_wp2_with fail;obtain ⟨e0,e1,e2⟩:=Zy (.bool false) (.slice A3 ln c3) (.slice A4 lm c4) k0 k1 k2;refine WB (v:=.agg #[.bool false,.slice A3 ln c3,.slice A4 lm c4]) (by simp [results,Tryz.results128,go_sem,e0,e1,e2]) rfl ?_;exact FIN.out false (by simp)
 | true=>
  have q:decide ((0:Int) < (ln:Int)) = decide (0 < ln):=by simp
  go_wp2_with fail;obtain ⟨e0,e1,e2⟩:=Zy (.bool (decide (0 < ln))) (.slice A3 ln c3) (.slice A4 lm c4) k0 k1 k2;refine WB (v:=.agg #[.bool (decide (0 < ln)),.slice A3 ln c3,.slice A4 lm c4]) (by simp [results,Tryz.results128,go_sem,e0,e1,e2]) rfl ?_;exact FIN.out (decide (0 < ln)) (by simp)
theorem al2 (w:World) (o1 o2:Obj):Below w.heap.size w ((w.alloc o1).alloc o2):=(bR.alloc nR _).alloc (by simp) _
theorem Zfu (x:Fr) (q:Rat) (w:World) (hx:Nm w x q) (q0:q ≠ 0):Calls Tryz.prog 167 #[x.val] w (Qn q⁻¹ w):=by
 obtain ⟨xn,xA,xc,xN,xB,xd,xD⟩:=x;obtain ⟨h1,h2,h3,hN,hD⟩:=hx;simp only at h1 h2 h3 hN hD;subst h1 h2 h3;simp only [Fr.val];obtain ⟨i1,i2,i3⟩:=U4 q0;have HN:=zH hN;have HD:=zH hD;have HI1:=zH i1;have HI2:=zH i2;have HI3:=zH i3;clear hN hD i1 i2 i3 q0;go_enter Tryz.func167,Tryz.ntmps167;go_wp2_with fail;refine WB (v:=.agg #[.bool (qs q),.slice xB (nd q.den).length xd,.slice xA (nd (qn q)).length xc]) (by simp [results,Tryz.results167,go_sem]) rfl ?_;refine ⟨⟨qs q,xB,xd,_,xA,xc,_⟩,rfl,⟨HI1.out.symm,by rw [HI2.out],by rw [HI3.out],?_,?_⟩,al2 w _ _⟩
 ·rw [HI2.out];exact HD.out.below (al2 w _ _)
 ·rw [HI3.out];exact HN.out.below (al2 w _ _)
theorem ZaX (x:Fr) (q:Rat) (w:World) (hx:Nm w x q) (b:Bool) (hb:Hid (decide (q = 0) = b)):Calls Tryz.prog 129 #[x.val] w fun e w'=>e = .returned (.bool b) /\ Below w.heap.size w w':=by
 obtain ⟨xn,xA,xc,xN,xB,xd,xD⟩:=x;obtain ⟨h1,h2,h3,hN,hD⟩:=hx;simp only at h1 h2 h3 hN hD;subst h1 h2 h3;simp only [Fr.val];have HB:Hid (b = (((nd (qn q)).length:Int) == 0)):=zH (by
  rw [<- hb.out,Bool.eq_iff_iff];simp only [decide_eq_true_eq,beq_iff_eq];rw [<- Zep,<- Jw];omega)
 generalize (nd (qn q)).length = m at *
 generalize (nd q.den).length = m2 at *
 clear hN hD;go_enter Tryz.func129,Tryz.ntmps129;go_wp2_with fail;go_ret;exact ⟨JB (by rw [HB.out]),bR.alloc nR _⟩
theorem ZaY (x:Fr) (q:Rat) (w:World) (hx:Nm w x q) (r:Int) (hr:Hid (XH q = r)):Calls Tryz.prog 64 #[x.val] w fun e w'=>e = .returned (.int .i64 r) /\ Below w.heap.size w w':=by
 have Z0:=zH (ZaX x q (w.alloc (.cells #[.bool x.neg,.slice x.A x.N.length x.c,.slice x.B x.D.length x.d] 119)) (hx.below (bR.alloc nR _)) (decide (q = 0)) (zH rfl));have HS:Hid (qs q = decide (q.num < 0)):=zH rfl;have HQ:Hid (r = if q.num < 0 then -1 else if q.num = 0 then 0 else 1):=zH hr.out.symm;have HE:Hid (q = 0 ↔ q.num = 0):=zH Rat.num_eq_zero.symm;obtain ⟨xn,xA,xc,xN,xB,xd,xD⟩:=x;obtain ⟨h1,h2,h3,hN,hD⟩:=hx;simp only at h1 h2 h3 hN hD;subst h1 h2 h3;simp only [Fr.val];have HC:Hid (∀ W,Below (w.alloc (.cells #[.bool (qs q),.slice xA (nd (qn q)).length xc,.slice xB (nd q.den).length xd] 119)).heap.size (w.alloc (.cells #[.bool (qs q),.slice xA (nd (qn q)).length xc,.slice xB (nd q.den).length xd] 119)) W -> W.cell? ⟨w.heap.size,0,none⟩ = some (.bool (qs q))):=zH (fun W hW=>(hW.cell (p:=⟨w.heap.size,0,none⟩) (by simp)).trans (by simp [go_sem]));simp only [Fr.val] at Z0;generalize (nd (qn q)).length = m at *
 generalize (nd q.den).length = m2 at *
 clear hN hD hr;by_cases h0:q = 0
 ·have hd:decide (q = 0) = true:=Wi h0;have HR:Hid (r = 0):=zH (by rw [HQ.out,(HE.out.1 h0)];rfl);rw [hd] at Z0;clear HQ HE hd HS h0;go_enter Tryz.func64,Tryz.ntmps64;go_wp2_with fail;refine Z0.out.mono ?_;rintro e w' ⟨rfl,hb⟩;have HB:=zH hb;clear hb Z0 HC;go_wp2_with fail;go_ret;exact ⟨JT (by rw [HR.out]),(Wp w.heap.size w).alloc nR _ |>.trans (HB.out.mono (by simp))⟩
 ·have hd:decide (q = 0) = false:=dF h0;have h1:¬ q.num = 0:=fun h=>h0 (HE.out.2 h);rw [hd] at Z0;by_cases hn:q.num < 0
  ·have HR:Hid (r = -1):=zH (by rw [HQ.out,WA hn]);have hs:qs q = true:=(by rw [HS.out];exact Wi hn);rw [hs] at HC Z0 ⊢;clear HQ HE hd HS h0 h1 hn hs;go_enter Tryz.func64,Tryz.ntmps64;go_wp2_with fail;refine Z0.out.mono ?_;rintro e w' ⟨rfl,hb⟩;have HB:=zH hb;have c0:=HC.out _ hb;clear hb Z0 HC;go_wp2_with fail;go_ret;exact ⟨JT (by rw [HR.out]),(Wp w.heap.size w).alloc nR _ |>.trans (HB.out.mono (by simp))⟩
  ·have HR:Hid (r = 1):=zH (by rw [HQ.out,Ww hn,Ww h1]);have hs:qs q = false:=(by rw [HS.out];exact dF hn);rw [hs] at HC Z0 ⊢;clear HQ HE hd HS h0 h1 hn hs;go_enter Tryz.func64,Tryz.ntmps64;go_wp2_with fail;refine Z0.out.mono ?_;rintro e w' ⟨rfl,hb⟩;have HB:=zH hb;have c0:=HC.out _ hb;clear hb Z0 HC;go_wp2_with fail;go_ret;exact ⟨JT (by rw [HR.out]),(Wp w.heap.size w).alloc nR _ |>.trans (HB.out.mono (by simp))⟩
theorem Zc3 (x:Fr) (q:Rat) (w:World) (hx:Nm w x q):Calls Tryz.prog 66 #[x.val] w (Qn (-q) w):=by
 obtain ⟨xn,xA,xc,xN,xB,xd,xD⟩:=x;obtain ⟨h1,h2,h3,hN,hD⟩:=hx;simp only at h1 h2 h3 hN hD;subst h1 h2 h3;simp only [Fr.val];have HN:=zH hN;have HD:=zH hD;have HI1:Hid (∀ b,b = (!qs q && decide (0 < (nd (qn q)).length)) -> b = qs (-q)):=zH (fun b hb=>by
  rw [hb,Ziq];congr 1;rw [WdW,We0];exact not_congr Jw)
 have HI2:=zH (ZgU q);have HI3:=zH (Zfd q);have fin:∀ b,b = (!qs q && decide (0 < (nd (qn q)).length)) -> Qn (-q) w (.returned (.agg #[.bool b,.slice xA (nd (qn q)).length xc,.slice xB (nd q.den).length xd])) ((w.alloc (.cells #[.bool (qs q),.slice xA (nd (qn q)).length xc,.slice xB (nd q.den).length xd] 119)).alloc (.cells #[.bool b,.slice xA (nd (qn q)).length xc,.slice xB (nd q.den).length xd] 119)):=fun b hb=>
  ⟨⟨b,xA,xc,_,xB,xd,_⟩,rfl,⟨HI1.out b hb,by rw [HI2.out],by rw [HI3.out],by rw [HI2.out];exact HN.out.below (al2 w _ _),by rw [HI3.out];exact HD.out.below (al2 w _ _)⟩,al2 w _ _⟩
 have FIN:=zH fin;clear fin hN hD HN HD HI1 HI2 HI3;generalize hs:qs q = s at *
 generalize (nd (qn q)).length = m at *
 generalize (nd q.den).length = m2 at *
 cases s with
 | true=>
  go_enter Tryz.func66,Tryz.ntmps66;go_wp2_with fail;refine WB (v:=.agg #[.bool false,.slice xA m xc,.slice xB m2 xd]) (by simp [results,Tryz.results66,go_sem]) rfl ?_;exact FIN.out false (by simp)
 | false=>
  go_enter Tryz.func66,Tryz.ntmps66;go_wp2_with fail;refine WB (v:=.agg #[.bool (decide (0 < m)),.slice xA m xc,.slice xB m2 xd]) (by simp [results,Tryz.results66,go_sem]) rfl ?_;exact FIN.out (decide (0 < m)) (by simp)
theorem Zbx (z:Int):qs (z:Rat) = decide (z < 0) /\ qn (z:Rat) = z.natAbs /\ (z:Rat).den = 1:=⟨by unfold qs;rw [Rat.num_intCast],by unfold qn;rw [Rat.num_intCast],Rat.den_intCast z⟩
theorem VT (z:Int) (w:World) (h1 : -9223372036854775808 <= z) (h2:z <= 9223372036854775807):Calls Tryz.prog 135 #[.int .i64 z] w (Qn (z:Rat) w):=by
 obtain ⟨p1,p2,p3⟩:=Zbx z;have HP1:=zH p1;have HP2:=zH p2;have HP3:=zH p3;clear p1 p2 p3;have S1:=zH (fun W=>Ym z.natAbs W (by omega));have S2:=zH (fun W=>Ym 1 W (by omega));have X0:=zH (Bt.new 119 w);have B0:Hid (Below w.heap.size w (w.alloc (.cells #[.bool false,.slice none 0 0,.slice none 0 0] 119))):=zH (bR.alloc nR _);by_cases hz:z < 0
 ·have hc:((z.natAbs:Nat):Int) = -z:=by omega
  have HB:Hid (true = qs (z:Rat)):=zH (by rw [HP1.out];exact (Wi hz).symm);rw [hc] at S1;have k1 : -(z + 1) + 1 = -z:=by omega
  go_enter Tryz.func135,Tryz.ntmps135;go_wp2_with fail;refine (S1.out _).mono ?_;rintro e w2 ⟨A1,c1,rfl,s1,s2,s3,s4⟩;have D1:=zH (Jz s1 s2 s3);have B1:=zH (B0.out.trans (s4.mono B0.out.size));have X1:=zH (X0.out.below s4);clear s1 s2 s3 s4 S1;go_wp2_with fail;refine (S2.out _).mono ?_;rintro e w3 ⟨A2,c2,rfl,s1,s2,s3,s4⟩;have D2:=zH (Jz s1 s2 s3);have D1':=zH (D1.out.below s4);have B2:=zH (B1.out.trans (s4.mono B1.out.size));have X2:=zH (X1.out.below s4);clear s1 s2 s3 s4 S2 D1 B1 X1 B0 X0;obtain ⟨k0,k1',k2,f0,f1,f2⟩:=X2.out.facts;go_wp2_with fail;obtain ⟨e0,e1,e2⟩:=Zy (.bool true) (.slice A1 (nd z.natAbs).length c1) (.slice A2 (nd 1).length c2) k0 k1' k2;refine WB (v:=.agg #[.bool true,.slice A1 (nd z.natAbs).length c1,.slice A2 (nd 1).length c2]) (by simp [results,Tryz.results135,go_sem,e0,e1,e2]) rfl ?_;refine ⟨⟨true,A1,c1,_,A2,c2,_⟩,rfl,⟨HB.out,by rw [HP2.out],by rw [HP3.out],?_,?_⟩,Ji B2.out nR _ _ _⟩
  ·rw [HP2.out];exact XG D1'.out X2.out _ _ _
  ·rw [HP3.out];exact XG D2.out X2.out _ _ _
 ·have hc:((z.natAbs:Nat):Int) = z:=by omega
  have HB:Hid (false = qs (z:Rat)):=zH (by rw [HP1.out];exact (dF hz).symm);rw [hc] at S1;go_enter Tryz.func135,Tryz.ntmps135;go_wp2_with fail;refine (S1.out _).mono ?_;rintro e w2 ⟨A1,c1,rfl,s1,s2,s3,s4⟩;have D1:=zH (Jz s1 s2 s3);have B1:=zH (B0.out.trans (s4.mono B0.out.size));have X1:=zH (X0.out.below s4);clear s1 s2 s3 s4 S1;go_wp2_with fail;refine (S2.out _).mono ?_;rintro e w3 ⟨A2,c2,rfl,s1,s2,s3,s4⟩;have D2:=zH (Jz s1 s2 s3);have D1':=zH (D1.out.below s4);have B2:=zH (B1.out.trans (s4.mono B1.out.size));have X2:=zH (X1.out.below s4);clear s1 s2 s3 s4 S2 D1 B1 X1 B0 X0;obtain ⟨k0,k1',k2,f0,f1,f2⟩:=X2.out.facts;go_wp2_with fail;obtain ⟨e0,e1,e2⟩:=Zy (.bool false) (.slice A1 (nd z.natAbs).length c1) (.slice A2 (nd 1).length c2) k0 k1' k2;refine WB (v:=.agg #[.bool false,.slice A1 (nd z.natAbs).length c1,.slice A2 (nd 1).length c2]) (by simp [results,Tryz.results135,go_sem,e0,e1,e2]) rfl ?_;refine ⟨⟨false,A1,c1,_,A2,c2,_⟩,rfl,⟨HB.out,by rw [HP2.out],by rw [HP3.out],?_,?_⟩,Ji B2.out nR _ _ _⟩
  ·rw [HP2.out];exact XG D1'.out X2.out _ _ _
  ·rw [HP3.out];exact XG D2.out X2.out _ _ _
set_option linter.unusedVariables false

theorem YL {t:TypeId} {w:World} {x:Fr} {q:Rat} {k:Nat} (h:Nm w x q) (hb:Bt t w k) (v0 v1 v2:Value):Nm (((w.setCell ⟨k,0,none⟩ v0).setCell ⟨k,1,none⟩ v1).setCell ⟨k,2,none⟩ v2) x q:=
 ⟨h.neg,h.num,h.dn,XG h.n hb _ _ _,XG h.d hb _ _ _⟩
theorem JP {t:TypeId} {w:World} {x:Fr} {q:Rat} {k:Nat} (h:Fq w x q) (hb:Bt t w k) (v0 v1 v2:Value):Fq (((w.setCell ⟨k,0,none⟩ v0).setCell ⟨k,1,none⟩ v1).setCell ⟨k,2,none⟩ v2) x q:=
 ⟨⟨XG h.ok.n hb _ _ _,XG h.ok.d hb _ _ _⟩,h.neg,h.num,h.dn⟩
theorem ZeA (p q:Rat):fq (qs p != qs q) (qn p * qn q) (p.den * q.den) = p * q:=by
 rw [<- Ze6 p.den_nz q.den_nz,XX,XX]
theorem Zcr (x y:Fr) (p q:Rat) (w:World) (hx:Nm w x p) (hy:Nm w y q) (sp:Sz p 200000) (sq:Sz q 200000):Calls Tryz.prog 166 #[x.val,y.val] w (Qn (p * q) w):=by
 obtain ⟨xn,xA,xc,xN,xB,xd,xD⟩:=x;obtain ⟨h1,h2,h3,HxN,HxD⟩:=hx;simp only at h1 h2 h3 HxN HxD;subst h1 h2 h3;obtain ⟨yn,yA,yc,yN,yB,yd,yD⟩:=y;obtain ⟨h1,h2,h3,HyN,HyD⟩:=hy;simp only at h1 h2 h3 HyN HyD;subst h1 h2 h3;simp only [Fr.val];have s1:=sp.num;have s2:=sp.den;have s3:=sq.num;have s4:=sq.den;have l1:=JM (qn p) (qn q);have l2:=JM p.den q.den;have d0:p.den * q.den ≠ 0:=Wb4 p.den_nz q.den_nz;rw [<- ZeA p q];go_enter Tryz.func166,Tryz.ntmps166;go_wp2_with fail;obtain ⟨W,hW⟩:∃ W:World,W = ((w.alloc (.cells #[.bool (qs p),.slice xA (nd (qn p)).length xc,.slice xB (nd p.den).length xd] 119)).alloc (.cells #[.bool (qs q),.slice yA (nd (qn q)).length yc,.slice yB (nd q.den).length yd] 119)).alloc (.cells #[.bool false,.slice none 0 0,.slice none 0 0] 119):=⟨_,rfl⟩;have hs:W.heap.size = w.heap.size + 3:=by rw [hW];simp
 have HB0:Hid (Below w.heap.size w W):=zH (by rw [hW];exact (al2 w _ _).alloc (by simp;omega) _);have HBX:Hid (Bt 119 W (w.heap.size + 1 + 1)):=zH (by rw [hW];have:=Bt.new 119 ((w.alloc (.cells #[.bool (qs p),.slice xA (nd (qn p)).length xc,.slice xB (nd p.den).length xd] 119)).alloc (.cells #[.bool (qs q),.slice yA (nd (qn q)).length yc,.slice yB (nd q.den).length yd] 119));simpa using this);have HC:Hid (∀ u,Below W.heap.size W u -> u.cell? ⟨w.heap.size,0,none⟩ = some (.bool (qs p)) /\ u.cell? ⟨w.heap.size,1,none⟩ = some (.slice xA (nd (qn p)).length xc) /\ u.cell? ⟨w.heap.size,2,none⟩ = some (.slice xB (nd p.den).length xd) /\ u.cell? ⟨w.heap.size + 1,0,none⟩ = some (.bool (qs q)) /\ u.cell? ⟨w.heap.size + 1,1,none⟩ = some (.slice yA (nd (qn q)).length yc) /\ u.cell? ⟨w.heap.size + 1,2,none⟩ = some (.slice yB (nd q.den).length yd)):=zH (fun u hu=>by
  rw [hu.cell (p:=⟨w.heap.size,0,none⟩) (by simp;omega),hu.cell (p:=⟨w.heap.size,1,none⟩) (by simp;omega),hu.cell (p:=⟨w.heap.size,2,none⟩) (by simp;omega),hu.cell (p:=⟨w.heap.size + 1,0,none⟩) (by simp;omega),hu.cell (p:=⟨w.heap.size + 1,1,none⟩) (by simp;omega),hu.cell (p:=⟨w.heap.size + 1,2,none⟩) (by simp;omega),hW];simp [go_sem])
 have HxN1:=zH (HxN.below HB0.out);have HxD1:=zH (HxD.below HB0.out);have HyN1:=zH (HyN.below HB0.out);have HyD1:=zH (HyD.below HB0.out);clear HxN HxD HyN HyD;rw [<- hW];clear hW;refine Jj 16 21 rfl (by kernel_rfl) (by kernel_rfl) (by kernel_rfl) (by kernel_rfl) (fun u=>Below W.heap.size W u) (fun u u'=>Below u.heap.size u u') (Gl [isV (.pointer (some ⟨w.heap.size,0,none⟩)),isV (.bool (qs p)),isV (.pointer (some ⟨w.heap.size + 1,0,none⟩)),isV (.bool (qs q)),isV (.bool (qs p != qs q)),isV (.pointer (some ⟨w.heap.size,1,none⟩)),isV (.slice xA (nd (qn p)).length xc),isV (.pointer (some ⟨w.heap.size + 1,1,none⟩)),isV (.slice yA (nd (qn q)).length yc),isNd ((qn p) * (qn q)),isV (.pointer (some ⟨w.heap.size,2,none⟩)),isV (.slice xB (nd p.den).length xd),isV (.pointer (some ⟨w.heap.size + 1,2,none⟩)),isV (.slice yB (nd q.den).length yd),isNd ((p.den) * (q.den)),isNm (fq (qs p != qs q) ((qn p) * (qn q)) ((p.den) * (q.den)))]) (Gl.keep (by
   intro p hp;simp only [List.mem_cons,List.not_mem_nil,or_false] at hp;rcases hp with rfl | rfl | rfl | rfl | rfl | rfl | rfl | rfl | rfl | rfl | rfl | rfl | rfl | rfl | rfl | rfl
   ·exact Keeps.isV _
   ·exact Keeps.isV _
   ·exact Keeps.isV _
   ·exact Keeps.isV _
   ·exact Keeps.isV _
   ·exact Keeps.isV _
   ·exact Keeps.isV _
   ·exact Keeps.isV _
   ·exact Keeps.isV _
   ·exact Keeps.isNd _
   ·exact Keeps.isV _
   ·exact Keeps.isV _
   ·exact Keeps.isV _
   ·exact Keeps.isV _
   ·exact Keeps.isNd _
   ·exact Keeps.isNm _)) ?_ ?_ ?_
 ·exact (Wp _ W).drew
 ·simp only [List.pop_toArray,List.dropLast,Jt];refine ⟨?_,?_,?_,?_,?_,?_,?_,?_,?_,?_,?_,?_,?_,?_,?_,?_,trivial⟩
  ·intro bb u su dp kp K hK;have e2:gT bb 2 = .pointer (some ⟨w.heap.size,0,none⟩):=kp 2 (by kernel_rfl);go_simp;exact hK _ _ su bR rfl
  ·intro bb u su dp kp K hK;have e5:gT bb 5 = .pointer (some ⟨w.heap.size,0,none⟩):=dp 0 _ rfl (by kernel_rfl);obtain ⟨cc0,cc1,cc2,cc3,cc4,cc5⟩:=HC.out u su;go_simp;exact hK _ _ su bR rfl
  ·intro bb u su dp kp K hK;have e3:gT bb 3 = .pointer (some ⟨w.heap.size + 1,0,none⟩):=kp 3 (by kernel_rfl);go_simp;exact hK _ _ su bR rfl
  ·intro bb u su dp kp K hK;have e7:gT bb 7 = .pointer (some ⟨w.heap.size + 1,0,none⟩):=dp 2 _ rfl (by kernel_rfl);obtain ⟨cc0,cc1,cc2,cc3,cc4,cc5⟩:=HC.out u su;go_simp;exact hK _ _ su bR rfl
  ·intro bb u su dp kp K hK;have e6:gT bb 6 = .bool (qs p):=dp 1 _ rfl (by kernel_rfl);have e8:gT bb 8 = .bool (qs q):=dp 3 _ rfl (by kernel_rfl);go_simp;exact hK _ _ su bR rfl
  ·intro bb u su dp kp K hK;have e2:gT bb 2 = .pointer (some ⟨w.heap.size,0,none⟩):=kp 2 (by kernel_rfl);go_simp;exact hK _ _ su bR rfl
  ·intro bb u su dp kp K hK;have e10:gT bb 10 = .pointer (some ⟨w.heap.size,1,none⟩):=dp 5 _ rfl (by kernel_rfl);obtain ⟨cc0,cc1,cc2,cc3,cc4,cc5⟩:=HC.out u su;go_simp;exact hK _ _ su bR rfl
  ·intro bb u su dp kp K hK;have e3:gT bb 3 = .pointer (some ⟨w.heap.size + 1,0,none⟩):=kp 3 (by kernel_rfl);go_simp;exact hK _ _ su bR rfl
  ·intro bb u su dp kp K hK;have e12:gT bb 12 = .pointer (some ⟨w.heap.size + 1,1,none⟩):=dp 7 _ rfl (by kernel_rfl);obtain ⟨cc0,cc1,cc2,cc3,cc4,cc5⟩:=HC.out u su;go_simp;exact hK _ _ su bR rfl
  ·intro bb u su dp kp K hK;have e11:gT bb 11 = .slice xA (nd (qn p)).length xc:=dp 6 _ rfl (by kernel_rfl);have e13:gT bb 13 = .slice yA (nd (qn q)).length yc:=dp 8 _ rfl (by kernel_rfl);go_simp;refine (Zz xA yA xc yc (nd (qn p)) (nd (qn q)) u (HxN1.out.below su) (HyN1.out.below su) (by omega) (by omega) ((qn p) * (qn q)) (zH (by rw [Ju,Ju];simp))).mono ?_;rintro e w' ⟨A,c,rfl,h1,h2,h3,h4⟩;go_simp;exact hK _ _ (su.trans (h4.mono su.size)) h4 ⟨A,c,rfl,zH (Jz h1 h2 h3)⟩
  ·intro bb u su dp kp K hK;have e2:gT bb 2 = .pointer (some ⟨w.heap.size,0,none⟩):=kp 2 (by kernel_rfl);go_simp;exact hK _ _ su bR rfl
  ·intro bb u su dp kp K hK;have e15:gT bb 15 = .pointer (some ⟨w.heap.size,2,none⟩):=dp 10 _ rfl (by kernel_rfl);obtain ⟨cc0,cc1,cc2,cc3,cc4,cc5⟩:=HC.out u su;go_simp;exact hK _ _ su bR rfl
  ·intro bb u su dp kp K hK;have e3:gT bb 3 = .pointer (some ⟨w.heap.size + 1,0,none⟩):=kp 3 (by kernel_rfl);go_simp;exact hK _ _ su bR rfl
  ·intro bb u su dp kp K hK;have e17:gT bb 17 = .pointer (some ⟨w.heap.size + 1,2,none⟩):=dp 12 _ rfl (by kernel_rfl);obtain ⟨cc0,cc1,cc2,cc3,cc4,cc5⟩:=HC.out u su;go_simp;exact hK _ _ su bR rfl
  ·intro bb u su dp kp K hK;have e16:gT bb 16 = .slice xB (nd p.den).length xd:=dp 11 _ rfl (by kernel_rfl);have e18:gT bb 18 = .slice yB (nd q.den).length yd:=dp 13 _ rfl (by kernel_rfl);go_simp;refine (Zz xB yB xd yd (nd (p.den)) (nd (q.den)) u (HxD1.out.below su) (HyD1.out.below su) (by omega) (by omega) ((p.den) * (q.den)) (zH (by rw [Ju,Ju];simp))).mono ?_;rintro e w' ⟨A,c,rfl,h1,h2,h3,h4⟩;go_simp;exact hK _ _ (su.trans (h4.mono su.size)) h4 ⟨A,c,rfl,zH (Jz h1 h2 h3)⟩
  ·intro bb u su dp kp K hK;have e9:gT bb 9 = .bool (qs p != qs q):=dp 4 _ rfl (by kernel_rfl);obtain ⟨A14,c14,e14,D14⟩:∃ A c,gT bb 14 = .slice A (nd ((qn p) * (qn q))).length c /\ Hid (Dg u A c (nd ((qn p) * (qn q)))):=dp 9 _ rfl (by kernel_rfl);obtain ⟨A19,c19,e19,D19⟩:∃ A c,gT bb 19 = .slice A (nd ((p.den) * (q.den))).length c /\ Hid (Dg u A c (nd ((p.den) * (q.den)))):=dp 14 _ rfl (by kernel_rfl);go_simp;refine (XP (qs p != qs q) A14 A19 c14 c19 ((qn p) * (qn q)) ((p.den) * (q.den)) u D14.out D19.out (by omega) (by omega) d0).mono ?_;rintro e w' ⟨r,rfl,hr,h4⟩;go_simp;exact hK _ _ (su.trans (h4.mono su.size)) h4 ⟨r,rfl,zH hr⟩
 ·intro bb u hN hdf su hG sm;obtain ⟨r,e20,hr⟩:∃ r:Fr,gT bb 20 = r.val /\ Hid (Nm u r (fq (qs p != qs q) ((qn p) * (qn q)) ((p.den) * (q.den)))):=hG 15 _ rfl;have e4:gT bb 4 = .pointer (some ⟨w.heap.size + 1 + 1,0,none⟩):=sm 4 (by kernel_rfl);have BX2:=zH (HBX.out.below su);obtain ⟨c0,c1,c2,f0,f1,f2⟩:=BX2.out.facts;have HB2:=zH (HB0.out.trans (su.mono HB0.out.size));clear su hG sm;rw [JL bb 21 hN];simp only [show List.range 21 = [0,1,2,3,4,5,6,7,8,9,10,11,12,13,14,15,16,17,18,19,20] from rfl,WaG,Wa3,e4,e20,hdf];clear e4 e20 hN hdf;generalize gT bb 0 = z0,gT bb 1 = z1,gT bb 2 = z2,gT bb 3 = z3,gT bb 5 = z5,gT bb 6 = z6,gT bb 7 = z7,gT bb 8 = z8,gT bb 9 = z9,gT bb 10 = z10,gT bb 11 = z11,gT bb 12 = z12,gT bb 13 = z13,gT bb 14 = z14,gT bb 15 = z15,gT bb 16 = z16,gT bb 17 = z17,gT bb 18 = z18,gT bb 19 = z19;obtain ⟨rn,rA,rc,rN,rB,rd,rD⟩:=r;refine PopQ.last rfl rfl (fun K hK=>?_);go_simp;refine hK _ _ ?_;clear hK K;go_wp2_with fail;obtain ⟨g0,g1,g2⟩:=Zy (.bool rn) (.slice rA rN.length rc) (.slice rB rD.length rd) c0 c1 c2;refine WB (v:=.agg #[.bool rn,.slice rA rN.length rc,.slice rB rD.length rd]) (by simp [results,Tryz.results166,go_sem,g0,g1,g2]) rfl ?_;exact ⟨⟨rn,rA,rc,rN,rB,rd,rD⟩,rfl,YL hr.out BX2.out _ _ _,Ji HB2.out (by omega) _ _ _⟩
end Go.Proofs.YtcjicjfbippmnaaGreat
