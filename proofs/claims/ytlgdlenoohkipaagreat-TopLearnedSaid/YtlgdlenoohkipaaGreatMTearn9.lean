/- TopLearned -/
import Derived.Test.YtlgdlenoohkipaaGreatMTearn8
set_option maxRecDepth 100000
set_option maxHeartbeats 32000000
namespace Go
section
variable {P:Program} {ops:Array Oper} {Q:Exit -> Act -> World -> Prop}

def Region.backB (ops:Array Oper):Bool:=(List.range ops.size).all fun i=>match ops[i]? with
 | some o=>o.after.all (fun e=>!Region.binds .any e || decide (e.on < i))
 | none=>false
def Oper.waits (o:Oper) (j:Nat):Bool:=o.after.any fun e=>Region.binds .any e && e.on == j
def Region.dstB (ops:Array Oper) (N:Nat):Bool:=(List.range ops.size).all fun i=>match ops[i]? with
 | some o=>(match o.dst with
  | some d=>decide (d < N) && (List.range ops.size).all fun j=>j == i || (match ops[j]? with | some o'=>o'.dst != some d | none=>true)
  | none=>true)
 | none=>true
def Region.keptB (ops:Array Oper) (i k:Nat):Bool:=(List.range ops.size).all fun j=>match ops[j]? with
 | some o=>o.dst != some k || o.waits i
 | none=>true
def Region.freeB (ops:Array Oper) (k:Nat):Bool:=(List.range ops.size).all fun j=>match ops[j]? with
 | some o=>o.dst != some k
 | none=>true
theorem Region.freeB_of {ops:Array Oper} {k:Nat} (h:Region.freeB ops k = true) (j:Nat) (o:Oper) (ho:ops[j]? = some o):o.dst ≠ some k:=by
 have:=List.all_eq_true.1 h j (List.mem_range.2 (Array.getElem?_eq_some_iff.1 ho).1);simp only [ho] at this;simpa using this
def Oper.left (o:Oper) (b:Act):Value:=match o.dst with
 | some d=>b.tmps.getD d undef
 | none=>undef
structure Sl (ops:Array Oper) (a:Act) (G:Nat -> Value -> World -> Prop) (listed:Array Bool) (b:Act) (u:World):Prop where
 size:b.tmps.size = a.tmps.size
 defers:b.defers = a.defers
 lsize:listed.size = ops.size
 closed:∀ j o,ops[j]? = some o -> listed.getD j false = true -> ∀ k,o.waits k = true -> listed.getD k false = true
 same:∀ k,(∀ j o,ops[j]? = some o -> o.dst = some k -> listed.getD j false = false) -> b.tmps.getD k undef = a.tmps.getD k undef
 slot:∀ j o,ops[j]? = some o -> listed.getD j false = true -> G j (o.left b) u
theorem Xb {l:Array Bool} {i j:Nat}:(l.setIfInBounds i true).getD j false = true ↔ (j = i /\ i < l.size) ∨ l.getD j false = true:=by
 rw [Array.getD_eq_getD_getElem?,Array.getD_eq_getD_getElem?,Array.getElem?_setIfInBounds];by_cases h:i = j
 ·subst h;by_cases hl:i < l.size
  ·simp [hl]
  ·simp [hl]
 ·simp [h];intro e;exact absurd e.symm h
theorem J0 {t:Array Value} {d k:Nat} {v:Value} (hd:d < t.size):(t.setIfInBounds d v).getD k undef = if k = d then v else t.getD k undef:=by
 rw [Array.getD_eq_getD_getElem?,Array.getD_eq_getD_getElem?,Array.getElem?_setIfInBounds];by_cases h:d = k
 ·subst h;simp [hd]
 ·rw [if_neg h,if_neg (fun e=>h e.symm)]
theorem ZS {i:Nat} {o:Oper} {listed:Array Bool} (ho:ops[i]? = some o):i ∈ Region.ready .any ops listed ↔ (i < ops.size /\ listed.getD i true = false /\ ∀ e ∈ o.after,Region.binds .any e = true -> listed.getD e.on false = true):=by
 unfold Region.ready;rw [List.mem_filter,List.mem_range];simp only [ho,Option.map_some,Option.getD_some,Bool.and_eq_true,Bool.not_eq_true',Array.all_eq_true',Bool.or_eq_true];constructor
 ·rintro ⟨h1,h2,h3⟩;refine ⟨h1,h2,fun e he hb=>?_⟩;rcases h3 e he with h | h
  ·rw [hb] at h;cases h
  ·exact h
 ·rintro ⟨h1,h2,h3⟩;refine ⟨h1,h2,fun e he=>?_⟩;by_cases hb:Region.binds .any e = true
  ·exact .inr (h3 e he hb)
  ·exact .inl (by simpa using hb)
theorem Xt (hB:Region.backB ops = true) {listed:Array Bool} (hl:listed.size = ops.size) (hr:Region.ready .any ops listed = []):∀ i,i < ops.size -> listed.getD i false = true:=by
 intro i
 induction i using Nat.strongRecOn with
 | ind i ih=>
  intro hi;apply Decidable.byContradiction;intro hne;have ho:ops[i]? = some ops[i]:=Array.getElem?_eq_getElem hi;have hb:∀ e ∈ ops[i].after,Region.binds .any e = true -> e.on < i:=by
   have:=List.all_eq_true.1 hB i (List.mem_range.2 hi);simp only [ho,Array.all_eq_true'] at this;intro e he hbe;have h1:=this e he;rw [hbe] at h1;simpa using h1
  have hm:i ∈ Region.ready .any ops listed:=(ZS ho).2 ⟨hi,by
   rw [Array.getD_eq_getD_getElem?,Array.getElem?_eq_getElem (by omega)] at hne ⊢;simpa using hne,fun e he hbe=>ih e.on (hb e he hbe) (by have:=hb e he hbe;omega)⟩
  rw [hr] at hm;cases hm
theorem QJ {N:Nat} (hD:Region.dstB ops N = true) {i:Nat} {o:Oper} {d:Nat} (ho:ops[i]? = some o) (hd:o.dst = some d):d < N /\ ∀ j o',ops[j]? = some o' -> o'.dst = some d -> j = i:=by
 have h:=List.all_eq_true.1 hD i (List.mem_range.2 (Array.getElem?_eq_some_iff.1 ho).1);simp only [ho,hd,Bool.and_eq_true,decide_eq_true_eq] at h;refine ⟨h.1,fun j o' ho' hd'=>?_⟩;have h2:=List.all_eq_true.1 h.2 j (List.mem_range.2 (Array.getElem?_eq_some_iff.1 ho').1);simp only [ho',hd',Bool.or_eq_true,beq_iff_eq] at h2;rcases h2 with h2 | h2
 ·exact h2
 ·simp at h2
theorem Xf:∀ (l:List Bool) (i:Nat),l[i]? = some false -> (l.set i true).countP (· == false) + 1 = l.countP (· == false):=by
 intro l
 induction l with
 | nil=>intro i h;simp at h
 | cons x l ih=>
  intro i h;cases i with
  | zero=>simp at h;subst h;simp
  | succ i=>
   have:=ih i (by simpa using h);rw [List.set_cons_succ,List.countP_cons,List.countP_cons];omega
theorem hx0 {listed:Array Bool} {i:Nat} (hli:i < listed.size) (h:listed.getD i false = false):listed.toList[i]? = some false:=by
 rw [Array.getElem?_toList,Array.getElem?_eq_getElem hli];rw [Array.getD_eq_getD_getElem?,Array.getElem?_eq_getElem hli] at h;simpa using h
def Zbs (P:Program) (ops:Array Oper) (Q:Exit -> Act -> World -> Prop) (a:Act) (S:World -> Prop) (T:World -> World -> Prop) (G:Nat -> Value -> World -> Prop) (i:Nat) (o:Oper):Prop:=
 ∀ (b:Act) (u:World),S u -> (∀ j o',ops[j]? = some o' -> o.waits j = true -> G j (o'.left b) u) -> (∀ k,Region.keptB ops i k = true -> b.tmps.getD k undef = a.tmps.getD k undef) ->
  ∀ K:Act -> World -> Prop,(∀ v u',S u' -> T u u' -> G i (if o.dst.isSome then v else undef) u' -> K (b.put o.dst v) u') -> if Region.wanted o (yielded ops b.tmps) = true then o.wp P b u K Q else K (b.put o.dst undef) u
def Jj (P:Program) (ops:Array Oper) (Q:Exit -> Act -> World -> Prop) (a:Act) (S:World -> Prop) (T:World -> World -> Prop) (G:Nat -> Value -> World -> Prop):List Oper -> Nat -> Prop
 | [],_=>True
 | o :: l,i=>Zbs P ops Q a S T G i o /\ Jj P ops Q a S T G l (i + 1)
theorem ZaQ {a:Act} {S:World -> Prop} {T:World -> World -> Prop} {G:Nat -> Value -> World -> Prop}:∀ (l:List Oper) (i:Nat),Jj P ops Q a S T G l i -> ∀ k o,l[k]? = some o -> Zbs P ops Q a S T G (i + k) o:=by
 intro l
 induction l with
 | nil=>intro i _ k o h;simp at h
 | cons x l ih=>
  intro i h k o hk;cases k with
  | zero=>simp at hk;subst hk;exact h.1
  | succ k=>
   have:=ih (i + 1) h.2 k o (by simpa using hk)
   rwa [show i + 1 + k = i + (k + 1) by omega] at this
theorem Zz {a:Act} (N:Nat) (hN:a.tmps.size = N) (hB:Region.backB ops = true) (hD:Region.dstB ops N = true) (S:World -> Prop) (T:World -> World -> Prop) (G:Nat -> Value -> World -> Prop)
  (hG:∀ j v w w',G j v w -> T w w' -> G j v w') (hs:Jj P ops Q a S T G ops.toList 0)
  (hend:∀ b u,b.tmps.size = N -> b.defers = a.defers -> S u -> (∀ j o,ops[j]? = some o -> G j (o.left b) u) -> (∀ k,Region.freeB ops k = true -> b.tmps.getD k undef = a.tmps.getD k undef) -> Q .normal b u) :
  ∀ (f:Nat) (listed:Array Bool) (b:Act) (u:World),S u -> Sl ops a G listed b u -> (f = 0 -> Region.ready .any ops listed = []) -> (listed.toList.countP (· == false) <= f) -> wpAny P .any ops Q f listed b u:=by
 have fin:∀ (listed:Array Bool) (b:Act) (u:World),S u -> Sl ops a G listed b u -> Region.ready .any ops listed = [] -> Q .normal b u:=by
  intro listed b u hS hSl hr;have hall:=Xt hB hSl.lsize hr;refine hend b u (hSl.size.trans hN) hSl.defers hS (fun j o ho=>hSl.slot j o ho (hall j (Array.getElem?_eq_some_iff.1 ho).1)) (fun k hk=>hSl.same k fun j o ho hd=>absurd hd (Region.freeB_of hk j o ho))
 intro f
 induction f with
 | zero=>intro listed b u hS hSl h0 _;exact ⟨h0 rfl,fin listed b u hS hSl (h0 rfl)⟩
 | succ f ih=>
  intro listed b u hS hSl _ hc;refine ⟨fin listed b u hS hSl,fun i hi=>?_⟩;have hlt:i < ops.size:=by
   unfold Region.ready at hi;exact List.mem_range.1 (List.mem_filter.1 hi).1
  have ho:ops[i]? = some ops[i]:=Array.getElem?_eq_getElem hlt;generalize ops[i] = o at ho;obtain ⟨_,hun,dp⟩:=(ZS ho).1 hi;have hli:i < listed.size:=by rw [hSl.lsize];exact hlt
  have hunf:listed.getD i false = false:=by
   rw [Array.getD_eq_getD_getElem?,Array.getElem?_eq_getElem hli] at hun ⊢;simpa using hun
  have dp':∀ j,o.waits j = true -> listed.getD j false = true:=by
   intro j hj;obtain ⟨e,he,hb⟩:=Array.any_eq_true'.1 hj;simp only [Bool.and_eq_true,beq_iff_eq] at hb;rw [<- hb.2];exact dp e he hb.1
  have step:=ZaQ _ _ hs i o (by rw [Array.getElem?_toList];exact ho);rw [Nat.zero_add] at step;refine wpOp_step ho (fun K hK=>?_);refine step b u hS (fun j o' ho' hw=>hSl.slot j o' ho' (dp' j hw)) (fun k hk=>hSl.same k fun j o' ho' hd'=>?_) K (fun v u' hS' hT' hG'=>?_)
  ·have h:=List.all_eq_true.1 hk j (List.mem_range.2 (Array.getElem?_eq_some_iff.1 ho').1);simp only [ho',hd',Bool.or_eq_true] at h;rcases h with h | h
   ·simp at h
   ·cases hlj:listed.getD j false with
    | false=>rfl
    | true=>have:=hSl.closed j o' ho' hlj i h;rw [hunf] at this;cases this
  ·refine hK _ _ (ih _ _ _ hS' ?_ ?_ ?_)
   ·have hput:∀ d,o.dst = some d -> d < b.tmps.size:=fun d hd=>by rw [hSl.size,hN];exact (QJ hD ho hd).1
    refine ⟨?_,?_,by simp [hSl.lsize],?_,?_,?_⟩
    ·unfold Act.put;cases o.dst <;> simp [hSl.size]
    ·unfold Act.put;cases o.dst <;> simp [hSl.defers]
    ·intro j o' ho' hl k hw;rw [Xb] at hl ⊢;rcases hl with ⟨rfl,_⟩ | hl
     ·rw [ho] at ho';cases ho';exact .inr (dp' k hw)
     ·exact .inr (hSl.closed j o' ho' hl k hw)
    ·intro k hk;have h1:listed.getD i false = false:=hunf;have hne:o.dst ≠ some k:=fun hd=>by
      have:=hk i o ho hd;have h2:(listed.setIfInBounds i true).getD i false = true:=Xb.2 (.inl ⟨rfl,hli⟩);rw [h2] at this;cases this
     have h3:=hSl.same k fun j o' ho' hd'=>by
      have:=hk j o' ho' hd';cases hlj:listed.getD j false with
      | false=>rfl
      | true=>rw [Xb.2 (.inr hlj)] at this;cases this
     rw [<- h3];unfold Act.put;cases hdd:o.dst with
     | none=>rfl
     | some d=>
      simp only;rw [J0 (hput d hdd),if_neg (fun e=>hne (by rw [hdd,e]))]
    ·intro j o' ho' hl;rw [Xb] at hl;by_cases hji:j = i
     ·subst hji;rw [ho] at ho';cases ho';unfold Oper.left Act.put;cases hdd:o.dst with
      | none=>rw [hdd] at hG';simpa using hG'
      | some d=>
       rw [hdd] at hG';simp only;rw [J0 (hput d hdd),if_pos rfl];simpa using hG'
     ·have hl':listed.getD j false = true:=by
       rcases hl with ⟨e,_⟩ | hl
       ·exact absurd e hji
       ·exact hl
      have hold:=hG _ _ _ _ (hSl.slot j o' ho' hl') hT';have e:o'.left (b.put o.dst v) = o'.left b:=by
       unfold Oper.left Act.put;cases hdd':o'.dst with
       | none=>rfl
       | some d'=>
        cases hdd:o.dst with
        | none=>rfl
        | some d=>
         simp only;rw [J0 (hput d hdd),if_neg];intro e2;subst e2;exact hji ((QJ hD ho hdd).2 j o' ho' hdd')
      rw [e];exact hold
   ·intro hf;subst hf;have hz:(listed.setIfInBounds i true).toList.countP (· == false) = 0:=by
     have:=Xf listed.toList i (hx0 hli hunf);rw [Array.toList_setIfInBounds];omega
    rw [List.countP_eq_zero] at hz;unfold Region.ready;rw [List.filter_eq_nil_iff];intro j hj;rw [List.mem_range] at hj;have hjl:j < (listed.setIfInBounds i true).size:=(by simp [hSl.lsize];exact hj);have:=hz ((listed.setIfInBounds i true)[j]) (Array.mem_toList_iff.2 (Array.getElem_mem hjl));rw [Array.getD_eq_getD_getElem?,Array.getElem?_eq_getElem hjl];simp only [Option.getD_some];cases hv:(listed.setIfInBounds i true)[j] with
    | true=>simp
    | false=>rw [hv] at this;exact absurd rfl this
   ·have:=Xf listed.toList i (hx0 hli hunf);rw [Array.toList_setIfInBounds];omega
theorem Jq {id:Nat} {a:Act} {w:World} (N:Nat) (hN:a.tmps.size = N) (hm:P.follows .mixedOrders = true) (hB:Region.backB ops = true) (hD:Region.dstB ops N = true) (S:World -> Prop) (T:World -> World -> Prop) (G:Nat -> Value -> World -> Prop)
  (hG:∀ j v w w',G j v w -> T w w' -> G j v w') (hS:S w.drew) (hs:Jj P ops Q a S T G ops.toList 0)
  (hend:∀ b u,b.tmps.size = N -> b.defers = a.defers -> S u -> (∀ j o,ops[j]? = some o -> G j (o.left b) u) -> (∀ k,Region.freeB ops k = true -> b.tmps.getD k undef = a.tmps.getD k undef) -> Q .normal b u):(Code.region id ops true).wp P Q a w:=by
 refine wp_region_any hm ?_;refine Zz N hN hB hD S T G hG hs hend _ _ _ _ hS ⟨rfl,rfl,by simp,?_,fun _ _=>rfl,?_⟩ ?_ ?_
 ·intro j o ho hl;rw [Array.getD_eq_getD_getElem?,Array.getElem?_replicate] at hl;split at hl <;> simp at hl
 ·intro j o ho hl;rw [Array.getD_eq_getD_getElem?,Array.getElem?_replicate] at hl;split at hl <;> simp at hl
 ·intro h0;unfold Region.ready;rw [h0];rfl
 ·simp only [Array.toList_replicate,List.countP_replicate];split <;> omega
theorem Jb {id:Nat} {a:Act} {w:World} (n N:Nat) (hN:a.tmps.size = N) (hm:P.follows .mixedOrders = true) (hP:Region.popB .any ops n = true) (hB:Region.backB ops.pop = true) (hD:Region.dstB ops.pop N = true) (S:World -> Prop) (T:World -> World -> Prop) (G:Nat -> Value -> World -> Prop)
  (hG:∀ j v w w',G j v w -> T w w' -> G j v w') (hS:S w.drew) (hs:Jj P ops.pop (PopQ P ops n Q) a S T G ops.pop.toList 0)
  (hend:∀ b u,b.tmps.size = N -> b.defers = a.defers -> S u -> (∀ j o,ops.pop[j]? = some o -> G j (o.left b) u) -> (∀ k,Region.freeB ops.pop k = true -> b.tmps.getD k undef = a.tmps.getD k undef) -> PopQ P ops n Q .normal b u):(Code.region id ops true).wp P Q a w:=by
 have hs':=Region.popB_size hP;have hsz:ops.pop.size = n:=by simp [hs']
 refine wp_region_any hm ?_;have key:=Zz (P:=P) (ops:=ops.pop) (Q:=PopQ P ops n Q) (a:=a) N hN hB hD S T G hG hs hend n (Array.replicate n false) a w.drew hS ⟨rfl,rfl,by simp [hs'],?_,fun _ _=>rfl,?_⟩ ?_ ?_
 ·have:=ZM hP n (Array.replicate n false) a w.drew (by simp) (ClosedL.start' _) key;rw [hs',show (Array.replicate (n + 1) false) = (Array.replicate n false).push false from Array.replicate_succ];exact this
 ·intro j o ho hl;rw [Array.getD_eq_getD_getElem?,Array.getElem?_replicate] at hl;split at hl <;> simp at hl
 ·intro j o ho hl;rw [Array.getD_eq_getD_getElem?,Array.getElem?_replicate] at hl;split at hl <;> simp at hl
 ·intro h0;unfold Region.ready;rw [hsz,h0];rfl
 ·simp only [Array.toList_replicate,List.countP_replicate];split <;> omega
theorem JM (b:Act) (N:Nat) (h:b.tmps.size = N):b = ⟨((List.range N).map fun k=>b.tmps.getD k undef).toArray,b.defers⟩:=by
 obtain ⟨t,d⟩:=b;simp only at h ⊢;congr;apply Array.ext
 ·simp [h]
 ·intro i h1 h2;simp [Array.getD_eq_getD_getElem?,Array.getElem?_eq_getElem h1]
end
end Go
namespace Go.Proofs.YtlgdlenoohkipaaGreat
open Go.RowKit Ear

def Bt (t:TypeId) (w:World) (k:Nat):Prop:=w.heap[k]? = some (.cells #[.bool false,.slice none 0 0,.slice none 0 0] t (0,0))
theorem Bt.new (t:TypeId) (w:World):Bt t (w.alloc (.cells #[.bool false,.slice none 0 0,.slice none 0 0] t)) w.heap.size:=heap_alloc_new w _
theorem Bt.lt {t:TypeId} {w:World} {k:Nat} (h:Bt t w k):k < w.heap.size:=(aE h).1
theorem Bt.below {t:TypeId} {w w':World} {k:Nat} (h:Bt t w k) (hb:Below w.heap.size w w'):Bt t w' k:=(hb.block k h.lt).trans h
theorem Bt.alloc {t:TypeId} {w:World} {k:Nat} (h:Bt t w k) (o:Obj):Bt t (w.alloc o) k:=h.below ((Below.refl _ w).alloc nR o)
theorem Bt.facts {t:TypeId} {w:World} {k:Nat} (h:Bt t w k):w.cell? ⟨k,0,none⟩ = some (.bool false) /\ w.cell? ⟨k,1,none⟩ = some (.slice none 0 0) /\ w.cell? ⟨k,2,none⟩ = some (.slice none 0 0) /\ w.frozen? ⟨k,0,none⟩ = false /\ w.frozen? ⟨k,1,none⟩ = false /\ w.frozen? ⟨k,2,none⟩ = false:=
 ⟨by rw [cell_of_row w k 0 _ _ _ h];rfl,by rw [cell_of_row w k 1 _ _ _ h];rfl,by rw [cell_of_row w k 2 _ _ _ h];rfl,by simp [World.frozen?,show w.heap[k]? = _ from h],by simp [World.frozen?,show w.heap[k]? = _ from h],by simp [World.frozen?,show w.heap[k]? = _ from h]⟩
theorem Lies.apartBt {t:TypeId} {w w':World} {A:Option Addr} {l:List Int} {k:Nat} (h:Lies w A (ucs l)) (hb:Bt t w k) (hs:w.heap.size <= w'.heap.size) (hk:∀ b,b ≠ k -> b < w.heap.size -> w'.heap[b]? = w.heap[b]?):Lies w' A (ucs l):=fun h0=>by
 obtain ⟨b,off,e,hlt,hc⟩:=h h0;have hne:b ≠ k:=by
  rintro rfl;have hl : 0 < l.length:=by simpa using h0
  have:=hc 0 (.int .u32 l[0]) (by simp [gE hl]);rw [cell_of_row w b _ _ _ _ hb] at this;rcases (show off + 0 = 0 ∨ off + 0 = 1 ∨ off + 0 = 2 ∨ 3 <= off + 0 by omega) with e | e | e | e
  ·rw [e] at this;simp at this
  ·rw [e] at this;simp at this
  ·rw [e] at this;simp at this
  ·rw [Array.getElem?_eq_none (by simpa using e)] at this;cases this
 exact ⟨b,off,e,by omega,fun j u hu=>by
  rw [<- hc j u hu];exact World.cell?_of_block (a:=⟨b,off + j,none⟩) (hk b hne hlt)⟩
theorem XB {t:TypeId} {w:World} {A:Option Addr} {c k:Nat} {l:List Int} (h:Dg w A c l) (hb:Bt t w k) (v0 v1 v2:Value):Dg (((w.setCell ⟨k,0,none⟩ v0).setCell ⟨k,1,none⟩ v1).setCell ⟨k,2,none⟩ v2) A c l:=by
 have hk:∀ b,b ≠ k -> b < w.heap.size -> (((w.setCell ⟨k,0,none⟩ v0).setCell ⟨k,1,none⟩ v1).setCell ⟨k,2,none⟩ v2).heap[b]? = w.heap[b]?:=fun b hne _=>
  (Below.heap_setCell _ ⟨k,2,none⟩ v2 b hne).trans ((Below.heap_setCell _ ⟨k,1,none⟩ v1 b hne).trans (Below.heap_setCell _ ⟨k,0,none⟩ v0 b hne))
 exact ⟨h.lies.apartBt hb (by simp) hk,h.dig,h.cap,h.nil⟩
theorem Jf {w w':World} {B k:Nat} (h:Below B w w') (hk:B <= k) (v0 v1 v2:Value):Below B w (((w'.setCell ⟨k,0,none⟩ v0).setCell ⟨k,1,none⟩ v1).setCell ⟨k,2,none⟩ v2):=((h.setCell hk _).setCell hk _).setCell hk _
structure Nm (w:World) (x:Fr) (q:Rat):Prop where
 neg:x.neg = qs q
 num:x.N = nd (qn q)
 dn:x.D = nd q.den
 n:Dg w x.A x.c (nd (qn q))
 d:Dg w x.B x.d (nd q.den)
theorem Nm.below {w w':World} {x:Fr} {q:Rat} (h:Nm w x q) (hb:Below w.heap.size w w'):Nm w' x q:=⟨h.neg,h.num,h.dn,h.n.below hb,h.d.below hb⟩
def UX (q:Rat) (w:World) (e:Ending) (w':World):Prop:=∃ x:Fr,e = .returned x.val /\ Nm w' x q /\ Below w.heap.size w w'
theorem Nm.mk' {w:World} {A B:Option Addr} {c d:Nat} {q:Rat} {b:Bool} (hb:b = qs q) (h1:Dg w A c (nd (qn q))) (h2:Dg w B d (nd q.den)):Nm w ⟨b,A,c,nd (qn q),B,d,nd q.den⟩ q:=⟨hb,rfl,rfl,h1,h2⟩
theorem Yn {W:World} {k:Nat} {a b c:Value} {t:TypeId} (h:W.heap[k]? = some (.cells #[a,b,c] t (0,0))):W.cell? ⟨k,0,none⟩ = some a /\ W.cell? ⟨k,1,none⟩ = some b /\ W.cell? ⟨k,2,none⟩ = some c:=
 ⟨by rw [cell_of_row W k 0 _ _ _ h];rfl,by rw [cell_of_row W k 1 _ _ _ h];rfl,by rw [cell_of_row W k 2 _ _ _ h];rfl⟩
/-! what slots of a drawn region hold -/
def isV (v:Value):Value -> World -> Prop:=fun x _=>x = v
def isNd (n:Nat):Value -> World -> Prop:=fun x w=>∃ A c,x = .slice A (nd n).length c /\ Hid (Dg w A c (nd n))
def isNm (q:Rat):Value -> World -> Prop:=fun x w=>∃ r:Fr,x = r.val /\ Hid (Nm w r q)
def isFq (q:Rat):Value -> World -> Prop:=fun x w=>∃ r:Fr,x = r.val /\ Hid (Fq w r q)
def Keeps (p:Value -> World -> Prop):Prop:=∀ v w w',p v w -> Below w.heap.size w w' -> p v w'
theorem Fq.below {w w':World} {x:Fr} {q:Rat} (h:Fq w x q) (hb:Below w.heap.size w w'):Fq w' x q:=⟨h.ok.below hb,h.neg,h.num,h.dn⟩
theorem Keeps.isV (v:Value):Keeps (isV v):=fun _ _ _ h _=>h
theorem Keeps.isNd (n:Nat):Keeps (isNd n):=fun _ _ _ ⟨A,c,h1,h2⟩ hb=>⟨A,c,h1,zH (h2.out.below hb)⟩
theorem Keeps.isNm (q:Rat):Keeps (isNm q):=fun _ _ _ ⟨r,h1,h2⟩ hb=>⟨r,h1,zH (h2.out.below hb)⟩
theorem Keeps.isFq (q:Rat):Keeps (isFq q):=fun _ _ _ ⟨r,h1,h2⟩ hb=>⟨r,h1,zH (h2.out.below hb)⟩
def isBt (t:TypeId) (base:Nat):Value -> World -> Prop:=fun x w=>∃ k,x = .pointer (some ⟨k,0,none⟩) /\ Hid (Bt t w k) /\ base <= k
def isAg (b:Bool) (n:Nat):Value -> World -> Prop:=fun x w=>∃ A c,x = .agg #[.bool b,.slice A (nd n).length c,.slice none 0 0] /\ Hid (Dg w A c (nd n))
theorem Keeps.isBt (t:TypeId) (base:Nat):Keeps (isBt t base):=fun _ _ _ ⟨k,h1,h2,h3⟩ hb=>⟨k,h1,zH (h2.out.below hb),h3⟩
theorem Keeps.isAg (b:Bool) (n:Nat):Keeps (isAg b n):=fun _ _ _ ⟨A,c,h1,h2⟩ hb=>⟨A,c,h1,zH (h2.out.below hb)⟩
def Gl (l:List (Value -> World -> Prop)) (j:Nat) (v:Value) (w:World):Prop:=l.getD j (fun _ _=>True) v w
theorem Gl.keep {l:List (Value -> World -> Prop)} (h:∀ p ∈ l,Keeps p):∀ j v w w',Gl l j v w -> Below w.heap.size w w' -> Gl l j v w':=by
 intro j v w w' hj hb;unfold Gl at *
 by_cases hl:j < l.length
 ·have e:l.getD j (fun _ _=>True) = l[j]:=by rw [List.getD_eq_getElem?_getD,gE hl];rfl
  rw [e] at hj ⊢;exact h _ (yM hl) _ _ _ hj hb
 ·have e:l.getD j (fun _ _=>True) = fun _ _=>True:=by rw [List.getD_eq_getElem?_getD,List.getElem?_eq_none (Nat.le_of_not_lt hl)];rfl
  rw [e];trivial
abbrev KL:List (Value -> World -> Prop) -> Prop
 | []=>True
 | p :: l=>Keeps p /\ KL l
theorem KL.all:∀ {l:List (Value -> World -> Prop)},KL l -> ∀ p ∈ l,Keeps p
 | [],_,_,hp=>by cases hp
 | _ :: _,h,p,hp=>by
  rcases List.mem_cons.1 hp with rfl | hp
  ·exact h.1
  ·exact KL.all h.2 p hp
theorem Gl.keepL {l:List (Value -> World -> Prop)} (h:KL l):∀ j v w w',Gl l j v w -> Below w.heap.size w w' -> Gl l j v w':=Gl.keep h.all
theorem XE (neg:Bool) (A B:Option Addr) (c d n m:Nat) (w:World) (hA:Dg w A c (nd n)) (hB:Dg w B d (nd m)) (hn:(nd n).length <= 400000) (hm:(nd m).length <= 400000) (m0:m ≠ 0) :
  Calls Tryz.prog 157 #[.bool neg,.slice A (nd n).length c,.slice B (nd m).length d] w (UX (fq neg n m) w):=by
 obtain ⟨p1,p2,p3⟩:=Zo (a:=neg) (n:=n) m0;have HP1:=zH p1;have HP2:=zH p2;have HP3:=zH p3;clear p1 p2 p3;have hg0:n.gcd m ≠ 0:=by have:=Nat.gcd_pos_of_pos_right n (show 0 < m by omega);omega
 obtain ⟨W1,hW1⟩:∃ W1:World,W1 = w.alloc (.cells #[.bool false,.slice none 0 0,.slice none 0 0] 196):=⟨_,rfl⟩;have B1:Hid (Below w.heap.size w W1):=zH (by rw [hW1];exact bR.alloc nR _);have X1:Hid (Bt 196 W1 w.heap.size):=zH (by rw [hW1];exact Bt.new _ w);have DN:=zH (hA.below B1.out);have DM:=zH (hB.below B1.out);have C1:=zH (ZfP A B c d n m W1 DN.out DM.out hn hm);have hz:(decide (n ≠ 0)) = decide (n / n.gcd m ≠ 0):=by
  rw [decide_eq_decide];constructor
  ·intro h;exact Nat.pos_iff_ne_zero.1 (Nat.div_pos (Nat.gcd_le_left m (Nat.pos_of_ne_zero h)) (Nat.pos_of_ne_zero hg0))
  ·rintro h rfl;exact h (Nat.zero_div _)
 have HZ:=zH hz;clear hz hA hB;go_enter Tryz.func157,Tryz.ntmps157;go_wp2_with fail;rw [<- hW1];clear hW1;refine C1.out.mono ?_;clear C1;rintro e w2 ⟨GA,gc,rfl,g1,g2,g3,g4⟩;have DG:=zH (Jz g1 g2 g3);have B2:=zH g4;have C2:=zH (QR A GA c gc n (n.gcd m) w2 (DN.out.below g4) DG.out hn hg0);clear g1 g2 g3 g4;go_wp2_with fail;refine C2.out.mono ?_;clear C2;rintro e w3 ⟨A3,c3,A3',c3',rfl,d1,d2,hb⟩;have D3:=zH d1;have B3:=zH (B2.out.trans (hb.mono B2.out.size));have C3:=zH (QR B GA d gc m (n.gcd m) w3 (DM.out.below B3.out) (DG.out.below hb) hm hg0);clear d1 d2 hb;go_wp2_with fail;refine C3.out.mono ?_;clear C3;rintro e w4 ⟨A4,c4,A4',c4',rfl,d1,d2,hb⟩;have D4:=zH d1;have D3':=zH (D3.out.below hb);have B4:=zH (B3.out.trans (hb.mono B3.out.size));have X4:=zH (X1.out.below B4.out);have BW:=zH (B1.out.trans (B4.out.mono B1.out.size));have HN:Hid (decide (0 < (nd (n / n.gcd m)).length) = decide (n / n.gcd m ≠ 0)):=zH (by
  rw [decide_eq_decide,Nat.pos_iff_ne_zero];exact not_congr Js)
 clear d1 d2 hb DN DM DG D3 B1 B2 B3 B4 X1;obtain ⟨k0,k1,k2,f0,f1,f2⟩:=X4.out.facts;have HL:∀ b:Bool,b = (neg && decide (0 < (nd (n / n.gcd m)).length)) -> b = qs (fq neg n m):=fun b hb=>by rw [hb,HP1.out,HN.out,HZ.out]
 have HLH:=zH HL;clear HL;have fin:∀ b:Bool,b = (neg && decide (0 < (nd (n / n.gcd m)).length)) -> UX (fq neg n m) w (.returned (.agg #[.bool b,.slice A3 (nd (n / n.gcd m)).length c3,.slice A4 (nd (m / n.gcd m)).length c4])) (((w4.setCell ⟨w.heap.size,0,none⟩ (.bool b)).setCell ⟨w.heap.size,1,none⟩ (.slice A3 (nd (n / n.gcd m)).length c3)).setCell ⟨w.heap.size,2,none⟩ (.slice A4 (nd (m / n.gcd m)).length c4)):=fun b hb=>by
  rw [<- HP2.out,<- HP3.out] at *
  exact ⟨⟨b,A3,c3,_,A4,c4,_⟩,rfl,Nm.mk' (HLH.out b hb) (XB D3'.out X4.out _ _ _) (XB D4.out X4.out _ _ _),Jf BW.out nR _ _ _⟩
 have FIN:=zH fin;clear fin HLH HN HZ HP1 HP2 HP3;generalize (nd (n / n.gcd m)).length = ln at *
 generalize (nd (m / n.gcd m)).length = lm at *
 cases neg with
 | false=>
  go_wp2_with fail;obtain ⟨e0,e1,e2⟩:=Zf (.bool false) (.slice A3 ln c3) (.slice A4 lm c4) k0 k1 k2;refine bodyPost_ret (v:=.agg #[.bool false,.slice A3 ln c3,.slice A4 lm c4]) (by simp [results,Tryz.results157,go_sem,e0,e1,e2]) rfl ?_;exact FIN.out false (by simp)
 | true=>
  have q:decide ((0:Int) < (ln:Int)) = decide (0 < ln):=by simp
  go_wp2_with fail;obtain ⟨e0,e1,e2⟩:=Zf (.bool (decide (0 < ln))) (.slice A3 ln c3) (.slice A4 lm c4) k0 k1 k2;refine bodyPost_ret (v:=.agg #[.bool (decide (0 < ln)),.slice A3 ln c3,.slice A4 lm c4]) (by simp [results,Tryz.results157,go_sem,e0,e1,e2]) rfl ?_;exact FIN.out (decide (0 < ln)) (by simp)
theorem al2 (w:World) (o1 o2:Obj):Below w.heap.size w ((w.alloc o1).alloc o2):=(bR.alloc nR _).alloc (by simp) _
theorem ZfO (x:Fr) (q:Rat) (w:World) (hx:Nm w x q) (q0:q ≠ 0):Calls Tryz.prog 154 #[x.val] w (UX q⁻¹ w):=by
 obtain ⟨xn,xA,xc,xN,xB,xd,xD⟩:=x;obtain ⟨h1,h2,h3,hN,hD⟩:=hx;simp only at h1 h2 h3 hN hD;subst h1 h2 h3;simp only [Fr.val];obtain ⟨i1,i2,i3⟩:=Vi q0;have HN:=zH hN;have HD:=zH hD;have HI1:=zH i1;have HI2:=zH i2;have HI3:=zH i3;clear hN hD i1 i2 i3 q0;go_enter Tryz.func154,Tryz.ntmps154;go_wp2_with fail;refine bodyPost_ret (v:=.agg #[.bool (qs q),.slice xB (nd q.den).length xd,.slice xA (nd (qn q)).length xc]) (by simp [results,Tryz.results154,go_sem]) rfl ?_;refine ⟨⟨qs q,xB,xd,_,xA,xc,_⟩,rfl,⟨HI1.out.symm,by rw [HI2.out],by rw [HI3.out],?_,?_⟩,al2 w _ _⟩
 ·rw [HI2.out];exact HD.out.below (al2 w _ _)
 ·rw [HI3.out];exact HN.out.below (al2 w _ _)
theorem ZaF (x:Fr) (q:Rat) (w:World) (hx:Nm w x q) (b:Bool) (hb:Hid (decide (q = 0) = b)):Calls Tryz.prog 152 #[x.val] w fun e w'=>e = .returned (.bool b) /\ Below w.heap.size w w':=by
 obtain ⟨xn,xA,xc,xN,xB,xd,xD⟩:=x;obtain ⟨h1,h2,h3,hN,hD⟩:=hx;simp only at h1 h2 h3 hN hD;subst h1 h2 h3;simp only [Fr.val];have HB:Hid (b = (((nd (qn q)).length:Int) == 0)):=zH (by
  rw [<- hb.out,Bool.eq_iff_iff];simp only [decide_eq_true_eq,beq_iff_eq];rw [<- Zeu,<- Js];omega)
 generalize (nd (qn q)).length = m at *
 generalize (nd q.den).length = m2 at *
 clear hN hD;go_enter Tryz.func152,Tryz.ntmps152;go_wp2_with fail;go_ret;exact ⟨Jm (by rw [HB.out]),bR.alloc nR _⟩
theorem ZaG (x:Fr) (q:Rat) (w:World) (hx:Nm w x q) (r:Int) (hr:Hid (Yu q = r)):Calls Tryz.prog 151 #[x.val] w fun e w'=>e = .returned (.int .i64 r) /\ Below w.heap.size w w':=by
 have Z0:=zH (ZaF x q (w.alloc (.cells #[.bool x.neg,.slice x.A x.N.length x.c,.slice x.B x.D.length x.d] 196)) (hx.below (bR.alloc nR _)) (decide (q = 0)) (zH rfl));have HS:Hid (qs q = decide (q.num < 0)):=zH rfl;have HQ:Hid (r = if q.num < 0 then -1 else if q.num = 0 then 0 else 1):=zH hr.out.symm;have HE:Hid (q = 0 ↔ q.num = 0):=zH Rat.num_eq_zero.symm;obtain ⟨xn,xA,xc,xN,xB,xd,xD⟩:=x;obtain ⟨h1,h2,h3,hN,hD⟩:=hx;simp only at h1 h2 h3 hN hD;subst h1 h2 h3;simp only [Fr.val];have HC:Hid (∀ W,Below (w.alloc (.cells #[.bool (qs q),.slice xA (nd (qn q)).length xc,.slice xB (nd q.den).length xd] 196)).heap.size (w.alloc (.cells #[.bool (qs q),.slice xA (nd (qn q)).length xc,.slice xB (nd q.den).length xd] 196)) W -> W.cell? ⟨w.heap.size,0,none⟩ = some (.bool (qs q))):=zH (fun W hW=>(hW.cell (p:=⟨w.heap.size,0,none⟩) (by simp)).trans (by simp [go_sem]));simp only [Fr.val] at Z0;generalize (nd (qn q)).length = m at *
 generalize (nd q.den).length = m2 at *
 clear hN hD hr;by_cases h0:q = 0
 ·have hd:decide (q = 0) = true:=decide_eq_true h0;have HR:Hid (r = 0):=zH (by rw [HQ.out,(HE.out.1 h0)];rfl);rw [hd] at Z0;clear HQ HE hd HS h0;go_enter Tryz.func151,Tryz.ntmps151;go_wp2_with fail;refine Z0.out.mono ?_;rintro e w' ⟨rfl,hb⟩;have HB:=zH hb;clear hb Z0 HC;go_wp2_with fail;go_ret;exact ⟨JU (by rw [HR.out]),(Below.refl w.heap.size w).alloc nR _ |>.trans (HB.out.mono (by simp))⟩
 ·have hd:decide (q = 0) = false:=dF h0;have h1:¬ q.num = 0:=fun h=>h0 (HE.out.2 h);rw [hd] at Z0;by_cases hn:q.num < 0
  ·have HR:Hid (r = -1):=zH (by rw [HQ.out,if_pos hn]);have hs:qs q = true:=(by rw [HS.out];exact decide_eq_true hn);rw [hs] at HC Z0 ⊢;clear HQ HE hd HS h0 h1 hn hs;go_enter Tryz.func151,Tryz.ntmps151;go_wp2_with fail;refine Z0.out.mono ?_;rintro e w' ⟨rfl,hb⟩;have HB:=zH hb;have c0:=HC.out _ hb;clear hb Z0 HC;go_wp2_with fail;go_ret;exact ⟨JU (by rw [HR.out]),(Below.refl w.heap.size w).alloc nR _ |>.trans (HB.out.mono (by simp))⟩
  ·have HR:Hid (r = 1):=zH (by rw [HQ.out,if_neg hn,if_neg h1]);have hs:qs q = false:=(by rw [HS.out];exact dF hn);rw [hs] at HC Z0 ⊢;clear HQ HE hd HS h0 h1 hn hs;go_enter Tryz.func151,Tryz.ntmps151;go_wp2_with fail;refine Z0.out.mono ?_;rintro e w' ⟨rfl,hb⟩;have HB:=zH hb;have c0:=HC.out _ hb;clear hb Z0 HC;go_wp2_with fail;go_ret;exact ⟨JU (by rw [HR.out]),(Below.refl w.heap.size w).alloc nR _ |>.trans (HB.out.mono (by simp))⟩
theorem Ql (x:Fr) (q:Rat) (w:World) (hx:Nm w x q):Calls Tryz.prog 163 #[x.val] w (UX (-q) w):=by
 obtain ⟨xn,xA,xc,xN,xB,xd,xD⟩:=x;obtain ⟨h1,h2,h3,hN,hD⟩:=hx;simp only at h1 h2 h3 hN hD;subst h1 h2 h3;simp only [Fr.val];have HN:=zH hN;have HD:=zH hD;have HI1:Hid (∀ b,b = (!qs q && decide (0 < (nd (qn q)).length)) -> b = qs (-q)):=zH (fun b hb=>by
  rw [hb,ZiT];congr 1;rw [decide_eq_decide,Nat.pos_iff_ne_zero];exact not_congr Js)
 have HI2:=zH (Zg6 q);have HI3:=zH (Zfw q);have fin:∀ b,b = (!qs q && decide (0 < (nd (qn q)).length)) -> UX (-q) w (.returned (.agg #[.bool b,.slice xA (nd (qn q)).length xc,.slice xB (nd q.den).length xd])) ((w.alloc (.cells #[.bool (qs q),.slice xA (nd (qn q)).length xc,.slice xB (nd q.den).length xd] 196)).alloc (.cells #[.bool b,.slice xA (nd (qn q)).length xc,.slice xB (nd q.den).length xd] 196)):=fun b hb=>
  ⟨⟨b,xA,xc,_,xB,xd,_⟩,rfl,⟨HI1.out b hb,by rw [HI2.out],by rw [HI3.out],by rw [HI2.out];exact HN.out.below (al2 w _ _),by rw [HI3.out];exact HD.out.below (al2 w _ _)⟩,al2 w _ _⟩
 have FIN:=zH fin;clear fin hN hD HN HD HI1 HI2 HI3;generalize hs:qs q = s at *
 generalize (nd (qn q)).length = m at *
 generalize (nd q.den).length = m2 at *
 cases s with
 | true=>
  go_enter Tryz.func163,Tryz.ntmps163;go_wp2_with fail;refine bodyPost_ret (v:=.agg #[.bool false,.slice xA m xc,.slice xB m2 xd]) (by simp [results,Tryz.results163,go_sem]) rfl ?_;exact FIN.out false (by simp)
 | false=>
  go_enter Tryz.func163,Tryz.ntmps163;go_wp2_with fail;refine bodyPost_ret (v:=.agg #[.bool (decide (0 < m)),.slice xA m xc,.slice xB m2 xd]) (by simp [results,Tryz.results163,go_sem]) rfl ?_;exact FIN.out (decide (0 < m)) (by simp)
theorem Za9 (z:Int):qs (z:Rat) = decide (z < 0) /\ qn (z:Rat) = z.natAbs /\ (z:Rat).den = 1:=⟨by unfold qs;rw [Rat.num_intCast],by unfold qn;rw [Rat.num_intCast],Rat.den_intCast z⟩
theorem Vy (z:Int) (w:World) (h1 : -9223372036854775808 <= z) (h2:z <= 9223372036854775807):Calls Tryz.prog 132 #[.int .i64 z] w (UX (z:Rat) w):=by
 obtain ⟨p1,p2,p3⟩:=Za9 z;have HP1:=zH p1;have HP2:=zH p2;have HP3:=zH p3;clear p1 p2 p3;have S1:=zH (fun W=>Yb z.natAbs W (by omega));have S2:=zH (fun W=>Yb 1 W (by omega));have X0:=zH (Bt.new 196 w);have B0:Hid (Below w.heap.size w (w.alloc (.cells #[.bool false,.slice none 0 0,.slice none 0 0] 196))):=zH (bR.alloc nR _);by_cases hz:z < 0
 ·have hc:((z.natAbs:Nat):Int) = -z:=by omega
  have HB:Hid (true = qs (z:Rat)):=zH (by rw [HP1.out];exact (decide_eq_true hz).symm);rw [hc] at S1;have k1 : -(z + 1) + 1 = -z:=by omega
  go_enter Tryz.func132,Tryz.ntmps132;go_wp2_with fail;refine (S1.out _).mono ?_;rintro e w2 ⟨A1,c1,rfl,s1,s2,s3,s4⟩;have D1:=zH (Jz s1 s2 s3);have B1:=zH (B0.out.trans (s4.mono B0.out.size));have X1:=zH (X0.out.below s4);clear s1 s2 s3 s4 S1;go_wp2_with fail;refine (S2.out _).mono ?_;rintro e w3 ⟨A2,c2,rfl,s1,s2,s3,s4⟩;have D2:=zH (Jz s1 s2 s3);have D1':=zH (D1.out.below s4);have B2:=zH (B1.out.trans (s4.mono B1.out.size));have X2:=zH (X1.out.below s4);clear s1 s2 s3 s4 S2 D1 B1 X1 B0 X0;obtain ⟨k0,k1',k2,f0,f1,f2⟩:=X2.out.facts;go_wp2_with fail;obtain ⟨e0,e1,e2⟩:=Zf (.bool true) (.slice A1 (nd z.natAbs).length c1) (.slice A2 (nd 1).length c2) k0 k1' k2;refine bodyPost_ret (v:=.agg #[.bool true,.slice A1 (nd z.natAbs).length c1,.slice A2 (nd 1).length c2]) (by simp [results,Tryz.results132,go_sem,e0,e1,e2]) rfl ?_;refine ⟨⟨true,A1,c1,_,A2,c2,_⟩,rfl,⟨HB.out,by rw [HP2.out],by rw [HP3.out],?_,?_⟩,Jf B2.out nR _ _ _⟩
  ·rw [HP2.out];exact XB D1'.out X2.out _ _ _
  ·rw [HP3.out];exact XB D2.out X2.out _ _ _
 ·have hc:((z.natAbs:Nat):Int) = z:=by omega
  have HB:Hid (false = qs (z:Rat)):=zH (by rw [HP1.out];exact (dF hz).symm);rw [hc] at S1;go_enter Tryz.func132,Tryz.ntmps132;go_wp2_with fail;refine (S1.out _).mono ?_;rintro e w2 ⟨A1,c1,rfl,s1,s2,s3,s4⟩;have D1:=zH (Jz s1 s2 s3);have B1:=zH (B0.out.trans (s4.mono B0.out.size));have X1:=zH (X0.out.below s4);clear s1 s2 s3 s4 S1;go_wp2_with fail;refine (S2.out _).mono ?_;rintro e w3 ⟨A2,c2,rfl,s1,s2,s3,s4⟩;have D2:=zH (Jz s1 s2 s3);have D1':=zH (D1.out.below s4);have B2:=zH (B1.out.trans (s4.mono B1.out.size));have X2:=zH (X1.out.below s4);clear s1 s2 s3 s4 S2 D1 B1 X1 B0 X0;obtain ⟨k0,k1',k2,f0,f1,f2⟩:=X2.out.facts;go_wp2_with fail;obtain ⟨e0,e1,e2⟩:=Zf (.bool false) (.slice A1 (nd z.natAbs).length c1) (.slice A2 (nd 1).length c2) k0 k1' k2;refine bodyPost_ret (v:=.agg #[.bool false,.slice A1 (nd z.natAbs).length c1,.slice A2 (nd 1).length c2]) (by simp [results,Tryz.results132,go_sem,e0,e1,e2]) rfl ?_;refine ⟨⟨false,A1,c1,_,A2,c2,_⟩,rfl,⟨HB.out,by rw [HP2.out],by rw [HP3.out],?_,?_⟩,Jf B2.out nR _ _ _⟩
  ·rw [HP2.out];exact XB D1'.out X2.out _ _ _
  ·rw [HP3.out];exact XB D2.out X2.out _ _ _
end Go.Proofs.YtlgdlenoohkipaaGreat
