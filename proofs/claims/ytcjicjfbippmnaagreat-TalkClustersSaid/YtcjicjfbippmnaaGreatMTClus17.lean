/- TalkClusters -/
import Derived.Test.YtcjicjfbippmnaaGreatMTClus16
set_option maxRecDepth 100000
set_option maxHeartbeats 32000000
namespace Go
section
variable {P:Program} {ops:Array Oper} {Q:Exit -> Act -> World -> Prop}
structure Sl2 (ops:Array Oper) (a:Act) (G:Nat -> Array Value -> World -> Prop) (listed:Array Bool) (b:Act) (u:World):Prop where
 size:b.tmps.size = a.tmps.size
 defers:b.defers = a.defers
 lsize:listed.size = ops.size
 closed:∀ j o,ops[j]? = some o -> listed.getD j false = true -> ∀ k,o.waits k = true -> listed.getD k false = true
 same:∀ k,(∀ j o,ops[j]? = some o -> o.dst = some k -> listed.getD j false = false) -> b.tmps.getD k undef = a.tmps.getD k undef
 slot:∀ j o,ops[j]? = some o -> listed.getD j false = true -> G j b.tmps u
def Region.refB (ops:Array Oper) (R:Nat -> List Nat):Bool:=(List.range ops.size).all fun j=>(R j).all fun k=>(List.range ops.size).all fun i=>match ops[i]?,ops[j]? with
 | some o,some o'=>o.dst != some k || i == j || o'.waits i
 | _,_=>true
theorem ZhS {R:Nat -> List Nat} (hR:Region.refB ops R = true) {j i k:Nat} {o' o:Oper} (ho':ops[j]? = some o') (hk:k ∈ R j) (ho:ops[i]? = some o) (hd:o.dst = some k):i = j ∨ o'.waits i = true:=by
 have h1:=List.all_eq_true.1 hR j (List.mem_range.2 (Array.getElem?_eq_some_iff.1 ho').1);have h2:=List.all_eq_true.1 h1 k hk;have h3:=List.all_eq_true.1 h2 i (List.mem_range.2 (Array.getElem?_eq_some_iff.1 ho).1);simp only [ho,ho',hd,Bool.or_eq_true,bne_self_eq_false,beq_iff_eq] at h3;rcases h3 with (h | h) | h
 ·cases h
 ·exact .inl h
 ·exact .inr h
def ZeR (P:Program) (ops:Array Oper) (Q:Exit -> Act -> World -> Prop) (a:Act) (S:World -> Prop) (T:Nat -> World -> World -> Prop) (G:Nat -> Array Value -> World -> Prop) (i:Nat) (o:Oper):Prop:=
 ∀ (b:Act) (u:World),b.tmps.size = a.tmps.size -> S u -> (∀ j o',ops[j]? = some o' -> o.waits j = true -> G j b.tmps u) -> (∀ k,Region.keptB ops i k = true -> b.tmps.getD k undef = a.tmps.getD k undef) ->
  ∀ K:Act -> World -> Prop,(∀ v u',S u' -> T i u u' -> G i (b.put o.dst v).tmps u' -> K (b.put o.dst v) u') -> if Region.wanted o (yielded ops b.tmps) = true then o.wp P b u K Q else K (b.put o.dst undef) u
def YQ (P:Program) (ops:Array Oper) (Q:Exit -> Act -> World -> Prop) (a:Act) (S:World -> Prop) (T:Nat -> World -> World -> Prop) (G:Nat -> Array Value -> World -> Prop):List Oper -> Nat -> Prop
 | [],_=>True
 | o :: l,i=>ZeR P ops Q a S T G i o /\ YQ P ops Q a S T G l (i + 1)
theorem ZcT {a:Act} {S:World -> Prop} {T:Nat -> World -> World -> Prop} {G:Nat -> Array Value -> World -> Prop}:∀ (l:List Oper) (i:Nat),YQ P ops Q a S T G l i -> ∀ k o,l[k]? = some o -> ZeR P ops Q a S T G (i + k) o:=by
 intro l
 induction l with
 | nil=>intro i _ k o h;simp at h
 | cons x l ih=>
  intro i h k o hk;cases k with
  | zero=>simp at hk;subst hk;exact h.1
  | succ k=>
   have:=ih (i + 1) h.2 k o (by simpa using hk)
   rwa [show i + 1 + k = i + (k + 1) by omega] at this
theorem Zaz {a:Act} (N:Nat) (hN:a.tmps.size = N) (hB:Region.backB ops = true) (hD:Region.dstB ops N = true) (S:World -> Prop) (T:Nat -> World -> World -> Prop) (G:Nat -> Array Value -> World -> Prop)
  (R:Nat -> List Nat) (hR:Region.refB ops R = true) (hG:∀ i j t t' w w',i ≠ j -> (∀ k ∈ R j,t'.getD k undef = t.getD k undef) -> T i w w' -> G j t w -> G j t' w') (hs:YQ P ops Q a S T G ops.toList 0)
  (hend:∀ b u,b.tmps.size = N -> b.defers = a.defers -> S u -> (∀ j o,ops[j]? = some o -> G j b.tmps u) -> (∀ k,Region.freeB ops k = true -> b.tmps.getD k undef = a.tmps.getD k undef) -> Q .normal b u) :
  ∀ (f:Nat) (listed:Array Bool) (b:Act) (u:World),S u -> Sl2 ops a G listed b u -> (f = 0 -> Region.ready .any ops listed = []) -> (listed.toList.countP (· == false) <= f) -> wpAny P .any ops Q f listed b u:=by
 have fin:∀ (listed:Array Bool) (b:Act) (u:World),S u -> Sl2 ops a G listed b u -> Region.ready .any ops listed = [] -> Q .normal b u:=by
  intro listed b u hS hSl hr;have hall:=Xi hB hSl.lsize hr;refine hend b u (hSl.size.trans hN) hSl.defers hS (fun j o ho=>hSl.slot j o ho (hall j (Array.getElem?_eq_some_iff.1 ho).1)) (fun k hk=>hSl.same k fun j o ho hd=>absurd hd (Region.freeB_of hk j o ho))
 intro f
 induction f with
 | zero=>intro listed b u hS hSl h0 _;exact ⟨h0 rfl,fin listed b u hS hSl (h0 rfl)⟩
 | succ f ih=>
  intro listed b u hS hSl _ hc;refine ⟨fin listed b u hS hSl,fun i hi=>?_⟩;have hlt:i < ops.size:=by
   unfold Region.ready at hi;exact List.mem_range.1 (List.mem_filter.1 hi).1
  have ho:ops[i]? = some ops[i]:=Array.getElem?_eq_getElem hlt;generalize ops[i] = o at ho;obtain ⟨_,hun,dp⟩:=(ZX ho).1 hi;have hli:i < listed.size:=by rw [hSl.lsize];exact hlt
  have hunf:listed.getD i false = false:=by
   rw [Array.getD_eq_getD_getElem?,Array.getElem?_eq_getElem hli] at hun ⊢;simpa using hun
  have dp':∀ j,o.waits j = true -> listed.getD j false = true:=by
   intro j hj;obtain ⟨e,he,hb⟩:=Array.any_eq_true'.1 hj;simp only [Bool.and_eq_true,beq_iff_eq] at hb;rw [<- hb.2];exact dp e he hb.1
  have step:=ZcT _ _ hs i o (by rw [Array.getElem?_toList];exact ho);rw [Nat.zero_add] at step;refine wpOp_step ho (fun K hK=>?_);refine step b u hSl.size hS (fun j o' ho' hw=>hSl.slot j o' ho' (dp' j hw)) (fun k hk=>hSl.same k fun j o' ho' hd'=>?_) K (fun v u' hS' hT' hG'=>?_)
  ·have h:=List.all_eq_true.1 hk j (List.mem_range.2 (Array.getElem?_eq_some_iff.1 ho').1);simp only [ho',hd',Bool.or_eq_true] at h;rcases h with h | h
   ·simp at h
   ·cases hlj:listed.getD j false with
    | false=>rfl
    | true=>have:=hSl.closed j o' ho' hlj i h;rw [hunf] at this;cases this
  ·refine hK _ _ (ih _ _ _ hS' ?_ ?_ ?_)
   ·have hput:∀ d,o.dst = some d -> d < b.tmps.size:=fun d hd=>by rw [hSl.size,hN];exact (QH hD ho hd).1
    refine ⟨?_,?_,by simp [hSl.lsize],?_,?_,?_⟩
    ·unfold Act.put;cases o.dst <;> simp [hSl.size]
    ·unfold Act.put;cases o.dst <;> simp [hSl.defers]
    ·intro j o' ho' hl k hw;rw [J2] at hl ⊢;rcases hl with ⟨rfl,_⟩ | hl
     ·rw [ho] at ho';cases ho';exact .inr (dp' k hw)
     ·exact .inr (hSl.closed j o' ho' hl k hw)
    ·intro k hk;have h1:listed.getD i false = false:=hunf;have hne:o.dst ≠ some k:=fun hd=>by
      have:=hk i o ho hd;have h2:(listed.setIfInBounds i true).getD i false = true:=J2.2 (.inl ⟨rfl,hli⟩);rw [h2] at this;cases this
     have h3:=hSl.same k fun j o' ho' hd'=>by
      have:=hk j o' ho' hd';cases hlj:listed.getD j false with
      | false=>rfl
      | true=>rw [J2.2 (.inr hlj)] at this;cases this
     rw [<- h3];unfold Act.put;cases hdd:o.dst with
     | none=>rfl
     | some d=>
      simp only;rw [JU (hput d hdd),if_neg (fun e=>hne (by rw [hdd,e]))]
    ·intro j o' ho' hl;rw [J2] at hl;by_cases hji:j = i
     ·subst hji;exact hG'
     ·have hl':listed.getD j false = true:=by
       rcases hl with ⟨e,_⟩ | hl
       ·exact absurd e hji
       ·exact hl
      refine hG i j _ _ _ _ (fun e=>hji e.symm) (fun k hk=>?_) hT' (hSl.slot j o' ho' hl');unfold Act.put;cases hdd:o.dst with
      | none=>rfl
      | some d=>
       simp only;rw [JU (hput d hdd),if_neg];intro e2;subst e2;rcases ZhS hR ho' hk ho hdd with e | e
       ·exact hji e.symm
       ·have:=hSl.closed j o' ho' hl' i e;rw [hunf] at this;cases this
   ·intro hf;subst hf;have hz:(listed.setIfInBounds i true).toList.countP (· == false) = 0:=by
     have:=J6 listed.toList i (hx0 hli hunf);rw [Array.toList_setIfInBounds];omega
    rw [List.countP_eq_zero] at hz;unfold Region.ready;rw [List.filter_eq_nil_iff];intro j hj;rw [List.mem_range] at hj;have hjl:j < (listed.setIfInBounds i true).size:=(by simp [hSl.lsize];exact hj);have:=hz ((listed.setIfInBounds i true)[j]) (Array.mem_toList_iff.2 (Array.getElem_mem hjl));rw [Array.getD_eq_getD_getElem?,Array.getElem?_eq_getElem hjl];simp only [Option.getD_some];cases hv:(listed.setIfInBounds i true)[j] with
    | true=>simp
    | false=>rw [hv] at this;exact absurd rfl this
   ·have:=J6 listed.toList i (hx0 hli hunf);rw [Array.toList_setIfInBounds];omega
theorem V6 {id:Nat} {a:Act} {w:World} (N:Nat) (hN:a.tmps.size = N) (hm:P.follows .mixedOrders = true) (hB:Region.backB ops = true) (hD:Region.dstB ops N = true) (S:World -> Prop) (T:Nat -> World -> World -> Prop) (G:Nat -> Array Value -> World -> Prop)
  (R:Nat -> List Nat) (hR:Region.refB ops R = true) (hG:∀ i j t t' w w',i ≠ j -> (∀ k ∈ R j,t'.getD k undef = t.getD k undef) -> T i w w' -> G j t w -> G j t' w') (hS:S w.drew) (hs:YQ P ops Q a S T G ops.toList 0)
  (hend:∀ b u,b.tmps.size = N -> b.defers = a.defers -> S u -> (∀ j o,ops[j]? = some o -> G j b.tmps u) -> (∀ k,Region.freeB ops k = true -> b.tmps.getD k undef = a.tmps.getD k undef) -> Q .normal b u):(Code.region id ops true).wp P Q a w:=by
 refine wp_region_any hm ?_;refine Zaz N hN hB hD S T G R hR hG hs hend _ _ _ _ hS ⟨rfl,rfl,by simp,?_,fun _ _=>rfl,?_⟩ ?_ ?_
 ·intro j o ho hl;rw [Array.getD_eq_getD_getElem?,Array.getElem?_replicate] at hl;split at hl <;> simp at hl
 ·intro j o ho hl;rw [Array.getD_eq_getD_getElem?,Array.getElem?_replicate] at hl;split at hl <;> simp at hl
 ·intro h0;unfold Region.ready;rw [h0];rfl
 ·simp only [Array.toList_replicate,List.countP_replicate];split <;> omega
def ZeQ (P:Program) (ops:Array Oper) (Q:Exit -> Act -> World -> Prop) (a:Act) (S:World -> Prop) (TS:World -> World -> Prop) (G:Nat -> Value -> World -> Prop) (E:Array Value -> World -> Prop) (i:Nat) (o:Oper):Prop:=
 ∀ (b:Act) (u:World),S u -> (∀ j o',ops[j]? = some o' -> o.waits j = true -> G j (o'.left b) u) -> (∀ k,Region.keptB ops i k = true -> b.tmps.getD k undef = a.tmps.getD k undef) ->
  ∀ K:Act -> World -> Prop,(∀ v u',S u' -> TS u u' -> E b.tmps u' -> K (b.put o.dst v) u') -> if Region.wanted o (yielded ops b.tmps) = true then o.wp P b u K Q else K (b.put o.dst undef) u
def YP (P:Program) (ops:Array Oper) (Q:Exit -> Act -> World -> Prop) (a:Act) (S:World -> Prop) (T TS:World -> World -> Prop) (G:Nat -> Value -> World -> Prop) (E:Array Value -> World -> Prop):List Oper -> Nat -> Nat -> Prop
 | [],_,_=>True
 | o :: l,i,0=>ZeQ P ops Q a S TS G E i o /\ Jm P ops Q a S T G l (i + 1)
 | o :: l,i,s + 1=>Zbk P ops Q a S T G i o /\ YP P ops Q a S T TS G E l (i + 1) s
theorem ZcU {a:Act} {S:World -> Prop} {T TS:World -> World -> Prop} {G:Nat -> Value -> World -> Prop} {E:Array Value -> World -> Prop}:∀ (l:List Oper) (i s:Nat),YP P ops Q a S T TS G E l i s -> ∀ k o,l[k]? = some o -> if k = s then ZeQ P ops Q a S TS G E (i + k) o else Zbk P ops Q a S T G (i + k) o:=by
 intro l
 induction l with
 | nil=>intro i s _ k o h;simp at h
 | cons x l ih=>
  intro i s h k o hk;cases s with
  | zero=>
   cases k with
   | zero=>simp at hk;subst hk;exact h.1
   | succ k=>
    have:=ZaJ _ _ h.2 k o (by simpa using hk);rw [if_neg (by omega)]
    rwa [show i + 1 + k = i + (k + 1) by omega] at this
  | succ s=>
   cases k with
   | zero=>simp at hk;subst hk;exact h.1
   | succ k=>
    have:=ih (i + 1) s h.2 k o (by simpa using hk);rw [show i + 1 + k = i + (k + 1) by omega] at this;by_cases e:k = s
    ·rw [if_pos e] at this;rw [if_pos (by omega)];exact this
    ·rw [if_neg e] at this;rw [if_neg (by omega)];exact this
def Qr (ops:Array Oper) (j:Nat) (t:Array Value):Value:=match ops[j]? with
 | some o=>(match o.dst with | some d=>t.getD d undef | none=>undef)
 | none=>undef
def ZfY (ops:Array Oper) (j:Nat):List Nat:=match ops[j]? with
 | some o=>(match o.dst with | some d=>[d] | none=>[])
 | none=>[]
theorem ZK {j:Nat} {o:Oper} (ho:ops[j]? = some o) (b:Act):Qr ops j b.tmps = o.left b:=by
 unfold Qr Oper.left;simp only [ho];cases o.dst <;> rfl
theorem ZbE {j:Nat} {t t':Array Value} (h:∀ k ∈ ZfY ops j,t'.getD k undef = t.getD k undef):Qr ops j t' = Qr ops j t:=by
 unfold Qr ZfY at *
 cases ho:ops[j]? with
 | none=>rfl
 | some o=>
  simp only [ho] at h ⊢;cases hd:o.dst with
  | none=>rfl
  | some d=>simp only [hd] at h ⊢;exact h d (List.mem_singleton.2 rfl)
theorem Ye {id:Nat} {a:Act} {w:World} (N s:Nat) (rs:List Nat) (hN:a.tmps.size = N) (hm:P.follows .mixedOrders = true) (hB:Region.backB ops = true) (hD:Region.dstB ops N = true)
  (hR:Region.refB ops (fun j=>if j = s then rs else ZfY ops j) = true) (hsd:(ops[s]?.map (fun o=>o.dst.isNone)).getD false = true) (S:World -> Prop) (T TS:World -> World -> Prop) (G:Nat -> Value -> World -> Prop) (E:Array Value -> World -> Prop)
  (hG:∀ j v w w',G j v w -> T w w' -> G j v w') (hG2:∀ j v w w',j ≠ s -> G j v w -> TS w w' -> G j v w') (hE:∀ t t' w w',(∀ k ∈ rs,t'.getD k undef = t.getD k undef) -> T w w' -> E t w -> E t' w')
  (hS:S w.drew) (hs:YP P ops Q a S T TS G E ops.toList 0 s) (hGs:∀ v u,G s v u)
  (hend:∀ b u,b.tmps.size = N -> b.defers = a.defers -> S u -> (∀ j o,ops[j]? = some o -> G j (o.left b) u) -> E b.tmps u -> (∀ k,Region.freeB ops k = true -> b.tmps.getD k undef = a.tmps.getD k undef) -> Q .normal b u):(Code.region id ops true).wp P Q a w:=by
 have hss:∃ o,ops[s]? = some o /\ o.dst = none:=by
  cases h:ops[s]? with
  | none=>rw [h] at hsd;simp at hsd
  | some o=>rw [h] at hsd;exact ⟨o,rfl,by simpa using hsd⟩
 have key:∀ (l:List Oper) (i:Nat),(∀ k o,l[k]? = some o -> if i + k = s then ZeQ P ops Q a S TS G E (i + k) o else Zbk P ops Q a S T G (i + k) o) -> (∀ k o,l[k]? = some o -> ops[i + k]? = some o) ->
   YQ P ops Q a S (fun i u u'=>if i = s then TS u u' else T u u') (fun j t u=>if j = s then E t u else G j (Qr ops j t) u) l i:=by
  intro l
  induction l with
  | nil=>intro i _ _;trivial
  | cons o l ih=>
   intro i h ho;refine ⟨?_,ih (i + 1) (fun k o' hk=>by have:=h (k + 1) o' (by simpa using hk);rwa [show i + (k + 1) = i + 1 + k by omega] at this) (fun k o' hk=>by have:=ho (k + 1) o' (by simpa using hk);rwa [show i + (k + 1) = i + 1 + k by omega] at this)⟩;have h0:=h 0 o rfl;have ho0:=ho 0 o rfl;rw [Nat.add_zero] at h0 ho0;intro b u hsz su dp kp K hK;have dp':∀ j o',ops[j]? = some o' -> o.waits j = true -> G j (o'.left b) u:=fun j o' hj hw=>by
    have:=dp j o' hj hw;by_cases e:j = s
    ·subst e;exact hGs _ _
    ·simp only [if_neg e] at this;rwa [ZK hj] at this
   by_cases e:i = s
   ·rw [if_pos e] at h0;obtain ⟨os,hos,hod⟩:=hss;rw [e] at ho0;rw [hos] at ho0;cases ho0;refine h0 b u su dp' kp K (fun v u' h1 h2 h3=>hK v u' h1 (by simp only [if_pos e];exact h2) ?_);simp only [if_pos e,hod];exact h3
   ·rw [if_neg e] at h0;refine h0 b u su dp' kp K (fun v u' h1 h2 h3=>hK v u' h1 (by simp only [if_neg e];exact h2) ?_);simp only [if_neg e];rw [ZK ho0];unfold Oper.left Act.put;cases hdd:o.dst with
    | none=>rw [hdd] at h3;simpa using h3
    | some d=>
     rw [hdd] at h3;simp only;rw [JU (by rw [hsz,hN];exact (QH hD ho0 hdd).1),if_pos rfl];simpa using h3
 refine V6 N hN hm hB hD S _ _ (fun j=>if j = s then rs else ZfY ops j) hR ?_ hS (key _ 0 (fun k o hk=>by
  rw [Nat.zero_add];have:=ZcU _ 0 s hs k o hk
  rwa [Nat.zero_add] at this) (fun k o hk=>by rw [Nat.zero_add,<- Array.getElem?_toList];exact hk)) (fun b u h1 h2 h3 h4 h5=>?_)
 ·intro i j t t' u u' hne hk hT hg;by_cases ej:j = s
  ·have ei:¬ i = s:=fun e=>hne (e.trans ej.symm);simp only [if_pos ej] at hk hg ⊢;simp only [if_neg ei] at hT;exact hE t t' u u' hk hT hg
  ·simp only [if_neg ej] at hk hg ⊢;rw [ZbE hk];by_cases ei:i = s
   ·simp only [if_pos ei] at hT;exact hG2 j _ u u' ej hg hT
   ·simp only [if_neg ei] at hT;exact hG j _ u u' hg hT
 ·obtain ⟨os,hos,_⟩:=hss;refine hend b u h1 h2 h3 (fun j o ho=>?_) ?_ h5
  ·have:=h4 j o ho;by_cases e:j = s
   ·subst e;exact hGs _ _
   ·simp only [if_neg e] at this;rwa [ZK ho] at this
  ·have:=h4 s os hos;simpa using this
end
end Go
namespace Go.Proofs.YtcjicjfbippmnaaGreat
open Go.RowKit Ear

def TSt (u u':World):Prop:=u.heap.size <= u'.heap.size /\ ∀ b,b < u.heap.size -> u'.heap[b]? = u.heap[b]? ∨ ((∃ x,Fb u b x) /\ ∃ x,Fb u' b x)
theorem TSt.put {u:World} {k:Nat} {x:Fr} (h:Fb u k x) (r:Fr):TSt u (((u.setCell ⟨k,0,none⟩ (.bool r.neg)).setCell ⟨k,1,none⟩ (.slice r.A r.N.length r.c)).setCell ⟨k,2,none⟩ (.slice r.B r.D.length r.d)):=
 ⟨by simp,fun b _=>by
  by_cases e:b = k
  ·subst e;exact .inr ⟨⟨x,h⟩,r,h.put⟩
  ·exact .inl (J1 e _ _ _)⟩
theorem ZfF {u u':World} {A:Option Addr} {l:List Int} (h:Lies u A (ucs l)) (ht:TSt u u'):Lies u' A (ucs l):=fun h0=>by
 obtain ⟨b,off,e,hlt,hc⟩:=h h0;rcases ht.2 b hlt with e2 | ⟨⟨x,hx⟩,_⟩
 ·exact ⟨b,off,e,Nat.lt_of_lt_of_le hlt ht.1,fun j v hv=>by
   rw [<- hc j v hv];exact World.cell?_of_block (a:=⟨b,off + j,none⟩) e2⟩
 ·exfalso;have hl : 0 < l.length:=by simpa using h0
  have:=hc 0 (.int .u32 l[0]) (by simp [gE hl]);rw [cell_of_row u b _ _ _ _ hx] at this;rcases (show off + 0 = 0 ∨ off + 0 = 1 ∨ off + 0 = 2 ∨ 3 <= off + 0 by omega) with e | e | e | e
  ·rw [e] at this;simp at this
  ·rw [e] at this;simp at this
  ·rw [e] at this;simp at this
  ·rw [Array.getElem?_eq_none (by simpa using e)] at this;cases this
theorem Zgw {u u':World} {A:Option Addr} {c:Nat} {l:List Int} (h:Dg u A c l) (ht:TSt u u'):Dg u' A c l:=⟨ZfF h.lies ht,h.dig,h.cap,h.nil⟩
theorem Zgo {u u':World} {x:Fr} {q:Rat} (h:Fq u x q) (ht:TSt u u'):Fq u' x q:=⟨⟨Zgw h.ok.n ht,Zgw h.ok.d ht⟩,h.neg,h.num,h.dn⟩
def isFb (base:Nat):Value -> World -> Prop:=fun v u=>∃ k,v = .pointer (some ⟨k,0,none⟩) /\ base <= k /\ Hid (∃ x,Fb u k x)
theorem Keeps.isFb (base:Nat):Keeps (isFb base):=fun _ _ _ ⟨k,h1,h2,h3⟩ hb=>⟨k,h1,h2,zH (by obtain ⟨x,hx⟩:=h3.out;exact ⟨x,hx.below hb⟩)⟩
def isT:Value -> World -> Prop:=fun _ _=>True
theorem Keeps.isT:Keeps isT:=fun _ _ _ _ _=>trivial
def KeepS (p:Value -> World -> Prop):Prop:=∀ v w w',p v w -> TSt w w' -> p v w'
theorem KeepS.isV (v:Value):KeepS (isV v):=fun _ _ _ h _=>h
theorem KeepS.isT:KeepS isT:=fun _ _ _ _ _=>trivial
theorem KeepS.isFq (q:Rat):KeepS (isFq q):=fun _ _ _ ⟨r,h1,h2⟩ hb=>⟨r,h1,zH (Zgo h2.out hb)⟩
theorem KeepS.isTq (q:Rat):KeepS (isTq q):=fun _ _ _ ⟨r,h1,h2⟩ hb=>⟨r,h1,zH (Zgo h2.out hb)⟩
theorem KeepS.isFb (base:Nat):KeepS (isFb base):=fun _ _ _ ⟨k,h1,h2,h3⟩ hb=>⟨k,h1,h2,zH (by
 obtain ⟨x,hx⟩:=h3.out;rcases hb.2 k hx.lt with e | ⟨_,h⟩
 ·exact ⟨x,e.trans hx⟩
 ·exact h)⟩
theorem Gl.keepS {l:List (Value -> World -> Prop)} (h:∀ p ∈ l,KeepS p):∀ j v w w',Gl l j v w -> TSt w w' -> Gl l j v w':=by
 intro j v w w' hj hb;unfold Gl at *
 by_cases hl:j < l.length
 ·have e:l.getD j (fun _ _=>True) = l[j]:=by rw [List.getD_eq_getElem?_getD,gE hl];rfl
  rw [e] at hj ⊢;exact h _ (yM hl) _ _ _ hj hb
 ·have e:l.getD j (fun _ _=>True) = fun _ _=>True:=by rw [List.getD_eq_getElem?_getD,List.getElem?_eq_none (Nat.le_of_not_lt hl)];rfl
  rw [e];trivial
def HoldsQ (d base:Nat) (q:Rat) (t:Array Value) (u:World):Prop:=∃ (k:Nat) (r:Fr),t.getD d undef = .pointer (some ⟨k,0,none⟩) /\ base <= k /\ Hid (Fb u k r) /\ Hid (Fq u r q)
theorem HoldsQ.keep {d base:Nat} {q:Rat}:∀ t t' w w',(∀ k ∈ [d],t'.getD k undef = t.getD k undef) -> Below w.heap.size w w' -> HoldsQ d base q t w -> HoldsQ d base q t' w':=
 fun _ _ _ _ h hb ⟨k,r,h1,h2,h3,h4⟩=>⟨k,r,(h d (List.mem_singleton.2 rfl)).trans h1,h2,zH (h3.out.below hb),zH (h4.out.below hb)⟩
end Go.Proofs.YtcjicjfbippmnaaGreat
