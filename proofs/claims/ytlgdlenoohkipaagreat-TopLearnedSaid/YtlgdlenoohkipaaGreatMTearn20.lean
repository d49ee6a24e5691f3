/- TopLearned -/
import Derived.Test.YtlgdlenoohkipaaGreatMTearn19
set_option maxRecDepth 100000
set_option maxHeartbeats 32000000
namespace Go
section
variable {F:Fence} {n:Nat} {P:Program} {ops:Array Oper} {Q:Exit -> Act -> World -> Prop}
structure SlL (ops:Array Oper) (L:Nat) (a:Act) (G:Nat -> Value -> World -> Prop) (listed:Array Bool) (b:Act) (u:World):Prop where
 size:b.tmps.size = a.tmps.size
 defers:b.defers = a.defers
 lsize:listed.size = ops.size
 closed:∀ j o,ops[j]? = some o -> listed.getD j false = true -> ∀ k,o.waits k = true -> listed.getD k false = true
 last:listed.getD L false = false
 same:∀ k,(∀ j o,ops[j]? = some o -> j < L -> o.dst = some k -> listed.getD j false = false) -> b.tmps.getD k undef = a.tmps.getD k undef
 slot:∀ j o,ops[j]? = some o -> j < L -> listed.getD j false = true -> G j (o.left b) u
def Region.lastB (ops:Array Oper) (L:Nat):Bool:=(List.range L).all fun j=>match ops[L]? with
 | some o=>o.waits j || (List.range L).any fun m=>o.waits m && (match ops[m]? with | some om=>om.waits j | none=>false)
 | none=>false
theorem ZdA {L:Nat} (h:Region.lastB ops L = true) {o:Oper} (ho:ops[L]? = some o) {j:Nat} (hj:j < L):o.waits j = true ∨ ∃ m om,o.waits m = true /\ ops[m]? = some om /\ om.waits j = true:=by
 have:=List.all_eq_true.1 h j (List.mem_range.2 hj);simp only [ho,Bool.or_eq_true] at this;rcases this with h | h
 ·exact .inl h
 ·obtain ⟨m,_,hm⟩:=List.any_eq_true.1 h;simp only [Bool.and_eq_true] at hm;obtain ⟨h1,h2⟩:=hm;cases hom:ops[m]? with
  | none=>rw [hom] at h2;cases h2
  | some om=>rw [hom] at h2;exact .inr ⟨m,om,h1,rfl.trans hom,h2⟩
theorem Zc7 (hB:Region.backB ops = true) {i j:Nat} {o:Oper} (ho:ops[i]? = some o) (hw:o.waits j = true):j < i:=by
 have:=List.all_eq_true.1 hB i (List.mem_range.2 (Array.getElem?_eq_some_iff.1 ho).1);simp only [ho,Array.all_eq_true'] at this;obtain ⟨e,he,hb⟩:=Array.any_eq_true'.1 hw;simp only [Bool.and_eq_true,beq_iff_eq] at hb;have h1:=this e he;rw [hb.1,hb.2] at h1;simpa using h1
def Zhs (F:Fence) (n:Nat) (P:Program) (ops:Array Oper) (Q:Exit -> Act -> World -> Prop) (a:Act) (S:World -> Prop) (T:World -> World -> Prop) (G:Nat -> Value -> World -> Prop) (i:Nat) (o:Oper):Prop:=
 ∀ (b:Act) (u:World),S u -> (∀ j o',ops[j]? = some o' -> o.waits j = true -> G j (o'.left b) u) -> (∀ k,Region.keptB ops i k = true -> b.tmps.getD k undef = a.tmps.getD k undef) ->
  ∀ K:Act -> World -> Prop,(∀ v u',S u' -> T u u' -> G i (if o.dst.isSome then v else undef) u' -> K (b.put o.dst v) u') -> if Region.wanted o (yielded ops b.tmps) = true then Oper.wpIn F n P o b u K Q else (∀ f,o.about P u b.eval = some f -> F.fn f) /\ K (b.put o.dst undef) u
def Zav (F:Fence) (n:Nat) (P:Program) (ops:Array Oper) (Q:Exit -> Act -> World -> Prop) (a:Act) (S:World -> Prop) (T:World -> World -> Prop) (G:Nat -> Value -> World -> Prop):List Oper -> Nat -> Prop
 | [],_=>True
 | o :: l,i=>Zhs F n P ops Q a S T G i o /\ Zav F n P ops Q a S T G l (i + 1)
theorem ZbL {a:Act} {S:World -> Prop} {T:World -> World -> Prop} {G:Nat -> Value -> World -> Prop}:∀ (l:List Oper) (i:Nat),Zav F n P ops Q a S T G l i -> ∀ k o,l[k]? = some o -> Zhs F n P ops Q a S T G (i + k) o:=by
 intro l
 induction l with
 | nil=>intro i _ k o h;simp at h
 | cons x l ih=>
  intro i h k o hk;cases k with
  | zero=>simp at hk;subst hk;exact h.1
  | succ k=>
   have:=ih (i + 1) h.2 k o (by simpa using hk)
   rwa [show i + 1 + k = i + (k + 1) by omega] at this
theorem QS {a:Act} (N:Nat) (hN:a.tmps.size = N) (L:Nat) (hL:ops.size = L + 1) (hB:Region.backB ops = true) (hD:Region.dstB ops N = true) (hP:Region.lastB ops L = true) (S:World -> Prop) (T:World -> World -> Prop) (G:Nat -> Value -> World -> Prop)
  (hG:∀ j v w w',G j v w -> T w w' -> G j v w') (hs:Zav F n P ops Q a S T G (ops.toList.take L) 0)
  (hlast:∀ (o:Oper) (b:Act) (u:World),ops[L]? = some o -> b.tmps.size = N -> b.defers = a.defers -> S u -> (∀ j o,ops[j]? = some o -> j < L -> G j (o.left b) u) -> (∀ k,(∀ j o,ops[j]? = some o -> j < L -> o.dst ≠ some k) -> b.tmps.getD k undef = a.tmps.getD k undef) ->
   ∀ K:Act -> World -> Prop,(∀ b' u',Q .normal b' u' -> K b' u') -> if Region.wanted o (yielded ops b.tmps) = true then Oper.wpIn F n P o b u K Q else (∀ f,o.about P u b.eval = some f -> F.fn f) /\ K (b.put o.dst undef) u) :
  ∀ (f:Nat) (listed:Array Bool) (b:Act) (u:World),S u -> SlL ops L a G listed b u -> (listed.toList.countP (· == false) <= f) -> wpAnyIn F n P .any ops Q f listed b u:=by
 have nofin:∀ (listed:Array Bool) (b:Act) (u:World),SlL ops L a G listed b u -> Region.ready .any ops listed ≠ []:=by
  intro listed b u hSl hr;have hall:=Xt hB hSl.lsize hr L (by omega);rw [hSl.last] at hall;cases hall
 intro f
 induction f with
 | zero=>
  intro listed b u hS hSl hc;exfalso;have hz:listed.toList.countP (· == false) = 0:=by omega
  rw [List.countP_eq_zero] at hz;have hjl:L < listed.size:=by rw [hSl.lsize];omega
  have h1:=hz (listed[L]) (Array.mem_toList_iff.2 (Array.getElem_mem hjl));have h2:=hSl.last;rw [Array.getD_eq_getD_getElem?,Array.getElem?_eq_getElem hjl] at h2;simp only [Option.getD_some] at h2;rw [h2] at h1;exact h1 rfl
 | succ f ih=>
  intro listed b u hS hSl hc;refine ⟨fun hr=>absurd hr (nofin listed b u hSl),fun i hi=>?_⟩;have hlt:i < ops.size:=by
   unfold Region.ready at hi;exact List.mem_range.1 (List.mem_filter.1 hi).1
  have ho:ops[i]? = some ops[i]:=Array.getElem?_eq_getElem hlt;generalize ops[i] = o at ho;obtain ⟨_,hun,dp⟩:=(ZS ho).1 hi;have hli:i < listed.size:=by rw [hSl.lsize];exact hlt
  have hunf:listed.getD i false = false:=by
   rw [Array.getD_eq_getD_getElem?,Array.getElem?_eq_getElem hli] at hun ⊢;simpa using hun
  have dp':∀ j,o.waits j = true -> listed.getD j false = true:=by
   intro j hj;obtain ⟨e,he,hb⟩:=Array.any_eq_true'.1 hj;simp only [Bool.and_eq_true,beq_iff_eq] at hb;rw [<- hb.2];exact dp e he hb.1
  by_cases hiL:i = L
  ·subst hiL;have hdepL:∀ j,j < i -> listed.getD j false = true:=fun j hj=>by
    rcases ZdA hP ho hj with h | ⟨m,om,h1,h2,h3⟩
    ·exact dp' j h
    ·exact hSl.closed m om h2 (dp' m h1) j h3
   refine wpOpIn_step ho (fun K hK=>?_);refine hlast o b u ho (hSl.size.trans hN) hSl.defers hS (fun j o' ho' hj=>hSl.slot j o' ho' hj (hdepL j hj)) (fun k hk=>hSl.same k fun j o' ho' hj hd'=>absurd hd' (hk j o' ho' hj)) K (fun b' u' hq=>hK _ _ ?_);have hready:Region.ready .any ops (listed.setIfInBounds i true) = []:=by
    unfold Region.ready;rw [List.filter_eq_nil_iff];intro j hj;rw [List.mem_range] at hj;have h1:(listed.setIfInBounds i true).getD j false = true:=by
     rw [Xb];by_cases e:j = i
     ·exact .inl ⟨e,hli⟩
     ·exact .inr (hdepL j (by omega))
    have hjl:j < (listed.setIfInBounds i true).size:=(by simp [hSl.lsize];exact hj);rw [Array.getD_eq_getD_getElem?,Array.getElem?_eq_getElem hjl] at h1 ⊢;simp only [Option.getD_some] at h1 ⊢;rw [h1];simp
   cases f with
   | zero=>exact ⟨hready,hq⟩
   | succ f=>exact ⟨fun _=>hq,fun j hj=>by rw [hready] at hj;cases hj⟩
  have hiL':i < L:=by omega
  have step:=ZbL _ _ hs i o (by rw [List.getElem?_take_of_lt hiL',Array.getElem?_toList];exact ho);rw [Nat.zero_add] at step;refine wpOpIn_step ho (fun K hK=>?_);refine step b u hS (fun j o' ho' hw=>hSl.slot j o' ho' (by have:=Zc7 hB ho hw;omega) (dp' j hw)) (fun k hk=>hSl.same k fun j o' ho' hjL hd'=>?_) K (fun v u' hS' hT' hG'=>?_)
  ·have h:=List.all_eq_true.1 hk j (List.mem_range.2 (Array.getElem?_eq_some_iff.1 ho').1);simp only [ho',hd',Bool.or_eq_true] at h;rcases h with h | h
   ·simp at h
   ·cases hlj:listed.getD j false with
    | false=>rfl
    | true=>have:=hSl.closed j o' ho' hlj i h;rw [hunf] at this;cases this
  ·refine hK _ _ (ih _ _ _ hS' ?_ ?_)
   ·have hput:∀ d,o.dst = some d -> d < b.tmps.size:=fun d hd=>by rw [hSl.size,hN];exact (QJ hD ho hd).1
    refine ⟨?_,?_,by simp [hSl.lsize],?_,?_,?_,?_⟩
    ·unfold Act.put;cases o.dst <;> simp [hSl.size]
    ·unfold Act.put;cases o.dst <;> simp [hSl.defers]
    ·intro j o' ho' hl k hw;rw [Xb] at hl ⊢;rcases hl with ⟨rfl,_⟩ | hl
     ·rw [ho] at ho';cases ho';exact .inr (dp' k hw)
     ·exact .inr (hSl.closed j o' ho' hl k hw)
    ·have:¬ (L = i):=fun e=>hiL e.symm;have h9:=hSl.last;cases hv:(listed.setIfInBounds i true).getD L false with
     | false=>rfl
     | true=>
      rw [Xb] at hv;rcases hv with ⟨e,_⟩ | hv
      ·exact absurd e this
      ·rw [hv] at h9;cases h9
    ·intro k hk;have h1:listed.getD i false = false:=hunf;have hne:o.dst ≠ some k:=fun hd=>by
      have:=hk i o ho hiL' hd;have h2:(listed.setIfInBounds i true).getD i false = true:=Xb.2 (.inl ⟨rfl,hli⟩);rw [h2] at this;cases this
     have h3:=hSl.same k fun j o' ho' hjL hd'=>by
      have:=hk j o' ho' hjL hd';cases hlj:listed.getD j false with
      | false=>rfl
      | true=>rw [Xb.2 (.inr hlj)] at this;cases this
     rw [<- h3];unfold Act.put;cases hdd:o.dst with
     | none=>rfl
     | some d=>
      simp only;rw [J0 (hput d hdd),if_neg (fun e=>hne (by rw [hdd,e]))]
    ·intro j o' ho' hjL hl;rw [Xb] at hl;by_cases hji:j = i
     ·subst hji;rw [ho] at ho';cases ho';unfold Oper.left Act.put;cases hdd:o.dst with
      | none=>rw [hdd] at hG';simpa using hG'
      | some d=>
       rw [hdd] at hG';simp only;rw [J0 (hput d hdd),if_pos rfl];simpa using hG'
     ·have hl':listed.getD j false = true:=by
       rcases hl with ⟨e,_⟩ | hl
       ·exact absurd e hji
       ·exact hl
      have hold:=hG _ _ _ _ (hSl.slot j o' ho' hjL hl') hT';have e:o'.left (b.put o.dst v) = o'.left b:=by
       unfold Oper.left Act.put;cases hdd':o'.dst with
       | none=>rfl
       | some d'=>
        cases hdd:o.dst with
        | none=>rfl
        | some d=>
         simp only;rw [J0 (hput d hdd),if_neg];intro e2;subst e2;exact hji ((QJ hD ho hdd).2 j o' ho' hdd')
      rw [e];exact hold
   ·have:=Xf listed.toList i (hx0 hli hunf);rw [Array.toList_setIfInBounds];omega
theorem Xq {id:Nat} {a:Act} {w:World} (L N:Nat) (hL:ops.size = L + 1) (hN:a.tmps.size = N) (hm:P.follows .mixedOrders = true) (hB:Region.backB ops = true) (hD:Region.dstB ops N = true) (hP:Region.lastB ops L = true) (S:World -> Prop) (T:World -> World -> Prop) (G:Nat -> Value -> World -> Prop)
  (hG:∀ j v w w',G j v w -> T w w' -> G j v w') (hS:S w.drew) (hs:Zav F n P ops Q a S T G (ops.toList.take L) 0)
  (hlast:∀ (o:Oper) (b:Act) (u:World),ops[L]? = some o -> b.tmps.size = N -> b.defers = a.defers -> S u -> (∀ j o,ops[j]? = some o -> j < L -> G j (o.left b) u) -> (∀ k,(∀ j o,ops[j]? = some o -> j < L -> o.dst ≠ some k) -> b.tmps.getD k undef = a.tmps.getD k undef) ->
   ∀ K:Act -> World -> Prop,(∀ b' u',Q .normal b' u' -> K b' u') -> if Region.wanted o (yielded ops b.tmps) = true then Oper.wpIn F n P o b u K Q else (∀ f,o.about P u b.eval = some f -> F.fn f) /\ K (b.put o.dst undef) u) :
  (Code.region id ops true).wpIn F n P Q a w:=by
 refine wpIn_region_any hm ?_;refine QS N hN L hL hB hD hP S T G hG hs hlast _ _ _ _ hS ⟨rfl,rfl,by simp,?_,?_,fun _ _=>rfl,?_⟩ ?_
 ·intro j o ho hl;rw [Array.getD_eq_getD_getElem?,Array.getElem?_replicate] at hl;split at hl <;> simp at hl
 ·rw [Array.getD_eq_getD_getElem?,Array.getElem?_replicate];split <;> rfl
 ·intro j o ho _ hl;rw [Array.getD_eq_getD_getElem?,Array.getElem?_replicate] at hl;split at hl <;> simp at hl
 ·simp only [Array.toList_replicate,List.countP_replicate];split <;> omega
end
end Go
namespace Go.Proofs.YtlgdlenoohkipaaGreat
open Go.RowKit Ear
attribute [local go_sem] Oper.semAt_some

def XV (o:Nat) (s:List Int):Nat -> List (K4 × Int)
 | 0=>[]
 | k + 1=>Xr (XV o s k) (kOf (Jt o s k)) ((JB (XV o s k) (kOf (Jt o s k))).getD 0 + 1)
theorem ZeW {w:World} {A:Option Addr} {xs:List Value} (h:Lies w A xs) {l:Nat} {o:Obj} (o':Obj) (hl:w.heap[l]? = some o) (ho:o.isCells = false):Lies (w.putObj l o') A xs:=fun h0=>by
 obtain ⟨b,off,e,hlt,hc⟩:=h h0;exact ⟨b,off,e,by simpa using hlt,fun k u hu=>cell_kept (hc k u hu) (grownBy_putObj' w l o') (fun r e=>by cases e;exact ⟨_,hl,ho⟩)⟩
structure CnI (w0 W4:World) (bm:Nat) (o:Nat) (s:List Int) (k:Nat) (W:World):Prop where
 map:MI W bm (XV o s k)
 size:W4.heap.size <= W.heap.size
 same:∀ b,b < W4.heap.size -> b ≠ bm -> W.heap[b]? = W4.heap[b]?
 below:Below w0.heap.size w0 W
theorem CnI.below' {w0 W4:World} {bm o:Nat} {s:List Int} {k:Nat} {W W':World} (h:CnI w0 W4 bm o s k W) (hb:Below W.heap.size W W'):CnI w0 W4 bm o s k W':=
 ⟨h.map.below hb,tR h.size hb.size,fun b hlt hne=>(hb.block b (Nat.lt_of_lt_of_le hlt h.size)).trans (h.same b hlt hne),h.below.trans (hb.mono h.below.size)⟩
theorem CnI.put {w0 W4:World} {bm o:Nat} {s:List Int} {k:Nat} {W:World} (h:CnI w0 W4 bm o s k W) {l:Nat} (o':Obj) (hl:W4.heap.size <= l) (hb:bm < W4.heap.size) (h0:w0.heap.size <= W4.heap.size):CnI w0 W4 bm o s k (W.putObj l o'):=
 ⟨h.map.same (World.putObj_heap_other (by omega)),by simpa using h.size,fun b hlt hne=>(World.putObj_heap_other (by omega)).trans (h.same b hlt hne),
  ⟨h.below.os,h.below.tape,h.below.output,by simpa using h.below.size,fun b hb'=>(World.putObj_heap_other (by omega)).trans (h.below.block b hb')⟩⟩
theorem QH {o:Nat} {v:Int} {s:List Int} (ha:XI 1 v s = true) (hz:Xv o v = true) (k:Nat):∀ y ∈ Jt o s k,0 <= y /\ y <= 1000000:=fun y hy=>by
 have hv:v <= 2000:=by simp [Xv] at hz;exact hz.2
 rcases YQ hy with rfl | hy
 ·omega
 ·have:=Ya ha hy;omega
theorem ZcV {o:Nat} {v:Int} {s:List Int} (ha:XI 1 v s = true) (hz:Xv o v = true) (k:Nat):kOk (kOf (Jt o s k)):=by
 have key:∀ j i,0 <= kx (Jt o s k) j i /\ kx (Jt o s k) j i <= 1000001:=fun j i=>by
  unfold kx;split
  ·cases hq:(Jt o s k)[i]? with
   | none=>simp
   | some y=>have:=QH ha hz k y (List.mem_of_getElem? hq);simp;omega
  ·omega
 exact ⟨key _ _,key _ _,key _ _,key _ _⟩
theorem Qf {u:World} {b i:Nat} (h:i ≠ b) (o:Obj):(ChangeMaps.setBlock u b o).heap[i]? = u.heap[i]?:=by
 simp [ChangeMaps.setBlock,Ne.symm h]
theorem JG {u:World} {b:Nat} (h:b < u.heap.size) (o:Obj):(ChangeMaps.setBlock u b o).heap[b]? = some o:=by
 simp [ChangeMaps.setBlock,h]
theorem VS (o:Nat) (s:List Int):∀ (k:Nat),∀ p ∈ XV o s k,0 <= p.2 /\ p.2 <= k
 | 0=>fun p h=>by simp [XV] at h
 | k + 1=>fun p h=>by
  unfold XV at h;have ih:=VS o s k;have hb : 0 <= (JB (XV o s k) (kOf (Jt o s k))).getD 0 /\ (JB (XV o s k) (kOf (Jt o s k))).getD 0 <= k:=by
   cases hq:JB (XV o s k) (kOf (Jt o s k)) with
   | none=>simp
   | some y=>have:=ih _ (JS hq);simpa using this
  rcases XL h with rfl | h
  ·simp only;omega
  ·have:=ih p h;omega
theorem Vr (o:Nat) (s:List Int):∀ k,(XV o s k).length <= k
 | 0=>by simp [XV]
 | k + 1=>by
  unfold XV;have:=XM (XV o s k) (kOf (Jt o s k)) ((JB (XV o s k) (kOf (Jt o s k))).getD 0 + 1);have:=Vr o s k;omega
theorem ZfA {o:Nat} {v:Int} {s:List Int} (ha:XI 1 v s = true) (hz:Xv o v = true):∀ k,∀ p ∈ XV o s k,kOk p.1
 | 0=>fun p h=>by simp [XV] at h
 | k + 1=>fun p h=>by
  unfold XV at h;rcases XL h with rfl | h
  ·exact ZcV ha hz k
  ·exact ZfA ha hz k p h
theorem RetCol.form {o:Nat} {v:Int} {m:List (K4 × Int)} {w w':World} {e:Ending} (h:RetCol o v m w e w') :
  ∃ (a b:Int) (A:Option Addr) (n c:Nat) (r:Int),e = .returned (.tuple #[.agg #[.int .i64 a,.int .i64 b,.slice A n c],.int .i64 r]) /\ Below w.heap.size w w' /\
   ∀ w0 w'':World,w0.heap.size <= w.heap.size -> Below w0.heap.size w0 w'' -> w'.heap.size <= w''.heap.size -> (∀ b,BT w' b 3 ∨ BT w' b 93 /\ w.heap.size <= b -> w''.heap[b]? = w'.heap[b]?) ->
    RetCol o v m w0 (.returned (.tuple #[.agg #[.int .i64 a,.int .i64 b,.slice A n c],.int .i64 r])) w'':=by
 obtain ⟨hb,h⟩:=h;by_cases hc:Ul m = 0
 ·rw [if_pos hc] at h;obtain ⟨A,c,L,rfl,hL,hp,hs⟩:=h;refine ⟨_,_,_,_,_,_,rfl,hb,fun w0 w'' h0 hb0 hsz hk=>⟨hb0,?_⟩⟩;rw [if_pos hc];exact ⟨A,c,L,rfl,(hL.block hsz hk).le h0,hp,hs⟩
 ·rw [if_neg hc] at h;subst h;refine ⟨_,_,_,_,_,_,rfl,hb,fun w0 w'' h0 hb0 hsz hk=>⟨hb0,?_⟩⟩;rw [if_neg hc]
structure CrS (bm:Nat) (o1:Obj) (W u:World):Prop where
 grown:W.grownBy u (some bm)
 map:u.heap[bm]? = W.heap[bm]? ∨ u.heap[bm]? = some o1
theorem CrS.below {bm:Nat} {o1:Obj} {W u u':World} (h:CrS bm o1 W u) (hb:Below u.heap.size u u') (hbm:bm < W.heap.size):CrS bm o1 W u':=
 ⟨⟨hb.os.trans h.grown.os,hb.tape.trans h.grown.tape,hb.output.trans h.grown.output,tR h.grown.size hb.size,fun k hk hne=>(hb.block k (Nat.lt_of_lt_of_le hk h.grown.size)).trans (h.grown.block k hk hne)⟩,
  by rw [hb.block bm (Nat.lt_of_lt_of_le hbm h.grown.size)];exact h.map⟩
theorem JQ {bm:Nat} {W u:World} (h:W.grownBy u (some bm)) (o:Obj):W.grownBy (ChangeMaps.setBlock u bm o) (some bm):=
 ⟨h.os,h.tape,h.output,by simpa [ChangeMaps.setBlock] using h.size,fun k hk hne=>(Qf (fun e=>hne (by rw [e])) o).trans (h.block k hk hne)⟩
def CrT (bm:Nat) (o1:Obj) (u u':World):Prop:=u.heap[bm]? = some o1 -> u'.heap[bm]? = some o1
def CrG (bm o st:Nat) (g:Option Addr) (key:K4) (n:Int) (o1:Obj):Nat -> Value -> World -> Prop
 | 0,v,_=>v = .map (some bm)
 | 1,v,_=>v = .slice g o o
 | 2,v,_=>v = ek key
 | 3,v,_=>v = .int .i64 n
 | 4,v,_=>v = .int .i64 (n + 1)
 | 5,v,u=>v = .tuple #[.int .i64 n,goInt st] /\ u.heap[bm]? = some o1
 | 6,v,_=>v = goInt st
 | _,_,_=>True
theorem CrG.keeps {bm o st:Nat} {g:Option Addr} {key:K4} {n:Int} {o1:Obj} (j:Nat) (v:Value) (u u':World) (h:CrG bm o st g key n o1 j v u) (ht:CrT bm o1 u u'):CrG bm o st g key n o1 j v u':=by
 unfold CrG at h ⊢;split <;> simp_all;exact ht h.2
theorem Zbx (o:Nat) (v:Int) (A:Option Addr) (c:Nat) (x:Inn) (w:World) (h:LL w A [x]) (ho1 : 1 <= o) (ho2:o <= 4) (hz:Xv o v = true) (hs:x.2.2.length <= 500) (ha:XI 1 v x.2.2 = true) :
  Calls Tryz.prog 38 #[.int .i64 o,.int .i64 v,.slice A 1 c] w (RetCol o v (XV o x.2.2 (x.2.2.length + 1)) w):=by
 refine (callsIn_wide (n:=9)).1 ?_;refine callsIn_of_wp_marks Tryz.func38 rfl trivial ?_ rfl;simp only [Tryz.ntmps38,List.size_toArray,List.length_cons,List.length_nil,Nat.reduceAdd,Nat.reduceSub,Array.replicate_succ,Array.replicate_zero,List.push_toArray,List.append_toArray,List.nil_append,List.cons_append];obtain ⟨W0,hW0⟩:∃ W0:World,W0 = (w.alloc (.cells #[.int .i64 v] 3)).alloc (.cells #[.int .i64 0,.int .i64 0,.slice none 0 0] 27):=⟨_,rfl⟩;have hs0:W0.heap.size = w.heap.size + 2:=by rw [hW0];simp
 have HB0:Hid (Below w.heap.size w W0):=zH (by rw [hW0];exact al2 w _ _);have HV:Hid (W0.heap[w.heap.size]? = some (.cells #[.int .i64 v] 3 (0,0))):=zH (by rw [hW0];exact (Below.heap_alloc _ _ _ (by simp)).trans (heap_alloc_new w _));have HT6:Hid (W0.heap[w.heap.size + 1]? = some (.cells #[.int .i64 0,.int .i64 0,.slice none 0 0] 27 (0,0))):=zH (by rw [hW0];have:=heap_alloc_new (w.alloc (.cells #[.int .i64 v] 3)) (.cells #[.int .i64 0,.int .i64 0,.slice none 0 0] 27);simpa using this);have HLL:=zH h;clear h
 gi_wp2
 rw [<- hW0];clear hW0;refine ⟨trivial,?_⟩;refine ((callsIn_wide (n:=8)).2 (Xp 86 #[] _ A c [x] W0 (Y5 [x] W0) (HLL.out.below HB0.out) (by simp) false (zH (by simp;omega)))).mono ?_;rintro e W1 ⟨rfl,hb1⟩;have HB1:Hid (Below W0.heap.size W0 W1):=zH hb1;have hs1:W0.heap.size <= W1.heap.size:=hb1.size;have HV1:Hid (W1.heap[w.heap.size]? = some (.cells #[.int .i64 v] 3 (0,0))):=zH ((hb1.block _ (by omega)).trans HV.out);have cv1:W1.cell? ⟨w.heap.size,0,none⟩ = some (.int .i64 v):=(cR 0 HV1.out).trans rfl;have HLL1:=zH (HLL.out.below (HB0.out.trans (hb1.mono (by omega))));clear hb1
 gi_wp2
 refine ⟨trivial,?_⟩;refine ((callsIn_wide (n:=8)).2 (Zn o v W1 true (zH hz))).mono ?_;rintro e W1' ⟨rfl,rfl⟩
 gi_wp2
 refine ⟨trivial,?_⟩;refine ((callsIn_wide (n:=8)).2 (Xp 87 #[.pointer (some ⟨w.heap.size,0,none⟩)] _ A c [x] W1 (UZ [x] W1 v w.heap.size (fun y hy=>HLL1.out.inn y hy) cv1 (by omega)) HLL1.out (by simp) false (zH (by simp [ha])))).mono ?_;rintro e W2 ⟨rfl,hb2⟩;have HB2:Hid (Below W0.heap.size W0 W2):=zH (HB1.out.trans (hb2.mono hs1));have hs2:W1.heap.size <= W2.heap.size:=hb2.size;have HV2:Hid (W2.heap[w.heap.size]? = some (.cells #[.int .i64 v] 3 (0,0))):=zH ((hb2.block _ (by omega)).trans HV1.out);have HT2:Hid (W2.heap[w.heap.size + 1]? = some (.cells #[.int .i64 0,.int .i64 0,.slice none 0 0] 27 (0,0))):=zH ((HB2.out.block _ (by omega)).trans HT6.out);have HLL2:=zH (HLL1.out.below hb2);clear hb2 cv1 HV1 HLL1 HV;have hmk:∀ W:World,(Instr.makeMap 162 none).run Tryz.prog W = .ok (.map (some W.heap.size)) (W.alloc (.map #[] 0)):=fun W=>rfl
 gi_wp2
 obtain ⟨W3,hW3⟩:∃ W3:World,W3 = (W2.alloc (.map #[] 0)).alloc (.cells #[.map (some W2.heap.size)] 162):=⟨_,rfl⟩;rw [<- hW3];have hs3:W3.heap.size = W2.heap.size + 2:=by rw [hW3];simp
 have HB3:Hid (Below W2.heap.size W2 W3):=zH (by rw [hW3];exact al2 W2 _ _);have HM3:Hid (MI W3 W2.heap.size []):=zH (by rw [hW3];exact (MapIs.made Tryz.prog 166 ek (Value.int .i64) W2).below (bR.alloc nR _));have HX3:Hid (W3.heap[W2.heap.size + 1]? = some (.cells #[.map (some W2.heap.size)] 162 (0,0))):=zH (by rw [hW3];have:=heap_alloc_new (W2.alloc (.map #[] 0)) (.cells #[.map (some W2.heap.size)] 162);simpa using this);have HLL3:=zH (HLL2.out.below HB3.out);clear hW3 hmk;obtain ⟨bk,off,eA,hbk,hc⟩:=HLL3.out.lies.lat (k:=0) (by simp);cases eA;refine wpIn_loop_rounds 2 ?_;rw [Code.roundsIn];have hc0:W3.cell? ⟨bk,off,none⟩ = some (.slice x.1 x.2.2.length x.2.1):=hc;clear hc;have HX:=zH (HLL3.out.inn x (by simp))
 gi_wp2
 refine ⟨trivial,?_⟩;refine ((callsIn_wide (n:=8)).2 (Zfe o x.1 x.2.2.length x.2.1 W3)).mono ?_;rintro e W4 ⟨rfl,hW4⟩;have hs4:W4.heap.size = W3.heap.size + 2:=by rw [hW4];simp
 have HB4:Hid (Below W3.heap.size W3 W4):=zH (by rw [hW4];exact al2 W3 _ _);have hO4:W4.heap[W3.heap.size]? = some (.cells #[.int .i64 o] 3 (0,0)):=by rw [hW4];exact (Below.heap_alloc _ _ _ (by simp)).trans (heap_alloc_new W3 _)
 have hS4:W4.heap[W3.heap.size + 1]? = some (.cells #[.slice x.1 x.2.2.length x.2.1] 35 (0,0)):=by rw [hW4];have:=heap_alloc_new (W3.alloc (.cells #[.int .i64 o] 3)) (.cells #[.slice x.1 x.2.2.length x.2.1] 35);simpa using this
 have HO4:Hid (W4.cell? ⟨W2.heap.size + 2,0,none⟩ = some (.int .i64 o)):=zH (by rw [<- hs3];exact (cR 0 hO4).trans rfl);have HS4:Hid (W4.cell? ⟨W2.heap.size + 2 + 1,0,none⟩ = some (.slice x.1 x.2.2.length x.2.1)):=zH (by rw [<- hs3];exact (cR 0 hS4).trans rfl);have HX4:=zH (HX.out.below HB4.out);have HM4:=zH (HM3.out.below HB4.out);have HW4:Hid (Below w.heap.size w W4):=zH ((HB0.out.trans (HB2.out.mono (by omega))).trans ((HB3.out.mono (by omega)).trans (HB4.out.mono (by omega))));have HBX4:Hid (W4.heap[W2.heap.size + 1]? = some (.cells #[.map (some W2.heap.size)] 162 (0,0))):=zH ((HB4.out.block _ (by omega)).trans HX3.out);have HV4:Hid (W4.heap[w.heap.size]? = some (.cells #[.int .i64 v] 3 (0,0))):=zH ((HB4.out.block _ (by omega)).trans ((HB3.out.block _ (by omega)).trans HV2.out));have HT4:Hid (W4.heap[w.heap.size + 1]? = some (.cells #[.int .i64 0,.int .i64 0,.slice none 0 0] 27 (0,0))):=zH ((HB4.out.block _ (by omega)).trans ((HB3.out.block _ (by omega)).trans HT2.out));clear hW4 hO4 hS4 HX3 HM3 HV2 HT2 HB4 HB3 HB2 HB1 HB0 HLL HLL2 HLL3 HX hc0
 gi_wp2
 refine Zd2 (w:=W4) rfl (by decide) (gf:=140) (lb:=#[.pointer (some ⟨W2.heap.size + 2,0,none⟩),.pointer (some ⟨W2.heap.size + 2 + 1,0,none⟩)]) rfl trivial (enters_of Tryz.func140 (by kernel_rfl) rfl)
   (x.2.2.length + 1) (CnI w W4 W2.heap.size o x.2.2) (GmX o x.2.2) KpC (fun h k=>KpC.trans h k) ?hKb rfl ?hIb ?hIp ?hXp ?h0 ?hseq ?hround ?hdone
 case hKb=>exact fun W l o o' hl ho hc=>KpC.put W l o o' ho (fun cs t fr e=>by subst e;cases hc)
 case hIb=>exact fun k W W' hi _ hb=>hi.below' hb
 case hIp=>exact fun k W l o o' hl ho hc hi=>hi.put o' hl (by omega) (by have:=HW4.out.size;omega)
 case hXp=>
  rintro k v W l o o' hl ho hc ⟨g,rfl,hw⟩;exact ⟨g,rfl,ZeW hw o' ho hc⟩
 case h0=>exact ⟨HM4.out,Nat.le_refl _,fun _ _ _=>rfl,HW4.out⟩
 case hseq=>
  intro l J W hW hJb hJ0 hY;exact Zff l (W2.heap.size + 2) (W2.heap.size + 2 + 1) x.1 x.2.1 x.2.2 o ho1 ho2 hs (fun e=>(HX4.out.2.1 e).1) J hJb (zH hY) W ((hW.cell (p:=⟨W2.heap.size + 2,0,none⟩) (by show W2.heap.size + 2 < _;omega)).trans HO4.out) ((hW.cell (p:=⟨W2.heap.size + 2 + 1,0,none⟩) (by show W2.heap.size + 2 + 1 < _;omega)).trans HS4.out) (HX4.out.1.below hW) hJ0
 case hround=>
  rintro l k u W W5 ⟨hm,hz5,hkp,hbel⟩ ⟨g,rfl,hg⟩ hkN;have HM:=zH hm;have HKP:=zH hkp;have HBE:=zH hbel;have HG:=zH hg;clear hm hkp hbel hg;obtain ⟨key,hkey⟩:∃ key,key = kOf (Jt o x.2.2 k):=⟨_,rfl⟩;obtain ⟨lk,hlk⟩:=UL key (by rw [hkey];exact ZcV ha hz k);obtain ⟨st,o1,hmo,hE,hF⟩:=HM.out.entry2 (t:=162) (e:=3) Xn YR Tryz.underlying162 (z:=0) (fun u=>Tryz.zeroValue3 u) key hlk;obtain ⟨n0,hn0⟩:∃ n0,n0 = (JB (XV o x.2.2 k) key).getD 0:=⟨_,rfl⟩;have hn1 : 0 <= n0 /\ n0 <= k:=by
   rw [hn0];cases hq:JB (XV o x.2.2 k) key with
   | none=>simp
   | some y=>have:=VS o x.2.2 k _ (JS hq);simpa using this
  rw [<- hn0] at hE;have HN0:=zH hn0;have HKEY:=zH hkey;have p1:IntKind.i64.wrap (n0 + 1) = n0 + 1:=IntWalk.i64_in _ (by omega);clear hn0 hkey
  gi_wp2
  refine ⟨by trivial,?_⟩;refine wpIn_block ?_;refine Xq 7 50 rfl rfl (by kernel_rfl) (by kernel_rfl) (by kernel_rfl) (by kernel_rfl) (CrS W2.heap.size o1 W5) (CrT W2.heap.size o1) (CrG W2.heap.size o st g key n0 o1) CrG.keeps ⟨⟨rfl,rfl,rfl,Nat.le_refl _,fun _ _ _=>rfl⟩,.inl rfl⟩ ?_ ?_
  ·have hcX:∀ u,CrS W2.heap.size o1 W5 u -> u.cell? ⟨W2.heap.size + 1,0,none⟩ = some (.map (some W2.heap.size)):=fun u hu=>
    (cR 0 ((hu.grown.block (W2.heap.size + 1) (by omega) (by intro e;injection e with e;omega)).trans ((HKP.out _ (by omega) (by omega)).trans HBX4.out))).trans rfl
   have hWs:W2.heap.size < W5.heap.size:=(by omega);have hKp:∀ u,CrS W2.heap.size o1 W5 u -> KpC W5 u:=fun u hu=>⟨hu.grown.size,fun b cs t fr e=>(hu.grown.block b (aE e).1 (by
    intro e2;injection e2 with e2
    subst e2;obtain ⟨es,c,h1,_⟩:=HM.out.block;rw [h1] at e;cases e)).trans e⟩
   have HGL:Hid ((Jt o x.2.2 k).length = o):=zH (JY ho1 hkN);refine ⟨?_,?_,?_,?_,?_,?_,?_,trivial⟩
   ·intro b u su dp kp K hK;have e8:gT b 8 = .pointer (some ⟨W2.heap.size + 1,0,none⟩):=kp 8 (by kernel_rfl);have cX:=hcX u su;go_simp;exact hK _ _ su (fun h=>h) rfl
   ·intro b u su dp kp K hK;have e11:gT b 11 = .slice g o o:=kp 11 (by kernel_rfl);go_simp;exact hK _ _ su (fun h=>h) rfl
   ·intro b u su dp kp K hK;have e37:gT b 37 = .slice g o o:=dp 1 _ rfl (by kernel_rfl);go_simp;have hk9:=Vh g o (Jt o x.2.2 k) u ((hKp u su).lies HG.out) (by rw [HGL.out];omega) (zH (QH ha hz k));rw [HGL.out,<- HKEY.out] at hk9;refine ⟨trivial,(CallsIn.inRound l ((callsIn_wide (n:=6)).2 hk9)).mono ?_⟩;rintro e u' ⟨rfl,hb'⟩;go_simp;exact hK _ _ (su.below hb' (by omega)) (fun h=>(hb'.block _ (by have:=su.grown.size;omega)).trans h) rfl
   ·intro b u su dp kp K hK;have e36:gT b 36 = .map (some W2.heap.size):=dp 0 _ rfl (by kernel_rfl);have e38:gT b 38 = ek key:=dp 2 _ rfl (by kernel_rfl);have h1:=(hE u su.map).1;go_simp;exact hK _ _ su (fun h=>h) rfl
   ·intro b u su dp kp K hK;have e39:gT b 39 = .int .i64 n0:=dp 3 _ rfl (by kernel_rfl);go_simp;exact hK _ _ su (fun h=>h) rfl
   ·intro b u su dp kp K hK;have e36:gT b 36 = .map (some W2.heap.size):=dp 0 _ rfl (by kernel_rfl);have e38:gT b 38 = ek key:=dp 2 _ rfl (by kernel_rfl);have h1:=(hE u su.map).2;go_simp;have hlt:W2.heap.size < u.heap.size:=(by have:=su.grown.size;omega);exact hK _ _ ⟨JQ su.grown o1,.inr (JG hlt o1)⟩ (fun _=>JG hlt o1) ⟨rfl,JG hlt o1⟩
   ·intro b u su dp kp K hK;obtain ⟨e41,h41⟩:gT b 41 = .tuple #[.int .i64 n0,goInt st] /\ u.heap[W2.heap.size]? = some o1:=dp 5 _ rfl (by kernel_rfl);go_simp;exact hK _ _ su (fun h=>h) rfl
  ·intro o' b u ho hsz hdf su hG kp K hK;injection ho with ho
   subst ho;have e36:gT b 36 = .map (some W2.heap.size):=hG 0 _ rfl (by omega);have e40:gT b 40 = .int .i64 (n0 + 1):=hG 4 _ rfl (by omega);have e42:gT b 42 = goInt st:=hG 6 _ rfl (by omega);obtain ⟨_,h41⟩:gT b 41 = .tuple #[.int .i64 n0,goInt st] /\ u.heap[W2.heap.size]? = some o1:=hG 5 _ rfl (by omega);obtain ⟨o2,_,h1,h2⟩:=hF u (n0 + 1) h41;have hlt:W2.heap.size < u.heap.size:=(by have:=su.grown.size;omega);have hg2:=JQ su.grown o2;have hm2:=h2 _ (JG hlt o2);have h1':(Instr.entryStore 162 (.map (some W2.heap.size)) (.int .i64 (st:Int)) (.int .i64 (n0 + 1))).run Tryz.prog u = .ok () (ChangeMaps.setBlock u W2.heap.size o2):=h1;clear h2 hG kp h1;go_simp;refine hK _ _ ⟨KeepsFrom.of_grownBy hg2 (fun j e=>by injection e with e;omega),⟨hg2.size,fun b cs t fr e=>(hg2.block b (aE e).1 (by
    intro e2;injection e2 with e2
    subst e2;obtain ⟨es,c,q1,_⟩:=HM.out.block;rw [q1] at e;cases e)).trans e⟩,⟨?_,tR hz5 hg2.size,fun b hb hne=>(hg2.block b (by omega) (by intro e;injection e with e;omega)).trans (HKP.out b hb hne),HBE.out.grown hg2 HBE.out.size (fun j e=>by injection e with e;omega)⟩⟩
   have e9:XV o x.2.2 (k + 1) = Xr (XV o x.2.2 k) key (n0 + 1):=(by rw [HN0.out,HKEY.out];rfl);rw [e9];exact hm2
 case hdone=>
  rintro D W hD ⟨hm,hz5,hkp,hbel⟩ hK;have HM:=zH hm;have HBE:=zH hbel;have HK:=zH hK;have hDW:D < W.heap.size:=(aE hK).1;have cV:W.cell? ⟨w.heap.size,0,none⟩ = some (.int .i64 v):=(cR 0 ((hkp _ (by omega) (by omega)).trans HV4.out)).trans rfl;have cX:W.cell? ⟨W2.heap.size + 1,0,none⟩ = some (.map (some W2.heap.size)):=(cR 0 ((hkp _ (by omega) (by omega)).trans HBX4.out)).trans rfl;have HT:Hid (W.heap[w.heap.size + 1]? = some (.cells #[.int .i64 0,.int .i64 0,.slice none 0 0] 27 (0,0))):=zH ((hkp _ (by omega) (by omega)).trans HT4.out);clear hm hkp hbel hK
  gi_wp2
  rw [Code.roundsIn]
  gi_wp2
  refine ⟨trivial,?_⟩;refine ((callsIn_wide (n:=8)).2 (Vp o v W2.heap.size (XV o x.2.2 (x.2.2.length + 1)) W HM.out ho1 ho2 (by have:=Vr o x.2.2 (x.2.2.length + 1);omega) (zH (ZfA ha hz _)) (zH (fun p hp=>by have:=VS o x.2.2 _ p hp;omega)))).mono ?_;intro e w' hret;obtain ⟨ta,tb,tA,tn,tc,tr,rfl,hbw,hmv⟩:=hret.form;have HMV:=zH hmv;have HBW:=zH hbw;have HT':Hid (w'.heap[w.heap.size + 1]? = some (.cells #[.int .i64 0,.int .i64 0,.slice none 0 0] 27 (0,0))):=zH ((hbw.block _ (by omega)).trans HT.out);have HK':Hid (w'.heap[D]? = some (.deferred (some []))):=zH ((hbw.block _ hDW).trans HK.out);clear hret hmv hbw;have d0:=(cR 0 HT'.out).trans rfl;have d1:=(cR 1 HT'.out).trans rfl;have d2:=(cR 2 HT'.out).trans rfl;have f0:=Jl HT'.out 0;have f1:=Jl HT'.out 1;have f2:=Jl HT'.out 2
  gi_wp2
  have hD2:w.heap.size + 2 <= D:=by omega
  have hr6:=ZaV HT'.out (.int .i64 ta) (.int .i64 tb) (.slice tA tn tc);have hD7:(((w'.setCell ⟨w.heap.size + 1,0,none⟩ (.int .i64 ta)).setCell ⟨w.heap.size + 1,1,none⟩ (.int .i64 tb)).setCell ⟨w.heap.size + 1,2,none⟩ (.slice tA tn tc)).heap[D]? = some (.deferred (some [])):=(JR (by omega) _ _ _).trans HK'.out;have hb7:Below w.heap.size w (((w'.setCell ⟨w.heap.size + 1,0,none⟩ (.int .i64 ta)).setCell ⟨w.heap.size + 1,1,none⟩ (.int .i64 tb)).setCell ⟨w.heap.size + 1,2,none⟩ (.slice tA tn tc)):=
   (((HBE.out.trans (HBW.out.mono HBE.out.size)).setCell (by simp) _).setCell (by simp) _).setCell (by simp) _
  have hblk:∀ b,BT w' b 3 ∨ BT w' b 93 /\ W.heap.size <= b -> (((w'.setCell ⟨w.heap.size + 1,0,none⟩ (.int .i64 ta)).setCell ⟨w.heap.size + 1,1,none⟩ (.int .i64 tb)).setCell ⟨w.heap.size + 1,2,none⟩ (.slice tA tn tc)).heap[b]? = w'.heap[b]?:=fun b hb=>JR (by
   rcases hb with hb | hb
   ·exact hb.ne ⟨_,_,HT'.out⟩ (by decide)
   ·exact hb.1.ne ⟨_,_,HT'.out⟩ (by decide)) _ _ _
  have hdb:∀ b,BT w' b 3 ∨ BT w' b 93 /\ W.heap.size <= b -> b ≠ D:=fun b hb e=>by
   subst e;rcases hb with ⟨cs,fz,hb⟩ | ⟨⟨cs,fz,hb⟩,_⟩ <;> rw [HK'.out] at hb <;> cases hb
  have hsz7:w'.heap.size <= (((w'.setCell ⟨w.heap.size + 1,0,none⟩ (.int .i64 ta)).setCell ⟨w.heap.size + 1,1,none⟩ (.int .i64 tb)).setCell ⟨w.heap.size + 1,2,none⟩ (.slice tA tn tc)).heap.size:=by simp [World.setCell]
  generalize (((w'.setCell ⟨w.heap.size + 1,0,none⟩ (.int .i64 ta)).setCell ⟨w.heap.size + 1,1,none⟩ (.int .i64 tb)).setCell ⟨w.heap.size + 1,2,none⟩ (.slice tA tn tc)) = V7 at *
  refine ⟨by simp,.inl ⟨_,_,rfl,run_takeDeferred hD7,?_⟩⟩;have hrow:∀ o',(V7.putObj D o').heap[w.heap.size + 1]? = some (.cells #[.int .i64 ta,.int .i64 tb,.slice tA tn tc] 27 (0,0)):=fun o'=>(World.putObj_heap_other (by omega)).trans hr6;have g0:=fun o'=>(cR 0 (hrow o')).trans rfl;have g1:=fun o'=>(cR 1 (hrow o')).trans rfl;have g2:=fun o'=>(cR 2 (hrow o')).trans rfl;refine ⟨.tuple #[.agg #[.int .i64 ta,.int .i64 tb,.slice tA tn tc],.int .i64 tr],by simp [results,Tryz.results38,go_sem,g0,g1,g2],?_⟩;refine HMV.out w _ (by have:=HBE.out.size;omega) ⟨hb7.os,hb7.tape,hb7.output,by simpa using hb7.size,fun b hb=>(World.putObj_heap_other (by omega)).trans (hb7.block b hb)⟩ (by simpa using hsz7) (fun b hb=>(World.putObj_heap_other (hdb b hb)).trans (hblk b hb))
end Go.Proofs.YtlgdlenoohkipaaGreat
