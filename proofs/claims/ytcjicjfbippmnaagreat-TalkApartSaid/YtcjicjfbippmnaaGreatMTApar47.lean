/- a part of TalkApart -/
import Derived.Test.YtcjicjfbippmnaaGreatMTApar2
import Derived.Test.YtcjicjfbippmnaaGreatMTApar15
import Derived.Test.YtcjicjfbippmnaaGreatMTApar3
import Derived.ChangeArms
import Derived.Carry
import Derived.OpenShut
import Derived.ProofKit
set_option maxRecDepth 100000
set_option maxHeartbeats 32000000
namespace Go.Proofs.YtcjicjfbippmnaaGreat
open Go.RowKit Go.WideShapes

def Rd {H:Type} (enc:TypeId × Value -> H) (P:Program) (w:World) (t:TypeId) (cs:List Value):Prop:=
 ∃ fuel x,DataW.trod enc P w 0 (fun _=>true) true fuel t cs = some x

section
variable {α:Type} {H:Type} {enc:TypeId × Value -> H} {P:Program} {w:World} {t e:TypeId} {cs:List Value}

theorem Rd.of {v:Value} {d:DataW H} {p:List MemPlace} (h:DataW.Trod enc P w 0 (fun _=>true) true t v d p):Rd enc P w t v.cells.toList:=by
 obtain ⟨fuel,hf⟩:=h
 exact ⟨fuel,_,hf⟩
theorem Rd.int {k:IntKind} (ht:P.underlying t = some (.int k)) (h:Rd enc P w t cs):∃ n,cs = [.int k n] /\ k.min <= n /\ n <= k.max:=by
 obtain ⟨fuel,x,hf⟩:=h
 cases fuel with
 | zero=>simp [DataW.trod] at hf
 | succ f=>
  unfold DataW.trod at hf
  rw [ht] at hf
  split at hf <;> simp_all
  rename_i h1
  obtain ⟨⟨rfl,hw⟩,_⟩:=hf
  subst h1
  simpa [Lit.wf] using hw
theorem Rd.bool (ht:P.underlying t = some .bool) (h:Rd enc P w t cs):∃ b,cs = [.bool b]:=by
 obtain ⟨fuel,x,hf⟩:=h
 cases fuel with
 | zero=>simp [DataW.trod] at hf
 | succ f=>
  unfold DataW.trod at hf
  rw [ht] at hf
  split at hf <;> simp_all
theorem Rd.struct {fs:Array Field} (ht:P.underlying t = some (.struct fs)) (h:Rd enc P w t cs) :
  cs.length = P.cellsOf t /\ ∀ (i:Nat) (f:Field),fs[i]? = some f -> Rd enc P w f.type ((cs.drop f.offset).take (P.cellsOf f.type)):=by
 obtain ⟨fuel,x,hf⟩:=h
 obtain ⟨xs,n,_,_,hl,hlen,hall⟩:=DataW.trod_struct ht hf
 refine ⟨hl,fun i f hi=>?_⟩
 have h1:i < xs.length:=by rw [hlen];exact (Array.getElem?_eq_some_iff.1 hi).1
 exact ⟨n,xs[i],(hall i f hi).trans (List.getElem?_eq_getElem h1)⟩
theorem chunk {elem : α -> List Value} {S:Nat}:∀ (l:List α) (a:Addr),(∀ i x,l[i]? = some x -> (elem x).length = S /\ ∀ j,j < S -> w.cell? (a.add (i * S + j)) = (elem x)[j]?) ->
  ∀ k u,(l.flatMap elem)[k]? = some u -> w.cell? (a.add k) = some u:=by
 intro l
 induction l with
 | nil=>intro a _ k u h;simp at h
 | cons x xs ih=>
  intro a h k u hk
  obtain ⟨h1,h2⟩:=h 0 x rfl
  rw [List.flatMap_cons,List.getElem?_append] at hk
  split at hk <;> rename_i hlt
  ·rw [h1] at hlt
   have:=h2 k hlt
   rw [Nat.zero_mul,Nat.zero_add,hk] at this
   exact this
  ·rw [h1] at hk hlt
   have h3:=ih (a.add S) (fun i y hy=>by
    obtain ⟨g1,g2⟩:=h (i + 1) y (by simpa using hy)
    refine ⟨g1,fun j hj=>?_⟩
    rw [Addr.add_add,<- g2 j hj]
    congr 2
    rw [Nat.succ_mul];omega) (k - S) u hk
   rw [Addr.add_add] at h3
   rwa [show S + (k - S) = k by omega] at h3

theorem Rd.slice {α:Type} {S:Nat} (ht:P.underlying t = some (.slice e)) (hS:P.cellsOf e = S) (elem : α -> List Value) (Pr : α -> Prop)
  (he:∀ cs,Rd enc P w e cs -> ∃ a,cs = elem a /\ Pr a) (h:Rd enc P w t cs) :
  ∃ A c,∃ l:List α,cs = [.slice A l.length c] /\ Lies w A (l.flatMap elem) /\ (A = none -> c = 0 /\ l = []) /\ l.length <= 9223372036854775807 /\ l.length <= c /\ (∀ a ∈ l,Pr a):=by
 obtain ⟨fuel,x,hf⟩:=h
 rcases DataW.trod_slice ht hf with ⟨rfl,_⟩ | ⟨a,len,cap,elems,rest,n,_,rfl,_,_,hl,hm,hlen,hel,_,_⟩
 ·exact ⟨none,0,[],rfl,Lies.nil _ _,fun _=>⟨rfl,rfl⟩,by simp,by simp,by simp⟩
 ·have key:∀ i,i < len -> ∃ y,Pr y /\ (elem y).length = S /\ ∀ j,j < S -> w.cell? (a.add (i * S + j)) = (elem y)[j]?:=by
   intro i hi
   have h1:=hel i hi
   rw [List.getElem?_eq_getElem (by omega)] at h1
   obtain ⟨es,h2,h3⟩:=Option.bind_eq_some_iff.1 h1
   obtain ⟨y,rfl,hy⟩:=he es ⟨n,_,h3⟩
   obtain ⟨_,h4,h5⟩:=World.cells?_some h2
   rw [hS] at h4 h5
   refine ⟨y,hy,h4,fun j hj=>?_⟩
   rw [<- h5 j hj,Addr.add_add]
  have pick:∀ m,m <= len -> ∃ l:List α,l.length = m /\ ∀ i y,l[i]? = some y -> Pr y /\ (elem y).length = S /\ ∀ j,j < S -> w.cell? (a.add (i * S + j)) = (elem y)[j]?:=by
   intro m
   induction m with
   | zero=>intro _;exact ⟨[],rfl,fun i y hy=>by simp at hy⟩
   | succ m ih=>
    intro hm'
    obtain ⟨l,hl1,hl2⟩:=ih (by omega)
    obtain ⟨y,hy⟩:=key m (by omega)
    refine ⟨l ++ [y],by simp [hl1],fun i z hz=>?_⟩
    rw [List.getElem?_append] at hz
    split at hz
    ·exact hl2 i z hz
    ·rename_i hge
     have hi:i = m:=by
      have:=(List.getElem?_eq_some_iff.1 hz).1
      simp at this;omega
     subst hi
     rw [hl1,Nat.sub_self] at hz
     simp at hz
     subst hz
     exact hy
  obtain ⟨l,hll,hg⟩:=pick len (Nat.le_refl _)
  refine ⟨some a,cap,l,by rw [hll],fun h0=>?_,fun h=>by simp at h,?_,by omega,fun y hy=>?_⟩
  ·have hc:=chunk (w:=w) l a (fun i x hx=>(hg i x hx).2)
   obtain ⟨u,hu⟩:∃ u,(l.flatMap elem)[0]? = some u:=⟨_,List.getElem?_eq_getElem h0⟩
   have h1:=hc 0 u hu
   obtain ⟨b,off,sp⟩:=a
   have hsp:sp = none:=by
    cases sp with
    | none=>rfl
    | some q=>
     exfalso
     simp [Addr.add,World.cell?] at h1
     split at h1 <;> simp_all
   subst hsp
   refine ⟨b,off,rfl,?_,fun k u hk=>?_⟩
   ·apply Decidable.byContradiction
    intro hb
    simp [Addr.add,World.cell?,hb] at h1
   ·have:=hc k u hk
    rwa [Addr.add_lit] at this
  ·rw [hll];unfold maxLen at hm;omega
  ·obtain ⟨i,hi,rfl⟩:=List.getElem_of_mem hy
   exact (hg i _ (List.getElem?_eq_getElem hi)).1
theorem Rd.ints (ht:P.underlying t = some (.slice e)) (he:P.underlying e = some (.int .i64)) (hc:P.cellsOf e = 1) (h:Rd enc P w t cs) :
  ∃ A c l,cs = [.slice A l.length c] /\ Lies w A (ics l) /\ (A = none -> c = 0 /\ l = []) /\ l.length <= 9223372036854775807 /\ l.length <= c /\ (∀ x ∈ l,-9223372036854775808 <= x /\ x <= 9223372036854775807):=by
 obtain ⟨A,c,l,h1,h2,h3⟩:=h.slice ht hc (fun n=>[Value.int .i64 n]) (fun n=>-9223372036854775808 <= n /\ n <= 9223372036854775807) (fun cs hcs=>hcs.int he)
 refine ⟨A,c,l,h1,?_,h3⟩
 have:(l.flatMap fun n=>[Value.int .i64 n]) = ics l:=by
  clear h1 h2 h3
  induction l with
  | nil=>rfl
  | cons x xs ih=>rw [List.flatMap_cons,ih];rfl
 rwa [this] at h2
variable {v:Value} {d:DataW H} {p:List MemPlace} {r:Reach} {b0:Nat}
theorem op_int (ht:P.underlying t = some (.int .i64)) (hv:Value.okWide P w r b0 t v) (h:DataW.Trod enc P w 0 (fun _=>true) true t v d p):∃ n,v = .int .i64 n /\ -9223372036854775808 <= n /\ n <= 9223372036854775807:=by
 obtain ⟨n,rfl⟩:=okWide_int ht hv
 obtain ⟨m,hm,h2⟩:=(Rd.of h).int ht
 simp [Value.cells] at hm
 subst hm
 exact ⟨n,rfl,h2⟩
theorem flat_one {k:IntKind} (l:List Int):(l.flatMap fun n=>[Value.int k n]) = l.map (Value.int k):=by
 induction l with
 | nil=>rfl
 | cons x xs ih=>rw [List.flatMap_cons,ih];rfl
theorem flat_inn (l:List Inn):(l.flatMap fun x:Inn=>[Value.slice x.1 x.2.2.length x.2.1]) = lcs l:=by
 induction l with
 | nil=>rfl
 | cons x xs ih=>rw [List.flatMap_cons,ih];rfl
theorem op_struct {fs:Array Field} {n:Nat} (ht:P.underlying t = some (.struct fs)) (hC:P.cellsOf t = n) (hv:Value.okWide P w r b0 t v) (h:DataW.Trod enc P w 0 (fun _=>true) true t v d p) :
  ∃ cs:List Value,v = .agg cs.toArray /\ cs.length = n /\ ∀ (i:Nat) (f:Field),fs[i]? = some f -> Rd enc P w f.type ((cs.drop f.offset).take (P.cellsOf f.type)):=by
 obtain ⟨cs,rfl,hs⟩:=okWide_struct ht hv
 have h1:=(Rd.of h).struct ht
 refine ⟨cs.toList,by simp,by rw [<- hC,<- hs];simp,?_⟩
 simpa [Value.cells] using h1.2
end
end Go.Proofs.YtcjicjfbippmnaaGreat
namespace Go.Proofs.YtcjicjfbippmnaaGreat
open Go.RowKit Go.WideShapes Ear

section
variable {H:Type} {enc:TypeId × Value -> H} {P:Program} {w:World} {t e:TypeId} {cs:List Value} {v:Value} {d:DataW H} {p:List MemPlace} {r:Reach} {b0:Nat}
theorem Rd.dg (ht:P.underlying t = some (.slice e)) (he:P.underlying e = some (.int .u32)) (hc:P.cellsOf e = 1) (h:Rd enc P w t cs) :
  ∃ A c,∃ l:List Int,cs = [.slice A l.length c] /\ Dg w A c l /\ l.length <= 9223372036854775807:=by
 obtain ⟨A,c,l,h1,h2,h3,h4,h5,h6⟩:=h.slice ht hc (fun n=>[Value.int .u32 n]) (fun n=>0 <= n /\ n <= 4294967295) (fun cs hcs=>hcs.int he)
 rw [flat_one] at h2
 exact ⟨A,c,l,h1,⟨h2,h6,h5,fun hA=>(h3 hA).1⟩,h4⟩
theorem op_frac {f0 f1 f2:Field} (ht:P.underlying t = some (.struct #[f0,f1,f2])) (hC:P.cellsOf t = 3) (o0:f0.offset = 0) (o1:f1.offset = 1) (o2:f2.offset = 2) (u0:P.underlying f0.type = some .bool) (k0:P.cellsOf f0.type = 1)
  (u1:P.underlying f1.type = some (.slice e)) (k1:P.cellsOf f1.type = 1) (he:P.underlying e = some (.int .u32)) (ke:P.cellsOf e = 1) (u2:P.underlying f2.type = some (.slice e)) (k2:P.cellsOf f2.type = 1)
  (hv:Value.okWide P w r b0 t v) (h:DataW.Trod enc P w 0 (fun _=>true) true t v d p) :
  ∃ x:Fr,v = x.val /\ FrOk w x /\ x.N.length <= 9223372036854775807 /\ x.D.length <= 9223372036854775807:=by
 obtain ⟨cs,rfl,hl,hf⟩:=op_struct ht hC hv h
 match cs,hl with
 | [a,b,c],_=>
  have q0:=hf 0 f0 rfl
  have q1:=hf 1 f1 rfl
  have q2:=hf 2 f2 rfl
  rw [o0,k0] at q0
  rw [o1,k1] at q1
  rw [o2,k2] at q2
  obtain ⟨n,e0⟩:=q0.bool u0
  obtain ⟨A,cA,N,e1,h1,l1⟩:=q1.dg u1 he ke
  obtain ⟨B,cB,D,e2,h2,l2⟩:=q2.dg u2 he ke
  simp at e0 e1 e2
  subst e0 e1 e2
  exact ⟨⟨n,A,cA,N,B,cB,D⟩,rfl,⟨h1,h2⟩,l1,l2⟩
theorem Rd.grp {e':TypeId} (ht:P.underlying t = some (.slice e)) (he:P.underlying e = some (.slice e')) (he':P.underlying e' = some (.int .i64)) (hc:P.cellsOf e = 1) (hc':P.cellsOf e' = 1) (h:Rd enc P w t cs) :
  ∃ g:Grp,cs = [.slice g.1 g.2.2.length g.2.1] /\ (LL w g.1 g.2.2 /\ (g.1 = none -> g.2.1 = 0) /\ g.2.2.length <= 9223372036854775807):=by
 obtain ⟨A,c,l,h1,h2,h3,h4,h5,h6⟩:=h.slice ht hc (fun x:Inn=>[Value.slice x.1 x.2.2.length x.2.1]) (InOk w) (fun cs hcs=>by
  obtain ⟨A,c,l,rfl,q⟩:=hcs.ints he he' hc'
  exact ⟨(A,c,l),rfl,q⟩)
 rw [flat_inn] at h2
 exact ⟨(A,c,l),h1,⟨h2,h6⟩,fun hA=>(h3 hA).1,h4⟩
theorem flat_grp (l:List Grp):(l.flatMap fun g:Grp=>[Value.slice g.1 g.2.2.length g.2.1]) = gcs l:=by
 induction l with
 | nil=>rfl
 | cons x xs ih=>rw [List.flatMap_cons,ih];rfl
theorem op_grps {e1 e':TypeId} (ht:P.underlying t = some (.slice e1)) (h1:P.underlying e1 = some (.slice e)) (he:P.underlying e = some (.slice e')) (he':P.underlying e' = some (.int .i64)) (hc1:P.cellsOf e1 = 1) (hc:P.cellsOf e = 1) (hc':P.cellsOf e' = 1) (hv:Value.okWide P w r b0 t v) (h:DataW.Trod enc P w 0 (fun _=>true) true t v d p) :
  ∃ A c,∃ G:List Grp,v = .slice A G.length c /\ GG w A G /\ (A = none -> c = 0 /\ G = []) /\ G.length <= 9223372036854775807 /\ (∀ g ∈ G,g.1 = none -> g.2.1 = 0) /\ (∀ g ∈ G,g.2.2.length <= 9223372036854775807):=by
 obtain ⟨A',n',c',rfl⟩:=okWide_slice ht hv
 obtain ⟨A,c,G,h1,h2,h3,h4,h5,h6⟩:=(Rd.of h).slice ht hc1 (fun g:Grp=>[Value.slice g.1 g.2.2.length g.2.1]) (fun g=>LL w g.1 g.2.2 /\ (g.1 = none -> g.2.1 = 0) /\ g.2.2.length <= 9223372036854775807) (fun cs hcs=>hcs.grp h1 he he' hc hc')
 rw [flat_grp] at h2
 simp [Value.cells] at h1
 obtain ⟨rfl,rfl,rfl⟩:=h1
 exact ⟨A',c',G,rfl,⟨h2,fun g hg=>(h6 g hg).1⟩,h3,h4,fun g hg=>(h6 g hg).2.1,fun g hg=>(h6 g hg).2.2⟩
end
end Go.Proofs.YtcjicjfbippmnaaGreat
