/- TalkGrounds -/
import Derived.Test.YtcjicjfbippmnaaGreatMTGrou23
import Derived.OpenShut
import Derived.ProofKit
set_option maxRecDepth 100000
set_option maxHeartbeats 32000000
namespace Go.Proofs.YtcjicjfbippmnaaGreat
open Go.RowKit Go.WideShapes

def Rd {H:Type} (enc:TypeId × Value -> H) (P:Program) (w:World) (t:TypeId) (cs:List Value):Prop:=
 ∃ fuel x,DataW.trod enc P w 0 (fun _=>true) true fuel t cs = some x

section
variable {α:Type} {H:Type} {enc:TypeId × Value -> H} {P:Program} {w:World} {t e:TypeId} {cs:List Value}

theorem Rd.of {v:Value} {d:DataW H} {p:List MemPlace} (h:DataW.Trod enc P w 0 (fun _=>true) true t v d p):Rd enc P w t v.cells.toList:=by
 obtain ⟨fuel,hf⟩:=h
 exact ⟨fuel,_,hf⟩
theorem Rd.int {k:IntKind} (ht:P.underlying t = some (.int k)) (h:Rd enc P w t cs):∃ n,cs = [.int k n] /\ k.min <= n /\ n <= k.max:=by
 obtain ⟨fuel,x,hf⟩:=h
 cases fuel with
 | zero=>simp [DataW.trod] at hf
 | succ f=>
  unfold DataW.trod at hf
  rw [ht] at hf
  split at hf <;> simp_all
  rename_i h1
  obtain ⟨⟨rfl,hw⟩,_⟩:=hf
  subst h1
  simpa [Lit.wf] using hw
theorem Rd.bool (ht:P.underlying t = some .bool) (h:Rd enc P w t cs):∃ b,cs = [.bool b]:=by
 obtain ⟨fuel,x,hf⟩:=h
 cases fuel with
 | zero=>simp [DataW.trod] at hf
 | succ f=>
  unfold DataW.trod at hf
  rw [ht] at hf
  split at hf <;> simp_all
theorem Rd.string (ht:P.underlying t = some .string) (h:Rd enc P w t cs):∃ s,cs = [.string s] /\ s.size <= maxLen:=by
 obtain ⟨fuel,x,hf⟩:=h
 cases fuel with
 | zero=>simp [DataW.trod] at hf
 | succ f=>
  unfold DataW.trod at hf
  rw [ht] at hf
  split at hf <;> simp_all
theorem Rd.struct {fs:Array Field} (ht:P.underlying t = some (.struct fs)) (h:Rd enc P w t cs) :
  cs.length = P.cellsOf t /\ ∀ (i:Nat) (f:Field),fs[i]? = some f -> Rd enc P w f.type ((cs.drop f.offset).take (P.cellsOf f.type)):=by
 obtain ⟨fuel,x,hf⟩:=h
 obtain ⟨xs,n,_,_,hl,hlen,hall⟩:=DataW.trod_struct ht hf
 refine ⟨hl,fun i f hi=>?_⟩
 have h1:i < xs.length:=by rw [hlen];exact (aE hi).1
 exact ⟨n,xs[i],(hall i f hi).trans (gE h1)⟩
theorem ZiL {elem : α -> List Value} {S:Nat}:∀ (l:List α) (a:Addr),(∀ i x,l[i]? = some x -> (elem x).length = S /\ ∀ j,j < S -> w.cell? (a.add (i * S + j)) = (elem x)[j]?) ->
  ∀ k u,(l.flatMap elem)[k]? = some u -> w.cell? (a.add k) = some u:=by
 intro l
 induction l with
 | nil=>intro a _ k u h;simp at h
 | cons x xs ih=>
  intro a h k u hk
  obtain ⟨h1,h2⟩:=h 0 x rfl
  rw [List.flatMap_cons,List.getElem?_append] at hk
  split at hk <;> rename_i hlt
  ·rw [h1] at hlt
   have:=h2 k hlt
   rw [Nat.zero_mul,Nat.zero_add,hk] at this
   exact this
  ·rw [h1] at hk hlt
   have h3:=ih (a.add S) (fun i y hy=>by
    obtain ⟨g1,g2⟩:=h (i + 1) y (by simpa using hy)
    refine ⟨g1,fun j hj=>?_⟩
    rw [Addr.add_add,<- g2 j hj]
    congr 2
    rw [Nat.succ_mul];omega) (k - S) u hk
   rw [Addr.add_add] at h3
   rwa [show S + (k - S) = k by omega] at h3

theorem Rd.slice {α:Type} {S:Nat} (ht:P.underlying t = some (.slice e)) (hS:P.cellsOf e = S) (elem : α -> List Value) (Pr : α -> Prop)
  (he:∀ cs,Rd enc P w e cs -> ∃ a,cs = elem a /\ Pr a) (h:Rd enc P w t cs) :
  ∃ A c,∃ l:List α,cs = [.slice A l.length c] /\ Lies w A (l.flatMap elem) /\ (A = none -> c = 0 /\ l = []) /\ l.length <= 9223372036854775807 /\ l.length <= c /\ (∀ a ∈ l,Pr a):=by
 obtain ⟨fuel,x,hf⟩:=h
 rcases DataW.trod_slice ht hf with ⟨rfl,_⟩ | ⟨a,len,cap,elems,rest,n,_,rfl,_,_,hl,hm,hlen,hel,_,_⟩
 ·exact ⟨none,0,[],rfl,Lies.nil _ _,fun _=>⟨rfl,rfl⟩,by simp,by simp,by simp⟩
 ·have key:∀ i,i < len -> ∃ y,Pr y /\ (elem y).length = S /\ ∀ j,j < S -> w.cell? (a.add (i * S + j)) = (elem y)[j]?:=by
   intro i hi
   have h1:=hel i hi
   rw [gE (by omega)] at h1
   obtain ⟨es,h2,h3⟩:=Option.bind_eq_some_iff.1 h1
   obtain ⟨y,rfl,hy⟩:=he es ⟨n,_,h3⟩
   obtain ⟨_,h4,h5⟩:=World.cells?_some h2
   rw [hS] at h4 h5
   refine ⟨y,hy,h4,fun j hj=>?_⟩
   rw [<- h5 j hj,Addr.add_add]
  have pick:∀ m,m <= len -> ∃ l:List α,l.length = m /\ ∀ i y,l[i]? = some y -> Pr y /\ (elem y).length = S /\ ∀ j,j < S -> w.cell? (a.add (i * S + j)) = (elem y)[j]?:=by
   intro m
   induction m with
   | zero=>intro _;exact ⟨[],rfl,fun i y hy=>by simp at hy⟩
   | succ m ih=>
    intro hm'
    obtain ⟨l,hl1,hl2⟩:=ih (by omega)
    obtain ⟨y,hy⟩:=key m (by omega)
    refine ⟨l ++ [y],by simp [hl1],fun i z hz=>?_⟩
    rw [List.getElem?_append] at hz
    split at hz
    ·exact hl2 i z hz
    ·rename_i hge
     have hi:i = m:=by
      have:=(List.getElem?_eq_some_iff.1 hz).1
      simp at this;omega
     subst hi
     rw [hl1,Nat.sub_self] at hz
     simp at hz
     subst hz
     exact hy
  obtain ⟨l,hll,hg⟩:=pick len nR
  refine ⟨some a,cap,l,by rw [hll],fun h0=>?_,fun h=>by simp at h,?_,by omega,fun y hy=>?_⟩
  ·have hc:=ZiL (w:=w) l a (fun i x hx=>(hg i x hx).2)
   obtain ⟨u,hu⟩:∃ u,(l.flatMap elem)[0]? = some u:=⟨_,gE h0⟩
   have h1:=hc 0 u hu
   obtain ⟨b,off,sp⟩:=a
   have hsp:sp = none:=by
    cases sp with
    | none=>rfl
    | some q=>
     exfalso
     simp [Addr.add,World.cell?] at h1
     split at h1 <;> simp_all
   subst hsp
   refine ⟨b,off,rfl,?_,fun k u hk=>?_⟩
   ·apply Decidable.byContradiction
    intro hb
    simp [Addr.add,World.cell?,hb] at h1
   ·have:=hc k u hk
    rwa [Addr.add_lit] at this
  ·rw [hll];unfold maxLen at hm;omega
  ·obtain ⟨i,hi,rfl⟩:=List.getElem_of_mem hy
   exact (hg i _ (gE hi)).1
variable {v:Value} {d:DataW H} {p:List MemPlace} {r:Reach} {b0:Nat}
theorem Zf5 {k:IntKind} (l:List Int):(l.flatMap fun n=>[Value.int k n]) = l.map (Value.int k):=by
 induction l with
 | nil=>rfl
 | cons x xs ih=>rw [List.flatMap_cons,ih];rfl
theorem Zd4 {fs:Array Field} {n:Nat} (ht:P.underlying t = some (.struct fs)) (hC:P.cellsOf t = n) (hv:Value.okWide P w r b0 t v) (h:DataW.Trod enc P w 0 (fun _=>true) true t v d p) :
  ∃ cs:List Value,v = .agg cs.toArray /\ cs.length = n /\ ∀ (i:Nat) (f:Field),fs[i]? = some f -> Rd enc P w f.type ((cs.drop f.offset).take (P.cellsOf f.type)):=by
 obtain ⟨cs,rfl,hs⟩:=okWide_struct ht hv
 have h1:=(Rd.of h).struct ht
 refine ⟨cs.toList,by simp,by rw [<- hC,<- hs];simp,?_⟩
 simpa [Value.cells] using h1.2
end
end Go.Proofs.YtcjicjfbippmnaaGreat
namespace Go.Proofs.YtcjicjfbippmnaaGreat
open Go.RowKit Go.WideShapes Ear

section
variable {H:Type} {enc:TypeId × Value -> H} {P:Program} {w:World} {t e:TypeId} {cs:List Value} {v:Value} {d:DataW H} {p:List MemPlace} {r:Reach} {b0:Nat}
theorem Rd.dg (ht:P.underlying t = some (.slice e)) (he:P.underlying e = some (.int .u32)) (hc:P.cellsOf e = 1) (h:Rd enc P w t cs) :
  ∃ A c,∃ l:List Int,cs = [.slice A l.length c] /\ Dg w A c l /\ l.length <= 9223372036854775807:=by
 obtain ⟨A,c,l,h1,h2,h3,h4,h5,h6⟩:=h.slice ht hc (fun n=>[Value.int .u32 n]) (fun n=>0 <= n /\ n <= 4294967295) (fun cs hcs=>hcs.int he)
 rw [Zf5] at h2
 exact ⟨A,c,l,h1,⟨h2,h6,h5,fun hA=>(h3 hA).1⟩,h4⟩
end
end Go.Proofs.YtcjicjfbippmnaaGreat
namespace Go.Proofs.YtcjicjfbippmnaaGreat
open Go.RowKit Go.WideShapes Ear

structure SlR (w:World) (s:SlM):Prop where
 lies:Lies w s.A (sbs s.vs)
 nil:s.A = none -> s.c = 0 /\ s.vs = []
 len:s.vs.length <= 9223372036854775807
 size:s.nm.size <= maxLen
 sizes:∀ v ∈ s.vs,v.size <= maxLen
 L:FrOk w s.L
 S:FrOk w s.S
 L1:s.L.N.length <= 9223372036854775807
 L2:s.L.D.length <= 9223372036854775807
 S1:s.S.N.length <= 9223372036854775807
 S2:s.S.D.length <= 9223372036854775807
structure EvR (w:World) (E:EvM):Prop where
 kind : -9223372036854775808 <= E.kind /\ E.kind <= 9223372036854775807
 size:E.val.size <= maxLen
 W:FrOk w E.W
 W1:E.W.N.length <= 9223372036854775807
 W2:E.W.D.length <= 9223372036854775807
 at_ : -9223372036854775808 <= E.at_ /\ E.at_ <= 9223372036854775807
def evc (E:EvM):List Value:=[.int .i64 E.kind,.string E.val,.bool E.W.neg,.slice E.W.A E.W.N.length E.W.c,.slice E.W.B E.W.D.length E.W.d,.int .i64 E.at_]
def ZhC (L:List EvM):List Value:=L.flatMap evc
structure PlR (w:World) (A:Option Addr) (Ss:List SlM):Prop where
 lies:Lies w A (VL Ss)
 ok:∀ s ∈ Ss,SlR w s
structure EvL (w:World) (A:Option Addr) (L:List EvM):Prop where
 lies:Lies w A (ZhC L)
 ok:∀ E ∈ L,EvR w E

structure FrTy (P:Program) (t tb ts tu:TypeId):Prop where
 u:∃ f0 f1 f2:Field,P.underlying t = some (.struct #[f0,f1,f2]) /\ f0.offset = 0 /\ f1.offset = 1 /\ f2.offset = 2 /\ f0.type = tb /\ f1.type = ts /\ f2.type = ts
 c:P.cellsOf t = 3
 ub:P.underlying tb = some .bool
 cb:P.cellsOf tb = 1
 us:P.underlying ts = some (.slice tu)
 cs:P.cellsOf ts = 1
 uu:P.underlying tu = some (.int .u32)
 cu:P.cellsOf tu = 1
structure SlTy (P:Program) (t tn tl tf tb ts tu:TypeId):Prop where
 u:∃ f0 f1 f2 f3:Field,P.underlying t = some (.struct #[f0,f1,f2,f3]) /\ f0.offset = 0 /\ f1.offset = 1 /\ f2.offset = 2 /\ f3.offset = 5 /\ f0.type = tn /\ f1.type = tl /\ f2.type = tf /\ f3.type = tf
 c:P.cellsOf t = 8
 un:P.underlying tn = some .string
 cn:P.cellsOf tn = 1
 ul:P.underlying tl = some (.slice tn)
 cl:P.cellsOf tl = 1
 f:FrTy P tf tb ts tu
structure EvTy (P:Program) (t tk tn tf ti tb ts tu:TypeId):Prop where
 u:∃ f0 f1 f2 f3:Field,P.underlying t = some (.struct #[f0,f1,f2,f3]) /\ f0.offset = 0 /\ f1.offset = 1 /\ f2.offset = 2 /\ f3.offset = 5 /\ f0.type = tk /\ f1.type = tn /\ f2.type = tf /\ f3.type = ti
 c:P.cellsOf t = 6
 uk:P.underlying tk = some (.int .i64)
 ck:P.cellsOf tk = 1
 un:P.underlying tn = some .string
 cn:P.cellsOf tn = 1
 ui:P.underlying ti = some (.int .i64)
 ci:P.cellsOf ti = 1
 f:FrTy P tf tb ts tu
structure PlTy (P:Program) (t tq tS ti tn tl tf tb ts tu:TypeId):Prop where
 u:∃ f0 f1 f2 f3:Field,P.underlying t = some (.struct #[f0,f1,f2,f3]) /\ f0.offset = 0 /\ f1.offset = 1 /\ f2.offset = 2 /\ f3.offset = 3 /\ f0.type = tq /\ f1.type = ti /\ f2.type = ti /\ f3.type = ti
 c:P.cellsOf t = 4
 uq:P.underlying tq = some (.slice tS)
 cq:P.cellsOf tq = 1
 ui:P.underlying ti = some (.int .i64)
 ci:P.cellsOf ti = 1
 s:SlTy P tS tn tl tf tb ts tu
section
variable {H:Type} {enc:TypeId × Value -> H} {P:Program} {w:World} {t tq tS tk ti tn tl tf tb ts tu:TypeId} {cs:List Value} {v:Value} {d:DataW H} {p:List MemPlace} {r:Reach} {b0:Nat}
theorem Rd.fracT (T:FrTy P t tb ts tu) (h:Rd enc P w t cs):∃ x:Fr,cs = [.bool x.neg,.slice x.A x.N.length x.c,.slice x.B x.D.length x.d] /\ FrOk w x /\ x.N.length <= 9223372036854775807 /\ x.D.length <= 9223372036854775807:=by
 obtain ⟨f0,f1,f2,hu,o0,o1,o2,rfl,rfl,e2⟩:=T.u
 obtain ⟨hl,hf⟩:=h.struct hu
 rw [T.c] at hl
 match cs,hl with
 | [a,b,c],_=>
  have q0:=hf 0 f0 rfl
  have q1:=hf 1 f1 rfl
  have q2:=hf 2 f2 rfl
  rw [o0,T.cb] at q0
  rw [o1,T.cs] at q1
  rw [o2,e2,T.cs] at q2
  obtain ⟨n,e0⟩:=q0.bool T.ub
  obtain ⟨A,cA,N,e1,h1,l1⟩:=q1.dg T.us T.uu T.cu
  obtain ⟨B,cB,D,e2,h2,l2⟩:=q2.dg T.us T.uu T.cu
  simp at e0 e1 e2
  subst e0 e1 e2
  exact ⟨⟨n,A,cA,N,B,cB,D⟩,rfl,⟨h1,h2⟩,l1,l2⟩
theorem Zf4 (l:List BA):(l.flatMap fun x:BA=>[Value.string x]) = sbs l:=by
 induction l with
 | nil=>rfl
 | cons x xs ih=>rw [List.flatMap_cons,ih];rfl
theorem Rd.strsT (ht:P.underlying t = some (.slice tn)) (hn:P.underlying tn = some .string) (hc:P.cellsOf tn = 1) (h:Rd enc P w t cs):∃ A c,∃ l:List BA,cs = [.slice A l.length c] /\ Lies w A (sbs l) /\ (A = none -> c = 0 /\ l = []) /\ l.length <= 9223372036854775807 /\ ∀ x ∈ l,x.size <= maxLen:=by
 obtain ⟨A,c,l,h1,h2,h3,h4,h5,h6⟩:=h.slice ht hc (fun x:BA=>[Value.string x]) (fun x=>x.size <= maxLen) (fun cs hcs=>hcs.string hn)
 rw [Zf4] at h2
 exact ⟨A,c,l,h1,h2,h3,h4,h6⟩
theorem Rd.slotT (T:SlTy P t tn tl tf tb ts tu) (h:Rd enc P w t cs):∃ s:SlM,cs = slc s /\ SlR w s:=by
 obtain ⟨f0,f1,f2,f3,hu,o0,o1,o2,o3,rfl,rfl,rfl,e3⟩:=T.u
 obtain ⟨hl,hf⟩:=h.struct hu
 rw [T.c] at hl
 match cs,hl with
 | [a,b,c,d,e,f,g,i],_=>
  have q0:=hf 0 f0 rfl
  have q1:=hf 1 f1 rfl
  have q2:=hf 2 f2 rfl
  have q3:=hf 3 f3 rfl
  rw [o0,T.cn] at q0
  rw [o1,T.cl] at q1
  rw [o2,T.f.c] at q2
  rw [o3,e3,T.f.c] at q3
  obtain ⟨nm,e0,hnm⟩:=q0.string T.un
  obtain ⟨A,cA,l,e1,h1,h2,h3,h4⟩:=q1.strsT T.ul T.un T.cn
  obtain ⟨x,e2,hx,x1,x2⟩:=q2.fracT T.f
  obtain ⟨y,e3,hy,y1,y2⟩:=q3.fracT T.f
  simp at e0 e1 e2 e3
  obtain ⟨rfl,rfl,rfl⟩:=e2
  obtain ⟨rfl,rfl,rfl⟩:=e3
  subst e0 e1
  exact ⟨⟨nm,A,cA,l,x,y⟩,rfl,⟨h1,h2,h3,hnm,h4,hx,hy,x1,x2,y1,y2⟩⟩
theorem Rd.eventT (T:EvTy P t tk tn tf ti tb ts tu) (h:Rd enc P w t cs):∃ E:EvM,cs = evc E /\ EvR w E:=by
 obtain ⟨f0,f1,f2,f3,hu,o0,o1,o2,o3,rfl,rfl,rfl,rfl⟩:=T.u
 obtain ⟨hl,hf⟩:=h.struct hu
 rw [T.c] at hl
 match cs,hl with
 | [a,b,c,d,e,f],_=>
  have q0:=hf 0 f0 rfl
  have q1:=hf 1 f1 rfl
  have q2:=hf 2 f2 rfl
  have q3:=hf 3 f3 rfl
  rw [o0,T.ck] at q0
  rw [o1,T.cn] at q1
  rw [o2,T.f.c] at q2
  rw [o3,T.ci] at q3
  obtain ⟨n,e0,hn⟩:=q0.int T.uk
  obtain ⟨s,e1,hs⟩:=q1.string T.un
  obtain ⟨x,e2,hx,x1,x2⟩:=q2.fracT T.f
  obtain ⟨t,e3,ht⟩:=q3.int T.ui
  simp at e0 e1 e2 e3
  obtain ⟨rfl,rfl,rfl⟩:=e2
  subst e0 e1 e3
  exact ⟨⟨n,s,x,t⟩,rfl,⟨hn,hs,hx,x1,x2,ht⟩⟩
theorem ZfD (T:PlTy P t tq tS ti tn tl tf tb ts tu) (hv:Value.okWide P w r b0 t v) (h:DataW.Trod enc P w 0 (fun _=>true) true t v d p) :
  ∃ A c Ss pat prm need,v = .agg #[.slice A (Ss:List SlM).length c,.int .i64 pat,.int .i64 prm,.int .i64 need] /\ PlR w A Ss /\ (A = none -> c = 0 /\ Ss = []) /\ Ss.length <= 9223372036854775807 /\
   (-9223372036854775808 <= pat /\ pat <= 9223372036854775807) /\ (-9223372036854775808 <= prm /\ prm <= 9223372036854775807) /\ (-9223372036854775808 <= need /\ need <= 9223372036854775807):=by
 obtain ⟨f0,f1,f2,f3,hu,o0,o1,o2,o3,rfl,rfl,e2',e3'⟩:=T.u
 obtain ⟨cs,rfl,hl,hf⟩:=Zd4 hu T.c hv h
 match cs,hl with
 | [a,b,c,d],_=>
  have q0:=hf 0 f0 rfl
  have q1:=hf 1 f1 rfl
  have q2:=hf 2 f2 rfl
  have q3:=hf 3 f3 rfl
  rw [o0,T.cq] at q0
  rw [o1,T.ci] at q1
  rw [o2,e2',T.ci] at q2
  rw [o3,e3',T.ci] at q3
  obtain ⟨A,c',Ss,e0,h1,h2,h3,h4,h5⟩:=q0.slice T.uq T.s.c slc (SlR w) (fun cs hcs=>hcs.slotT T.s)
  obtain ⟨n1,e1,g1⟩:=q1.int T.ui
  obtain ⟨n2,e2,g2⟩:=q2.int T.ui
  obtain ⟨n3,e3,g3⟩:=q3.int T.ui
  simp at e0 e1 e2 e3
  subst e0 e1 e2 e3
  exact ⟨A,c',Ss,n1,n2,n3,rfl,⟨h1,h5⟩,h2,h3,g1,g2,g3⟩
theorem Zdc (ht:P.underlying t = some (.slice tS)) (T:EvTy P tS tk tn tf ti tb ts tu) (hv:Value.okWide P w r b0 t v) (h:DataW.Trod enc P w 0 (fun _=>true) true t v d p) :
  ∃ A c,∃ L:List EvM,v = .slice A L.length c /\ EvL w A L /\ (A = none -> c = 0 /\ L = []) /\ L.length <= 9223372036854775807:=by
 obtain ⟨A',n',c',rfl⟩:=okWide_slice ht hv
 obtain ⟨A,c,L,h1,h2,h3,h4,h5,h6⟩:=(Rd.of h).slice ht T.c evc (EvR w) (fun cs hcs=>hcs.eventT T)
 simp [Value.cells] at h1
 obtain ⟨rfl,rfl,rfl⟩:=h1
 exact ⟨A',c',L,rfl,⟨h2,h6⟩,h3,h4⟩
end
theorem ZiQ:FrTy Tryz.prog 28 4 26 173:=⟨⟨_,_,_,Tryz.underlying28,rfl,rfl,rfl,rfl,rfl,rfl⟩,by kernel_rfl,Tryz.underlying4,by kernel_rfl,Tryz.underlying26,by kernel_rfl,Tryz.underlying173,by kernel_rfl⟩
theorem ZiT:SlTy Tryz.prog 79 9 74 28 4 26 173:=⟨⟨_,_,_,_,Tryz.underlying79,rfl,rfl,rfl,rfl,rfl,rfl,rfl,rfl⟩,by kernel_rfl,Tryz.underlying9,by kernel_rfl,Tryz.underlying74,by kernel_rfl,ZiQ⟩
theorem ZiY:EvTy Tryz.prog 61 59 9 28 3 4 26 173:=⟨⟨_,_,_,_,Tryz.underlying61,rfl,rfl,rfl,rfl,rfl,rfl,rfl,rfl⟩,by kernel_rfl,Tryz.underlying59,by kernel_rfl,Tryz.underlying9,by kernel_rfl,Tryz.underlying3,by kernel_rfl,ZiQ⟩
theorem ZiV:PlTy Tryz.prog 48 46 79 3 9 74 28 4 26 173:=⟨⟨_,_,_,_,Tryz.underlying48,rfl,rfl,rfl,rfl,rfl,rfl,rfl,rfl⟩,by kernel_rfl,Tryz.underlying46,by kernel_rfl,Tryz.underlying3,by kernel_rfl,ZiT⟩
end Go.Proofs.YtcjicjfbippmnaaGreat
namespace Go.Proofs.YtcjicjfbippmnaaGreat
open Go.RowKit Ear

theorem Zb1 {α:Type} {p : α -> Bool} {l:List α} {k:Nat} (hk:k < l.length) (h:p l[k] = false):l.all p = false:=by
 rw [List.all_eq_false];exact ⟨_,gM hk,by rw [h];decide⟩
theorem U0 {α:Type} {p : α -> Bool} {l:List α} {k:Nat} (hk:k < l.length) (h:(l.take k).all p = true) (h2:p l[k] = true):(l.take (k + 1)).all p = true:=by
 rw [List.take_succ_eq_append_getElem hk,List.all_append,h];simp [h2]
def XO (x:Fr):Bool:=decide (x.N.length <= 4) && decide (x.D.length <= 4)
theorem Zq {x:Fr} (h:XO x = true):Few x 90000:=by
 unfold XO at h
 rw [Bool.and_eq_true,decide_eq_true_eq,decide_eq_true_eq] at h
 exact ⟨tR h.1 (by decide),tR h.2 (by decide)⟩
theorem Vn (x:Fr) (w:World) (h1:x.N.length <= 9223372036854775807) (h2:x.D.length <= 9223372036854775807) (r:Bool) (hr:Hid (XO x = r)):Calls Tryz.prog 73 #[x.val] w (Qx r w):=by
 obtain ⟨W0,hW0⟩:∃ W0:World,W0 = w.alloc (.cells #[.bool x.neg,.slice x.A x.N.length x.c,.slice x.B x.D.length x.d] 28):=⟨_,rfl⟩
 have HB0:Hid (Below w.heap.size w W0):=zH (by rw [hW0];exact bR.alloc nR _)
 have HX0:Hid (Fb W0 w.heap.size x):=zH (by rw [hW0];exact Fb.new w x)
 obtain ⟨c0,c1,c2,-,-,-⟩:=HX0.out.facts
 go_enter Tryz.func73,Tryz.ntmps73
 go_upto_region 1 with fail
 rw [<- hW0]
 clear hW0
 by_cases h3:x.N.length <= 4
 ·have hz:r = decide (x.D.length <= 4):=by rw [<- hr.out];unfold XO;rw [decide_eq_true h3,Bool.true_and]
  subst hz
  clear hr
  go_wp2_with fail
  go_ret
  exact ⟨by simp <;> omega,HB0.out⟩
 ·have hz:r = false:=by rw [<- hr.out];unfold XO;rw [dF h3,Bool.false_and]
  subst hz
  clear hr
  go_wp2_with fail
  go_ret
  exact ⟨rfl,HB0.out⟩
theorem Zb2 (L:List EvM):(ZhC L).length = L.length * 6:=by
 induction L with
 | nil=>rfl
 | cons x l ih=>simp only [ZhC,List.flatMap_cons,List.length_append] at ih ⊢;rw [ih];simp [evc];omega
theorem Zcw:∀ (L:List EvM) {k:Nat} (hk:k < L.length) (j:Nat),j < 6 -> (ZhC L)[k * 6 + j]? = (evc L[k])[j]?
 | s :: l,0,_,j,hj=>by
  simp only [ZhC,List.flatMap_cons,Nat.zero_mul,Nat.zero_add,List.getElem_cons_zero]
  exact List.getElem?_append_left (by simp [evc];exact hj)
 | s :: l,k + 1,hk,j,hj=>by
  have ih:=Zcw l (k:=k) (by simpa using hk) j hj
  simp only [ZhC,List.flatMap_cons,List.getElem_cons_succ] at ih ⊢
  rw [List.getElem?_append_right (by simp [evc];omega),<- ih]
  congr 1
  simp [evc]
  omega
theorem EvL.at_ {w:World} {A:Option Addr} {L:List EvM} (h:EvL w A L) {k:Nat} (hk:k < L.length):∃ b off,A = some ⟨b,off,none⟩ /\ b < w.heap.size /\ ∀ (j:Nat) (v:Value),(evc L[k])[j]? = some v -> w.cell? ⟨b,off + k * 6 + j,none⟩ = some v:=by
 obtain ⟨b,off,e,hb,hc⟩:=h.lies (by rw [Zb2];omega)
 refine ⟨b,off,e,hb,fun j v hv=>?_⟩
 rw [Nat.add_assoc]
 refine hc _ _ ?_
 have hj:j < 6:=by have:=(List.getElem?_eq_some_iff.1 hv).1;simpa [evc] using this
 rw [Zcw L hk j hj]
 exact hv
theorem EvR.below {w w':World} {E:EvM} (h:EvR w E) (hb:Below w.heap.size w w'):EvR w' E:=⟨h.kind,h.size,h.W.below hb,h.W1,h.W2,h.at_⟩
theorem EvL.below {w w':World} {A:Option Addr} {L:List EvM} (h:EvL w A L) (hb:Below w.heap.size w w'):EvL w' A L:=⟨h.lies.below hb,fun E hE=>(h.ok E hE).below hb⟩
def YC (E:EvM):Bool:=XO E.W && decide (E.val.size <= 60)
def UU (L:List EvM):Bool:=(L.take 31).all YC && decide (L.length <= 30)
theorem Zes (A:Option Addr) (c:Nat) (L:List EvM) (w:World) (h:EvL w A L) (hn:L.length <= 9223372036854775807) (r:Bool) (hr:Hid (UU L = r)):Calls Tryz.prog 28 #[.slice A L.length c] w (Qx r w):=by
 have H:=zH h
 clear h
 go_enter Tryz.func28,Tryz.ntmps28
 go_wp2_with fail
 go_loopw [3] (fun i wr=>∃ k:Nat,k <= L.length /\ k <= 31 /\ i = .int .i64 k /\ Hid ((L.take k).all YC = true) /\ Hid (Below w.heap.size w wr)) (fun i _=>L.length - (intOf i).toNat)
 case atStart=>exact ⟨0,by omega,by omega,rfl,zH rfl,zH bR⟩
 case round=>
  obtain ⟨k,hk,hk31,rfl,HP,HB⟩:=hrel
  by_cases hlt:k < L.length
  ·by_cases h30:k <= 30
   ·obtain ⟨bk,off,rfl,hbk,hc⟩:=(H.out.below HB.out).at_ hlt
    have q1:=hc 1 _ rfl
    have q2:=hc 2 _ rfl
    have q3:=hc 3 _ rfl
    have q4:=hc 4 _ rfl
    clear hc
    have HR:=zH (H.out.ok _ (gM hlt))
    have HY:Hid (YC L[k] = true -> (L.take (k + 1)).all YC = true):=zH (fun he=>U0 hlt HP.out he)
    have HZ:Hid (YC L[k] = false -> r = false):=zH (fun he=>by
     rw [<- hr.out]
     unfold UU
     rw [Zb1 (l:=L.take 31) (k:=k) (p:=YC) (by rw [List.length_take];omega) (by rw [List.getElem_take];exact he),Bool.false_and])
    clear HP
    generalize L[k] = E at *
    have hsz:=HR.out.size
    unfold maxLen at hsz
    cases hl:XO E.W with
    | false=>
     have hz:=HZ.out (by unfold YC;rw [hl];rfl)
     subst hz
     have C1:=zH (Vn E.W wr HR.out.W1 HR.out.W2 false (zH hl))
     clear hl HY HZ hr
     go_wp2_with fail
     refine C1.out.mono ?_
     rintro e w1 ⟨rfl,hb1⟩
     go_wp2_with fail
     go_ret
     exact ⟨rfl,HB.out.trans (hb1.mono HB.out.size)⟩
    | true=>
     have C1:=zH (Vn E.W wr HR.out.W1 HR.out.W2 true (zH hl))
     by_cases h6:E.val.size <= 60
     ·have HK:=zH (HY.out (by unfold YC;rw [hl,decide_eq_true h6];rfl))
      clear hl HY HZ
      go_wp2_with fail
      refine C1.out.mono ?_
      rintro e w1 ⟨rfl,hb1⟩
      have q1':=(hb1.cell (p:=⟨bk,off + k * 6 + 1,none⟩) hbk).trans q1
      have HB1:=zH (HB.out.trans (hb1.mono HB.out.size))
      clear q1 q2 q3 q4 hb1 C1
      go_wp2_with fail
      exact ⟨⟨k + 1,by omega,by omega,by go_num,HK,HB1⟩,by simp [intOf];omega⟩
     ·have hz:=HZ.out (by unfold YC;rw [hl,dF h6];rfl)
      subst hz
      clear hl HY HZ hr
      go_wp2_with fail
      refine C1.out.mono ?_
      rintro e w1 ⟨rfl,hb1⟩
      have q1':=(hb1.cell (p:=⟨bk,off + k * 6 + 1,none⟩) hbk).trans q1
      have HB1:=zH (HB.out.trans (hb1.mono HB.out.size))
      clear q1 q2 q3 q4 hb1 C1
      go_wp2_with fail
      go_ret
      exact ⟨rfl,HB1.out⟩
   ·have hz:r = false:=by rw [<- hr.out];unfold UU;rw [dF (by omega),Bool.and_false]
    subst hz
    clear hr HP
    go_wp2_with fail
    go_ret
    exact ⟨by simp <;> omega,HB.out⟩
  ·have hz:r = decide (L.length <= 30):=by
    rw [<- hr.out]
    unfold UU
    obtain rfl:k = L.length:=by omega
    rw [List.take_of_length_le (by omega)]
    rw [List.take_of_length_le (by omega)] at HP
    rw [HP.out,Bool.true_and]
   subst hz
   clear hr HP
   go_wp2_with fail
   go_ret
   exact ⟨by simp <;> omega,HB.out⟩
theorem SlR.below {w w':World} {s:SlM} (h:SlR w s) (hb:Below w.heap.size w w'):SlR w' s:=⟨h.lies.below hb,h.nil,h.len,h.size,h.sizes,h.L.below hb,h.S.below hb,h.L1,h.L2,h.S1,h.S2⟩
theorem PlR.below {w w':World} {A:Option Addr} {Ss:List SlM} (h:PlR w A Ss) (hb:Below w.heap.size w w'):PlR w' A Ss:=⟨h.lies.below hb,fun s hs=>(h.ok s hs).below hb⟩
theorem PlR.at_ {w:World} {A:Option Addr} {Ss:List SlM} (h:PlR w A Ss) {k:Nat} (hk:k < Ss.length):∃ b off,A = some ⟨b,off,none⟩ /\ b < w.heap.size /\ ∀ (j:Nat) (v:Value),(slc Ss[k])[j]? = some v -> w.cell? ⟨b,off + k * 8 + j,none⟩ = some v:=by
 obtain ⟨b,off,e,hb,hc⟩:=h.lies (by rw [Xw];omega)
 refine ⟨b,off,e,hb,fun j v hv=>?_⟩
 rw [Nat.add_assoc]
 refine hc _ _ ?_
 have hj:j < 8:=by have:=(List.getElem?_eq_some_iff.1 hv).1;simpa [slc] using this
 rw [Up Ss hk j hj]
 exact hv
def SlM.pure (s:SlM):PSl:=⟨s.nm,s.vs,fq s.L.neg (vl s.L.N).toNat (vl s.L.D).toNat,fq s.S.neg (vl s.S.N).toNat (vl s.S.D).toNat⟩
def ZcW (v:BA):Bool:=decide (v.size <= 60)
def VJ (s:SlM):Bool:=decide (s.vs.length <= 60) && (decide (s.nm.size <= 60) && (XO s.L && (XO s.S && s.vs.all ZcW)))
def ZaR (Ss:List SlM):Bool:=decide (Ss.length <= 30) && Ss.all VJ
theorem ZaQ {Ss:List SlM}:ZaR Ss = true ↔ Ss.length <= 30 /\ ∀ s ∈ Ss,s.vs.length <= 60 /\ s.nm.size <= 60 /\ XO s.L = true /\ XO s.S = true /\ ∀ v ∈ s.vs,v.size <= 60:=by
 unfold ZaR VJ ZcW
 simp only [Bool.and_eq_true,decide_eq_true_eq,List.all_eq_true]
theorem PlR.plm {w:World} {A:Option Addr} {Ss:List SlM} (h:PlR w A Ss) (ht:ZaR Ss = true):PlM w A Ss (Ss.map SlM.pure):=
 ⟨h.lies,by simp,fun k s p hs hp=>by
  rw [List.getElem?_map,hs] at hp
  injection hp with hp
  subst hp
  have hm:=List.mem_of_getElem? hs
  obtain ⟨-,-,l1,l2,-⟩:=(ZaQ.1 ht).2 s hm
  have r:=h.ok s hm
  exact ⟨rfl,rfl,r.lies,fun e=>(r.nil e).1,⟨r.L.n,r.L.d,rfl⟩,⟨r.S.n,r.S.d,rfl⟩,Zq l1,Zq l2⟩⟩
theorem Zff (A:Option Addr) (c:Nat) (Ss:List SlM) (pat prm need:Int) (w:World) (h:PlR w A Ss) (hn:Ss.length <= 9223372036854775807) (r:Bool) (hr:Hid (ZaR Ss = r)) :
  Calls Tryz.prog 27 #[.agg #[.slice A Ss.length c,.int .i64 pat,.int .i64 prm,.int .i64 need]] w (Qx r w):=by
 obtain ⟨W0,hW0⟩:∃ W0:World,W0 = w.alloc (.cells #[.slice A Ss.length c,.int .i64 pat,.int .i64 prm,.int .i64 need] 48):=⟨_,rfl⟩
 have HB0:Hid (Below w.heap.size w W0):=zH (by rw [hW0];exact bR.alloc nR _)
 have HX0:Hid (W0.heap[w.heap.size]? = some (.cells #[.slice A Ss.length c,.int .i64 pat,.int .i64 prm,.int .i64 need] 48 (0,0))):=zH (by rw [hW0];exact heap_alloc_new w _)
 have HP:=zH (h.below HB0.out)
 have hws:w.heap.size < W0.heap.size:=(aE HX0.out).1
 have c0:W0.cell? ⟨w.heap.size,0,none⟩ = some (.slice A Ss.length c):=(cR 0 HX0.out).trans rfl
 clear h
 go_enter Tryz.func27,Tryz.ntmps27
 go_upto_region 1 with fail
 rw [<- hW0]
 clear hW0
 by_cases h30:Ss.length <= 30
 ·go_wp2_with fail
  go_loopw [3,4,5] (fun i _ _ wr=>∃ k:Nat,k <= Ss.length /\ i = .int .i64 k /\ Hid ((Ss.take k).all VJ = true) /\ Hid (Below W0.heap.size W0 wr)) (fun i _ _ _=>Ss.length - (intOf i).toNat)
  case atStart=>exact ⟨0,by omega,rfl,zH rfl,zH bR⟩
  case round=>
   obtain ⟨k,hk,rfl,HA,HB⟩:=hrel
   have c1:wr.cell? ⟨w.heap.size,0,none⟩ = some (.slice A Ss.length c):=(HB.out.cell (p:=⟨w.heap.size,0,none⟩) hws).trans c0
   by_cases hlt:k < Ss.length
   ·have HR:=zH (HP.out.ok _ (gM hlt))
    have HY:Hid (VJ Ss[k] = true -> (Ss.take (k + 1)).all VJ = true):=zH (fun he=>U0 hlt HA.out he)
    have HZ:Hid (VJ Ss[k] = false -> r = false):=zH (fun he=>by
     rw [<- hr.out]
     unfold ZaR
     rw [Zb1 hlt he,Bool.and_false])
    obtain ⟨bk,off,rfl,hbk,hc⟩:=(HP.out.below HB.out).at_ hlt
    have q0:=hc 0 _ rfl
    have q1:=hc 1 _ rfl
    have q2:=hc 2 _ rfl
    have q3:=hc 3 _ rfl
    have q4:=hc 4 _ rfl
    have q5:=hc 5 _ rfl
    have q6:=hc 6 _ rfl
    have q7:=hc 7 _ rfl
    rw [Nat.add_zero] at q0
    clear hc HA
    generalize Ss[k] = s at *
    obtain ⟨W1,hW1⟩:∃ W1:World,W1 = wr.alloc (.cells #[.string s.nm,.slice s.A s.vs.length s.c,.bool s.L.neg,.slice s.L.A s.L.N.length s.L.c,.slice s.L.B s.L.D.length s.L.d,.bool s.S.neg,.slice s.S.A s.S.N.length s.S.c,.slice s.S.B s.S.D.length s.S.d] 79):=⟨_,rfl⟩
    have hb1:Below wr.heap.size wr W1:=by rw [hW1];exact bR.alloc nR _
    have HX1:Hid (W1.heap[wr.heap.size]? = some (.cells #[.string s.nm,.slice s.A s.vs.length s.c,.bool s.L.neg,.slice s.L.A s.L.N.length s.L.c,.slice s.L.B s.L.D.length s.L.d,.bool s.S.neg,.slice s.S.A s.S.N.length s.S.c,.slice s.S.B s.S.D.length s.S.d] 79 (0,0))):=zH (by rw [hW1];exact heap_alloc_new wr _)
    have HB1:=zH (HB.out.trans (hb1.mono HB.out.size))
    have hwr1:wr.heap.size < W1.heap.size:=(aE HX1.out).1
    have hsz:=HR.out.size
    unfold maxLen at hsz
    have hvl:=HR.out.len
    go_upto_region 7 with fail
    rw [<- hW1]
    clear q0 q1 q2 q3 q4 q5 q6 q7 hW1 hb1
    have HCC:Hid (∀ u,Below W1.heap.size W1 u -> u.cell? ⟨wr.heap.size,0,none⟩ = some (.string s.nm) /\ u.cell? ⟨wr.heap.size,1,none⟩ = some (.slice s.A s.vs.length s.c) /\ u.cell? ⟨wr.heap.size,2,none⟩ = some (.bool s.L.neg) /\ u.cell? ⟨wr.heap.size,3,none⟩ = some (.slice s.L.A s.L.N.length s.L.c) /\ u.cell? ⟨wr.heap.size,4,none⟩ = some (.slice s.L.B s.L.D.length s.L.d) /\
     u.cell? ⟨wr.heap.size,5,none⟩ = some (.bool s.S.neg) /\ u.cell? ⟨wr.heap.size,6,none⟩ = some (.slice s.S.A s.S.N.length s.S.c) /\ u.cell? ⟨wr.heap.size,7,none⟩ = some (.slice s.S.B s.S.D.length s.S.d)):=zH (fun u hu=>by
     have hh:=(hu.block _ hwr1).trans HX1.out
     exact ⟨(cR 0 hh).trans rfl,(cR 1 hh).trans rfl,(cR 2 hh).trans rfl,(cR 3 hh).trans rfl,(cR 4 hh).trans rfl,(cR 5 hh).trans rfl,(cR 6 hh).trans rfl,(cR 7 hh).trans rfl⟩)
    have HBW:=zH (HB0.out.trans (HB1.out.mono HB0.out.size))
    have HL1:Hid (∀ (u:World) (q:Bool),XO s.L = q -> Calls Tryz.prog 73 #[s.L.val] u (Qx q u)):=zH (fun u q hq=>Vn s.L u HR.out.L1 HR.out.L2 q (zH hq))
    have HS1:Hid (∀ (u:World) (q:Bool),XO s.S = q -> Calls Tryz.prog 73 #[s.S.val] u (Qx q u)):=zH (fun u q hq=>Vn s.S u HR.out.S1 HR.out.S2 q (zH hq))
    obtain ⟨p0,p1,p2,p3,p4,p5,p6,p7⟩:=HCC.out W1 bR
    by_cases g1:s.vs.length <= 60
    ·by_cases g2:s.nm.size <= 60
     ·cases g3:XO s.L with
      | false=>
       have hz:=HZ.out (by unfold VJ;rw [g3];simp)
       subst hz
       have C1:=zH (HL1.out W1 false g3)
       clear g3 hr HY HZ
       go_wp2_with fail
       refine C1.out.mono ?_
       rintro e w1 ⟨rfl,hb1⟩
       have hbb:=HBW.out.trans (hb1.mono HBW.out.size)
       clear hb1
       go_wp2_with fail
       go_ret
       exact ⟨rfl,hbb⟩
      | true=>
       have C1:=zH (HL1.out W1 true g3)
       cases g4:XO s.S with
       | false=>
        have hz:=HZ.out (by unfold VJ;rw [g4];simp)
        subst hz
        clear g3 hr HY HZ
        have C2:=zH (fun u=>HS1.out u false g4)
        clear g4
        go_wp2_with fail
        refine C1.out.mono ?_
        rintro e w1 ⟨rfl,hb1⟩
        obtain ⟨r0,r1,r2,r3,r4,r5,r6,r7⟩:=HCC.out w1 hb1
        have HB2:=zH (HBW.out.trans (hb1.mono HBW.out.size))
        clear hb1 p0 p1 p2 p3 p4 p5 p6 p7
        go_wp2_with fail
        refine (C2.out w1).mono ?_
        rintro e w2 ⟨rfl,hb2⟩
        have hbb:=HB2.out.trans (hb2.mono HB2.out.size)
        clear hb2
        go_wp2_with fail
        go_ret
        exact ⟨rfl,hbb⟩
       | true=>
        have C2:=zH (fun u=>HS1.out u true g4)
        have HYV:Hid (s.vs.all ZcW = true -> (Ss.take (k + 1)).all VJ = true):=zH (fun he=>HY.out (by unfold VJ;rw [g3,g4,decide_eq_true g1,decide_eq_true g2,he];rfl))
        have HZV:Hid (s.vs.all ZcW = false -> r = false):=zH (fun he=>HZ.out (by unfold VJ;rw [he];simp))
        clear g3 g4 HY HZ
        go_wp2_with fail
        refine C1.out.mono ?_
        rintro e w1 ⟨rfl,hb1⟩
        obtain ⟨r0,r1,r2,r3,r4,r5,r6,r7⟩:=HCC.out w1 hb1
        have HB2:=zH hb1
        clear hb1 p0 p1 p2 p3 p4 p5 p6 p7
        go_wp2_with fail
        refine (C2.out w1).mono ?_
        rintro e w2 ⟨rfl,hb2⟩
        have HB3:=zH (HB2.out.trans (hb2.mono HB2.out.size))
        obtain ⟨t0,t1,-,-,-,-,-,-⟩:=HCC.out w2 HB3.out
        have HBX:=zH (HB1.out.trans (HB3.out.mono HB1.out.size))
        have HVS:=zH (HR.out.lies.below HBX.out)
        have HSZ:=zH HR.out.sizes
        have h52:wr.heap.size < w2.heap.size:=Nat.lt_of_lt_of_le hwr1 HB3.out.size
        clear hb2 C1 C2 HB2 HB3 HBW HCC HL1 HS1 HR HX1 HB r0 r1 r2 r3 r4 r5 r6 r7
        go_wp2_with fail
        obtain ⟨W5,rfl⟩:∃ x,x = wr:=⟨_,rfl⟩
        go_loopw [5] (fun i wi=>∃ j:Nat,j <= s.vs.length /\ i = .int .i64 j /\ Hid ((s.vs.take j).all ZcW = true) /\ Hid (Below w2.heap.size w2 wi)) (fun i _=>s.vs.length - (intOf i).toNat)
        case atStart=>exact ⟨0,by omega,rfl,zH rfl,zH bR⟩
        case round=>
         obtain ⟨j,hj,rfl,HJ,HBJ⟩:=hrel
         have u0:=(HBJ.out.cell (p:=⟨W5.heap.size,0,none⟩) h52).trans t0
         have u1:=(HBJ.out.cell (p:=⟨W5.heap.size,1,none⟩) h52).trans t1
         have HBO:=zH (HBX.out.trans (HBJ.out.mono HBX.out.size))
         by_cases hjl:j < s.vs.length
         ·obtain ⟨bv,ov,ev,hbv,hcv⟩:=(HVS.out.below HBJ.out) (by simp;omega)
          have uv:=hcv j (.string s.vs[j]) (by simp [gE hjl])
          rw [ev] at u1
          have hvz:=HSZ.out _ (gM hjl)
          unfold maxLen at hvz
          have HYJ:Hid (s.vs[j].size <= 60 -> (s.vs.take (j + 1)).all ZcW = true):=zH (fun he=>U0 hjl HJ.out (decide_eq_true he))
          have HZJ:Hid (¬ s.vs[j].size <= 60 -> r = false):=zH (fun he=>HZV.out (Zb1 hjl (dF he)))
          clear hcv ev HJ t0 t1
          generalize s.vs[j] = x at *
          by_cases hx:x.size <= 60
          ·have HK:=zH (HYJ.out hx)
           go_wp2_with fail
           exact ⟨⟨j + 1,by omega,by go_num,HK,HBJ⟩,by simp [intOf];omega⟩
          ·have hz:=HZJ.out hx
           subst hz
           clear hr
           go_wp2_with fail
           go_ret
           exact ⟨rfl,HB0.out.trans (HBO.out.mono HB0.out.size)⟩
         ·obtain rfl:j = s.vs.length:=by omega
          have HK:=zH (HYV.out (by rw [<- List.take_of_length_le (l:=s.vs) (i:=s.vs.length) (by omega)];exact HJ.out))
          clear HJ HYV HZV t0 t1
          go_wp2_with fail
          exact ⟨⟨k + 1,by omega,by go_num,HK,HBO⟩,by simp [intOf];omega⟩
     ·have hz:=HZ.out (by unfold VJ;rw [dF g2];simp)
      subst hz
      clear hr HY HZ
      go_wp2_with fail
      go_ret
      exact ⟨rfl,HBW.out⟩
    ·have hz:=HZ.out (by unfold VJ;rw [dF g1];simp)
     subst hz
     clear hr HY HZ
     go_wp2_with fail
     go_ret
     exact ⟨rfl,HBW.out⟩
   ·obtain rfl:k = Ss.length:=by omega
    have hz:r = true:=by
     rw [<- hr.out]
     unfold ZaR
     rw [decide_eq_true h30,Bool.true_and,<- List.take_of_length_le (l:=Ss) (i:=Ss.length) (by omega)]
     exact HA.out
    subst hz
    clear hr HA
    go_wp2_with fail
    go_ret
    exact ⟨rfl,HB0.out.trans (HB.out.mono HB0.out.size)⟩
 ·have hz:r = false:=by rw [<- hr.out];unfold ZaR;rw [dF h30,Bool.false_and]
  subst hz
  clear hr
  go_wp2_with fail
  go_ret
  exact ⟨rfl,HB0.out⟩
end Go.Proofs.YtcjicjfbippmnaaGreat
