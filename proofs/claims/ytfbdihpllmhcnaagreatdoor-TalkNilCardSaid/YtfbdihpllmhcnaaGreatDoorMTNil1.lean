/- TalkNil -/
import Derived.Test.YtfbdihpllmhcnaaGreatDoorMTNil0
import Derived.OpenShut
import Derived.ProofKit
import Derived.Lib.BitFns
set_option maxRecDepth 100000
set_option maxHeartbeats 32000000
namespace Go.Proofs.YtfbdihpllmhcnaaGreatDoor
open Go.RowKit

structure Led (w0 w:World) (F:List (Option Addr × List Value)):Prop where
 bel:Below w0.heap.size w0 w
 lies:∀ (i:Nat) (A:Option Addr) (xs:List Value),F[i]? = some (A,xs) -> Lies w A xs

section
variable {w0 w w':World} {F:List (Option Addr × List Value)}
theorem Led.nil (w:World):Led w w []:=⟨Below.refl _ _,fun i A xs h=>by simp at h⟩
theorem Led.below (h:Led w0 w F) (hb:Below w.heap.size w w'):Led w0 w' F:=
 ⟨h.bel.trans (hb.mono h.bel.size),fun i A xs e=>(h.lies i A xs e).below hb⟩
theorem Led.alloc (h:Led w0 w F) (o:Obj):Led w0 (w.alloc o) F:=
 ⟨h.bel.alloc h.bel.size o,fun i A xs e=>(h.lies i A xs e).alloc o⟩
theorem Led.add (h:Led w0 w F) {A:Option Addr} {xs:List Value} (hl:Lies w A xs):Led w0 w (F ++ [(A,xs)]):=⟨h.bel,fun i A' xs' e=>by
 rw [List.getElem?_append] at e
 split at e
 ·exact h.lies i A' xs' e
 ·rename_i hge
  have:i - F.length = 0:=by
   have:=(List.getElem?_eq_some_iff.1 e).1
   simp at this;omega
  rw [this] at e
  simp at e
  obtain ⟨rfl,rfl⟩:=e
  exact hl⟩
theorem Led.row (h:Led w0 w F) {g:Nat} {t:TypeId} {cs:Array Value} (hr:w.heap[g]? = some (.cells cs t (0,0))):Led w0 w (F ++ [(some ⟨g,0,none⟩,cs.toList)]):=
 h.add (fun _=>⟨g,0,rfl,Zhm hr,fun k u hu=>by rw [Nat.zero_add,cell_of_row w g k _ _ _ hr];simpa using hu⟩)
theorem Led.cell (h:Led w0 w F) (i:Nat) {b off:Nat} {xs:List Value} (e:F[i]? = some (some ⟨b,off,none⟩,xs)) (k:Nat) {u:Value} (hu:xs[k]? = some u):w.cell? ⟨b,off + k,none⟩ = some u:=by
 obtain ⟨b',off',e',_,hc⟩:=h.lies i _ _ e (by have:=(List.getElem?_eq_some_iff.1 hu).1;omega)
 cases e'
 exact hc k u hu
end

section
variable {P:Program} (w:World)
theorem Jr {o:Oper} {a:Act} {K:Act -> World -> Prop} {Q:Exit -> Act -> World -> Prop} (s x:Operand) (t:TypeId)
  (ho:o.op = .call { callee:=.builtin .append,args:=#[s,x],argTypes:=#[t,t] })
  (base:Nat) (e:TypeId) (i:TypeInfo) (z:Value) (size bytes:Nat) (ht:P.underlying t = some (.slice e)) (hi:P.info? e = some i) (hz:i.zero = some z)
  (hsize:i.size = size) (hby:i.bytes = bytes) (hzs:z.cells.size = size) (hsz : 0 < size)
  (v:Value) (n:Nat) (xs:List Value) (hs:a.eval s = v) (hown:w.ownsRow base e size v n xs)
  (A:Option Addr) (m c:Nat) (news:List Value) (hx:a.eval x = .slice A m c) (hA:A = none -> c = 0) (hr:Lies w A news) (hl:news.length = m * size) (h1:∀ u ∈ news,u.oneCell' = true)
  (h63:n + m <= maxLen) (hbytes:(n + m) * bytes <= 140737488355328) (hbase:base <= w.heap.size) (N:Nat) (hN:n + m = N)
  (h:∀ A' c' w',w'.ownsRow base e size (.slice A' N c') N (xs ++ news) -> w.grownBy w' v.ownBlock -> ((Value.slice A' N c').ownBlock = v.ownBlock ∨ (Value.slice A' N c').ownBlock = some w.heap.size) -> K (a.put o.dst (.slice A' N c')) w'):o.wp P a w K Q:=by
 subst hN
 cases A with
 | none=>
  have hnil:news = []:=by
   rcases news with _ | ⟨u,l⟩
   ·rfl
   ·obtain ⟨b,off,e,_⟩:=hr (by simp);cases e
  subst hnil
  have hm:m = 0:=by
   rcases Nat.eq_zero_or_pos m with h0 | h0
   ·exact h0
   ·have:=Nat.mul_pos h0 hsz;simp at hl;omega
  subst hm
  obtain rfl:=hA rfl
  have hrun:=run_append_owned_none (P:=P) (w:=w) base t o.type e i size ht hi v n xs hown
  unfold Oper.wp
  simp [execOp,ho,resolve,invoke,builtin,hs,hx,hrun,Result.andThen]
  obtain ⟨A',c',rfl⟩:=J1 hown
  exact h A' c' w (by simpa using hown) (World.grownBy.refl _ _) (.inl rfl)
 | some ad=>
  obtain ⟨v',w',hrun,h2,h3,_,h5⟩:=run_append_own_at (P:=P) w base t o.type e i z size bytes ht hi hz hsize hby hzs hsz v n xs hown ad m c news hl (fun j u hu=>hr.cells_add j u hu) h1 h63 hbytes hbase
  obtain ⟨A',c',rfl⟩:=J1 h2
  unfold Oper.wp execOp
  simp only [ho,resolve,invoke,builtin,Sem.run_bind,Sem.run_pure,Result.andThen_ok,List.map_toArray,List.map_cons,List.map_nil,hs,hx,hrun]
  exact h A' c' w' h2 h3 h5
theorem Jd {ops:Array Oper} {rest:List Oper} {o:Oper} {a:Act} {Q:Exit -> Act -> World -> Prop} (hw:Region.wanted o (yielded ops a.tmps) = true) (s x:Operand) (t:TypeId)
  (ho:o.op = .call { callee:=.builtin .append,args:=#[s,x],argTypes:=#[t,t] })
  (base:Nat) (e:TypeId) (i:TypeInfo) (z:Value) (size bytes:Nat) (ht:P.underlying t = some (.slice e)) (hi:P.info? e = some i) (hz:i.zero = some z)
  (hsize:i.size = size) (hby:i.bytes = bytes) (hzs:z.cells.size = size) (hsz : 0 < size)
  (v:Value) (n:Nat) (xs:List Value) (hs:a.eval s = v) (hown:w.ownsRow base e size v n xs)
  (A:Option Addr) (m c:Nat) (news:List Value) (hx:a.eval x = .slice A m c) (hA:A = none -> c = 0) (hr:Lies w A news) (hl:news.length = m * size) (h1:∀ u ∈ news,u.oneCell' = true)
  (h63:n + m <= maxLen) (hbytes:(n + m) * bytes <= 140737488355328) (hbase:base <= w.heap.size) (N:Nat) (hN:n + m = N)
  (h:∀ A' c' w',w'.ownsRow base e size (.slice A' N c') N (xs ++ news) -> w.grownBy w' v.ownBlock -> ((Value.slice A' N c').ownBlock = v.ownBlock ∨ (Value.slice A' N c').ownBlock = some w.heap.size) -> wpList P ops Q rest (a.put o.dst (.slice A' N c')) w') :
  wpList P ops Q (o :: rest) a w:=
 wpList_step fun K hK=>by
  rw [if_pos hw]
  exact Jr w s x t ho base e i z size bytes ht hi hz hsize hby hzs hsz v n xs hs hown A m c news hx hA hr hl h1 h63 hbytes hbase N hN fun A' c' w' h2 h3 h4=>hK _ _ (h A' c' w' h2 h3 h4)
theorem VW {ops:Array Oper} {o:Oper} {a:Act} {K:Act -> World -> Prop} {Q:Exit -> Act -> World -> Prop} {E:Prop} (hgd:o.guard = none) (s x:Operand) (t:TypeId)
  (ho:o.op = .call { callee:=.builtin .append,args:=#[s,x],argTypes:=#[t,t] })
  (base:Nat) (e:TypeId) (i:TypeInfo) (z:Value) (size bytes:Nat) (ht:P.underlying t = some (.slice e)) (hi:P.info? e = some i) (hz:i.zero = some z)
  (hsize:i.size = size) (hby:i.bytes = bytes) (hzs:z.cells.size = size) (hsz : 0 < size)
  (v:Value) (n:Nat) (xs:List Value) (hs:a.eval s = v) (hown:w.ownsRow base e size v n xs)
  (A:Option Addr) (m c:Nat) (news:List Value) (hx:a.eval x = .slice A m c) (hA:A = none -> c = 0) (hr:Lies w A news) (hl:news.length = m * size) (h1:∀ u ∈ news,u.oneCell' = true)
  (h63:n + m <= maxLen) (hbytes:(n + m) * bytes <= 140737488355328) (hbase:base <= w.heap.size) (N:Nat) (hN:n + m = N)
  (h:∀ A' c' w',w'.ownsRow base e size (.slice A' N c') N (xs ++ news) -> w.grownBy w' v.ownBlock -> ((Value.slice A' N c').ownBlock = v.ownBlock ∨ (Value.slice A' N c').ownBlock = some w.heap.size) -> K (a.put o.dst (.slice A' N c')) w') :
  if Region.wanted o (yielded ops a.tmps) = true then Oper.wp P o a w K Q else E:=by
 have hw:Region.wanted o (yielded ops a.tmps) = true:=by simp [Region.wanted,hgd]
 rw [if_pos hw]
 exact Jr w s x t ho base e i z size bytes ht hi hz hsize hby hzs hsz v n xs hs hown A m c news hx hA hr hl h1 h63 hbytes hbase N hN h
end
theorem Zdq {w w':World} (hb:Below w.heap.size w w'):w.grownBy w' none:=⟨hb.os,hb.tape,hb.output,hb.size,fun i hi _=>hb.block i hi⟩
theorem Xi {w w':World} (h:w.grownBy w' none):Below w.heap.size w w':=⟨h.os,h.tape,h.output,h.size,fun i hi=>h.block i hi (by simp)⟩
theorem JE {w w':World} (h:Below w.drew.heap.size w.drew w'):Below w.heap.size w w':=⟨h.os,h.tape,h.output,h.size,h.block⟩
theorem Jf {w w':World} {base:Nat} {e:TypeId} {size n:Nat} {v:Value} {xs:List Value} (h:w.ownsRow base e size v n xs) (hb:Below w.heap.size w w'):w'.ownsRow base e size v n xs:=
 h.kept (Zdq hb) (by cases hx:v.ownBlock <;> simp)
theorem Jo {w w':World} {base:Nat} {e:TypeId} {size n:Nat} {v:Value} {xs:List Value} {row:Option Nat} (h:w.ownsRow base e size v n xs) (hg:w.grownBy w' row) (hr:∀ k,v.ownBlock = some k -> row ≠ some k):w'.ownsRow base e size v n xs:=
 h.kept hg (by
  cases hx:v.ownBlock with
  | none=>exact .inl rfl
  | some k=>exact .inr (fun e=>hr k hx e.symm))
theorem QG {w:World} {base:Nat} {e:TypeId} {size n c:Nat} {A:Option Addr} {xs:List Value} (h:w.ownsRow base e size (.slice A n c) n xs):n <= c:=by
 rcases h.2 with ⟨e1,e2⟩ | ⟨gg,cap,cur,e1,_,_,e2,_⟩
 ·injection e1 with _ e3 _;omega
 ·injection e1 with _ _ e3;omega
theorem Yu (a b:List Int):ics (a ++ b) = ics a ++ ics b:=by simp [ics]
end Go.Proofs.YtfbdihpllmhcnaaGreatDoor
namespace Go.Proofs.YtfbdihpllmhcnaaGreatDoor
open Go.RowKit

abbrev Inn:=Option Addr × Nat × List Int
def InOk (w:World) (x:Inn):Prop:=
 Lies w x.1 (ics x.2.2) /\ (x.1 = none -> x.2.1 = 0 /\ x.2.2 = []) /\ x.2.2.length <= 9223372036854775807 /\ x.2.2.length <= x.2.1 /\ (∀ y ∈ x.2.2,-9223372036854775808 <= y /\ y <= 9223372036854775807)
abbrev lcs (l:List Inn):List Value:=l.map fun x=>Value.slice x.1 x.2.2.length x.2.1
theorem Lies.lat {w:World} {A:Option Addr} {l:List Inn} (h:Lies w A (lcs l)) {k:Nat} (hk:k < l.length) :
  ∃ b off,A = some ⟨b,off,none⟩ /\ b < w.heap.size /\ w.cell? ⟨b,off + k,none⟩ = some (.slice l[k].1 l[k].2.2.length l[k].2.1):=by
 obtain ⟨b,off,e,hb,hc⟩:=h (by simp;omega)
 refine ⟨b,off,e,hb,hc k _ ?_⟩
 simp [gE hk]
theorem InOk.below {w w':World} {x:Inn} (h:InOk w x) (hb:Below w.heap.size w w'):InOk w' x:=⟨h.1.below hb,h.2⟩
theorem InOk.alloc {w:World} {x:Inn} (h:InOk w x) (o:Obj):InOk (w.alloc o) x:=⟨h.1.alloc o,h.2⟩
end Go.Proofs.YtfbdihpllmhcnaaGreatDoor
namespace Go.Proofs.YtfbdihpllmhcnaaGreatDoor
open Go.RowKit Go.WideShapes

def Rd {H:Type} (enc:TypeId × Value -> H) (P:Program) (w:World) (t:TypeId) (cs:List Value):Prop:=
 ∃ fuel x,DataW.trod enc P w 0 (fun _=>true) true fuel t cs = some x

section
variable {α:Type} {H:Type} {enc:TypeId × Value -> H} {P:Program} {w:World} {t e:TypeId} {cs:List Value}

theorem Rd.of {v:Value} {d:DataW H} {p:List MemPlace} (h:DataW.Trod enc P w 0 (fun _=>true) true t v d p):Rd enc P w t v.cells.toList:=by
 obtain ⟨fuel,hf⟩:=h
 exact ⟨fuel,_,hf⟩
theorem Rd.int {k:IntKind} (ht:P.underlying t = some (.int k)) (h:Rd enc P w t cs):∃ n,cs = [.int k n] /\ k.min <= n /\ n <= k.max:=by
 obtain ⟨fuel,x,hf⟩:=h
 cases fuel with
 | zero=>simp [DataW.trod] at hf
 | succ f=>
  unfold DataW.trod at hf
  rw [ht] at hf
  split at hf <;> simp_all
  rename_i h1
  obtain ⟨⟨rfl,hw⟩,_⟩:=hf
  subst h1
  simpa [Lit.wf] using hw
theorem Rd.bool (ht:P.underlying t = some .bool) (h:Rd enc P w t cs):∃ b,cs = [.bool b]:=by
 obtain ⟨fuel,x,hf⟩:=h
 cases fuel with
 | zero=>simp [DataW.trod] at hf
 | succ f=>
  unfold DataW.trod at hf
  rw [ht] at hf
  split at hf <;> simp_all
theorem Rd.string (ht:P.underlying t = some .string) (h:Rd enc P w t cs):∃ s,cs = [.string s] /\ s.size <= maxLen:=by
 obtain ⟨fuel,x,hf⟩:=h
 cases fuel with
 | zero=>simp [DataW.trod] at hf
 | succ f=>
  unfold DataW.trod at hf
  rw [ht] at hf
  split at hf <;> simp_all
theorem Rd.struct {fs:Array Field} (ht:P.underlying t = some (.struct fs)) (h:Rd enc P w t cs) :
  cs.length = P.cellsOf t /\ ∀ (i:Nat) (f:Field),fs[i]? = some f -> Rd enc P w f.type ((cs.drop f.offset).take (P.cellsOf f.type)):=by
 obtain ⟨fuel,x,hf⟩:=h
 obtain ⟨xs,n,_,_,hl,hlen,hall⟩:=DataW.trod_struct ht hf
 refine ⟨hl,fun i f hi=>?_⟩
 have h1:i < xs.length:=by rw [hlen];exact (aE hi).1
 exact ⟨n,xs[i],(hall i f hi).trans (gE h1)⟩
theorem Zip {elem : α -> List Value} {S:Nat}:∀ (l:List α) (a:Addr),(∀ i x,l[i]? = some x -> (elem x).length = S /\ ∀ j,j < S -> w.cell? (a.add (i * S + j)) = (elem x)[j]?) ->
  ∀ k u,(l.flatMap elem)[k]? = some u -> w.cell? (a.add k) = some u:=by
 intro l
 induction l with
 | nil=>intro a _ k u h;simp at h
 | cons x xs ih=>
  intro a h k u hk
  obtain ⟨h1,h2⟩:=h 0 x rfl
  rw [List.flatMap_cons,List.getElem?_append] at hk
  split at hk <;> rename_i hlt
  ·rw [h1] at hlt
   have:=h2 k hlt
   rw [Nat.zero_mul,Nat.zero_add,hk] at this
   exact this
  ·rw [h1] at hk hlt
   have h3:=ih (a.add S) (fun i y hy=>by
    obtain ⟨g1,g2⟩:=h (i + 1) y (by simpa using hy)
    refine ⟨g1,fun j hj=>?_⟩
    rw [Addr.add_add,<- g2 j hj]
    congr 2
    rw [Nat.succ_mul];omega) (k - S) u hk
   rw [Addr.add_add] at h3
   rwa [show S + (k - S) = k by omega] at h3

theorem Rd.slice {α:Type} {S:Nat} (ht:P.underlying t = some (.slice e)) (hS:P.cellsOf e = S) (elem : α -> List Value) (Pr : α -> Prop)
  (he:∀ cs,Rd enc P w e cs -> ∃ a,cs = elem a /\ Pr a) (h:Rd enc P w t cs) :
  ∃ A c,∃ l:List α,cs = [.slice A l.length c] /\ Lies w A (l.flatMap elem) /\ (A = none -> c = 0 /\ l = []) /\ l.length <= 9223372036854775807 /\ l.length <= c /\ (∀ a ∈ l,Pr a):=by
 obtain ⟨fuel,x,hf⟩:=h
 rcases DataW.trod_slice ht hf with ⟨rfl,_⟩ | ⟨a,len,cap,elems,rest,n,_,rfl,_,_,hl,hm,hlen,hel,_,_⟩
 ·exact ⟨none,0,[],rfl,Lies.nil _ _,fun _=>⟨rfl,rfl⟩,by simp,by simp,by simp⟩
 ·have key:∀ i,i < len -> ∃ y,Pr y /\ (elem y).length = S /\ ∀ j,j < S -> w.cell? (a.add (i * S + j)) = (elem y)[j]?:=by
   intro i hi
   have h1:=hel i hi
   rw [gE (by omega)] at h1
   obtain ⟨es,h2,h3⟩:=Option.bind_eq_some_iff.1 h1
   obtain ⟨y,rfl,hy⟩:=he es ⟨n,_,h3⟩
   obtain ⟨_,h4,h5⟩:=World.cells?_some h2
   rw [hS] at h4 h5
   refine ⟨y,hy,h4,fun j hj=>?_⟩
   rw [<- h5 j hj,Addr.add_add]
  have pick:∀ m,m <= len -> ∃ l:List α,l.length = m /\ ∀ i y,l[i]? = some y -> Pr y /\ (elem y).length = S /\ ∀ j,j < S -> w.cell? (a.add (i * S + j)) = (elem y)[j]?:=by
   intro m
   induction m with
   | zero=>intro _;exact ⟨[],rfl,fun i y hy=>by simp at hy⟩
   | succ m ih=>
    intro hm'
    obtain ⟨l,hl1,hl2⟩:=ih (by omega)
    obtain ⟨y,hy⟩:=key m (by omega)
    refine ⟨l ++ [y],by simp [hl1],fun i z hz=>?_⟩
    rw [List.getElem?_append] at hz
    split at hz
    ·exact hl2 i z hz
    ·rename_i hge
     have hi:i = m:=by
      have:=(List.getElem?_eq_some_iff.1 hz).1
      simp at this;omega
     subst hi
     rw [hl1,Nat.sub_self] at hz
     simp at hz
     subst hz
     exact hy
  obtain ⟨l,hll,hg⟩:=pick len nR
  refine ⟨some a,cap,l,by rw [hll],fun h0=>?_,fun h=>by simp at h,?_,by omega,fun y hy=>?_⟩
  ·have hc:=Zip (w:=w) l a (fun i x hx=>(hg i x hx).2)
   obtain ⟨u,hu⟩:∃ u,(l.flatMap elem)[0]? = some u:=⟨_,gE h0⟩
   have h1:=hc 0 u hu
   obtain ⟨b,off,sp⟩:=a
   have hsp:sp = none:=by
    cases sp with
    | none=>rfl
    | some q=>
     exfalso
     simp [Addr.add,World.cell?] at h1
     split at h1 <;> simp_all
   subst hsp
   refine ⟨b,off,rfl,?_,fun k u hk=>?_⟩
   ·apply Decidable.byContradiction
    intro hb
    simp [Addr.add,World.cell?,hb] at h1
   ·have:=hc k u hk
    rwa [Addr.add_lit] at this
  ·rw [hll];unfold maxLen at hm;omega
  ·obtain ⟨i,hi,rfl⟩:=List.getElem_of_mem hy
   exact (hg i _ (gE hi)).1
theorem Rd.ints (ht:P.underlying t = some (.slice e)) (he:P.underlying e = some (.int .i64)) (hc:P.cellsOf e = 1) (h:Rd enc P w t cs) :
  ∃ A c l,cs = [.slice A l.length c] /\ Lies w A (ics l) /\ (A = none -> c = 0 /\ l = []) /\ l.length <= 9223372036854775807 /\ l.length <= c /\ (∀ x ∈ l,-9223372036854775808 <= x /\ x <= 9223372036854775807):=by
 obtain ⟨A,c,l,h1,h2,h3⟩:=h.slice ht hc (fun n=>[Value.int .i64 n]) (fun n=>-9223372036854775808 <= n /\ n <= 9223372036854775807) (fun cs hcs=>hcs.int he)
 refine ⟨A,c,l,h1,?_,h3⟩
 have:(l.flatMap fun n=>[Value.int .i64 n]) = ics l:=by
  clear h1 h2 h3
  induction l with
  | nil=>rfl
  | cons x xs ih=>rw [List.flatMap_cons,ih];rfl
 rwa [this] at h2
variable {v:Value} {d:DataW H} {p:List MemPlace} {r:Reach} {b0:Nat}
theorem Zgo (ht:P.underlying t = some (.slice e)) (he:P.underlying e = some (.int .i64)) (hc:P.cellsOf e = 1) (hv:Value.okWide P w r b0 t v) (h:DataW.Trod enc P w 0 (fun _=>true) true t v d p) :
  ∃ A c l,v = .slice A l.length c /\ Lies w A (ics l) /\ (A = none -> c = 0 /\ l = []) /\ l.length <= 9223372036854775807 /\ l.length <= c /\ (∀ x ∈ l,-9223372036854775808 <= x /\ x <= 9223372036854775807):=by
 obtain ⟨A',n',c',rfl⟩:=okWide_slice ht hv
 obtain ⟨A,c,l,h1,h2⟩:=(Rd.of h).ints ht he hc
 simp [Value.cells] at h1
 obtain ⟨rfl,rfl,rfl⟩:=h1
 exact ⟨A',c',l,rfl,h2⟩
theorem Zft {k:IntKind} (l:List Int):(l.flatMap fun n=>[Value.int k n]) = l.map (Value.int k):=by
 induction l with
 | nil=>rfl
 | cons x xs ih=>rw [List.flatMap_cons,ih];rfl
theorem Zdo {fs:Array Field} {n:Nat} (ht:P.underlying t = some (.struct fs)) (hC:P.cellsOf t = n) (hv:Value.okWide P w r b0 t v) (h:DataW.Trod enc P w 0 (fun _=>true) true t v d p) :
  ∃ cs:List Value,v = .agg cs.toArray /\ cs.length = n /\ ∀ (i:Nat) (f:Field),fs[i]? = some f -> Rd enc P w f.type ((cs.drop f.offset).take (P.cellsOf f.type)):=by
 obtain ⟨cs,rfl,hs⟩:=okWide_struct ht hv
 have h1:=(Rd.of h).struct ht
 refine ⟨cs.toList,by simp,by rw [<- hC,<- hs];simp,?_⟩
 simpa [Value.cells] using h1.2
end
end Go.Proofs.YtfbdihpllmhcnaaGreatDoor
namespace Go.Proofs.YtfbdihpllmhcnaaGreatDoor
open Go.RowKit Ear

def Ziu (v:Int) (w:World) (e:Ending) (w':World):Prop:=e = .returned (.int .i64 v) /\ ∃ n,w' = w.drewN n
theorem ZdB (n:Nat):(madeCells (Value.int .i64 0).cells (n * 1)).toList = ics (List.replicate n 0):=by
 apply List.ext_getElem (by simp [madeCells])
 intro k h1 h2
 simp [madeCells,Value.cells,Nat.mod_one]
theorem ZR (w:World) (n:Nat) (hn:n <= 1000000000) (base:Nat) (hb:base <= w.heap.size) :
  ∃ w',(Instr.makeSlice 22 (.int .i64 (n:Int)) (.int .i64 (n:Int))).run Tryz.prog w = .ok (.slice (some ⟨w.heap.size,0,none⟩) n n) w' /\
   w'.ownsRow base 3 1 (.slice (some ⟨w.heap.size,0,none⟩) n n) n (ics (List.replicate n 0)) /\ Below w.heap.size w w':=by
 obtain ⟨i0,hi0,hz0,hz1,hz2⟩:=info_parts YC
 obtain ⟨w',h1,h2,h3⟩:=run_make_full (P:=Tryz.prog) w base 22 3 i0 _ 1 Tryz.underlying22 hi0 hz0 hz1 .i64 .i64 n (by rw [hz2];omega) (by unfold maxLen;omega) hb
 rw [ZdB] at h2
 exact ⟨w',h1,h2,Xi h3⟩
def QZ (b:Bool) (w:World) (e:Ending) (w':World):Prop:=e = .returned (.bool b) /\ Below w.heap.size w w'

end Go.Proofs.YtfbdihpllmhcnaaGreatDoor
namespace Ear

abbrev BB:Int:=4294967296
def vl:List Int -> Int
 | []=>0
 | d :: l=>d + BB * vl l
def dgs (l:List Int):Prop:=∀ x ∈ l,0 <= x /\ x <= 4294967295
theorem Zh0 (k:Nat) : 0 < BB ^ k:=Int.pow_pos (by decide)
theorem QV (k:Nat):BB ^ (k + 1) = BB * BB ^ k:=by rw [Int.pow_succ,Int.mul_comm]
theorem Yo (a b:List Int):vl (a ++ b) = vl a + BB ^ a.length * vl b:=by
 induction a with
 | nil=>simp [vl]
 | cons d a ih=>rw [List.cons_append,vl,vl,ih,List.length_cons,QV,Int.mul_add,Int.mul_assoc,Int.add_assoc]
theorem Yg (l:List Int) (k:Nat) (hk:k < l.length):vl (l.take (k + 1)) = vl (l.take k) + BB ^ k * l[k]?.getD 0:=by
 rw [List.take_succ_eq_append_getElem hk,Yo,List.getElem?_eq_getElem hk,List.length_take,Nat.min_eq_left (by omega)]
 simp [vl]
theorem J0 (n:Nat):vl (List.replicate n 0) = 0:=by
 induction n with
 | zero=>rfl
 | succ n ih=>rw [List.replicate_succ,vl,ih];rfl
theorem UU (l:List Int) (k:Nat) (v:Int) (hk:k < l.length):vl (l.set k v) = vl l + BB ^ k * (v - l[k]?.getD 0):=by
 induction l generalizing k with
 | nil=>simp at hk
 | cons d l ih=>
  cases k with
  | zero=>simp [vl];omega
  | succ k=>
   rw [List.set_cons_succ,vl,vl,ih k (by simpa using hk),QV,List.getElem?_cons_succ,Int.mul_add,Int.mul_assoc,Int.add_assoc]
theorem Zcd {l:List Int} (h:dgs l) : 0 <= vl l /\ vl l < BB ^ l.length:=by
 induction l with
 | nil=>simp [vl]
 | cons d l ih=>
  have h1:=h d (List.mem_cons_self ..)
  have h2:=ih fun x hx=>h x (List.mem_cons_of_mem _ hx)
  rw [vl,List.length_cons,QV]
  have h3:BB * (vl l + 1) <= BB * BB ^ l.length:=Int.mul_le_mul_of_nonneg_left (by omega) (by decide)
  have h4 : 0 <= BB * vl l:=Int.mul_nonneg (by decide) h2.1
  rw [Int.mul_add] at h3
  simp only [BB] at *
  omega
theorem JD {l:List Int} (h:dgs l) (k:Nat) : 0 <= l[k]?.getD 0 /\ l[k]?.getD 0 <= 4294967295:=by
 by_cases hk:k < l.length
 ·rw [List.getElem?_eq_getElem hk];exact h _ (List.getElem_mem hk)
 ·rw [List.getElem?_eq_none (by omega)];simp
theorem YY {l:List Int} (h:dgs l) (k:Nat) {v:Int} (h0 : 0 <= v) (h1:v <= 4294967295):dgs (l.set k v):=by
 intro x hx
 rcases List.mem_or_eq_of_mem_set hx with h2 | h2
 ·exact h x h2
 ·omega
theorem JV (n:Nat):dgs (List.replicate n 0):=by
 intro x hx;have:=List.eq_of_mem_replicate hx;omega
theorem QO {l:List Int} (h:dgs l) (k:Nat):dgs (l.take k):=fun x hx=>h x (List.mem_of_mem_take hx)
def zer (l:List Int) (k:Nat):Prop:=∀ q,k <= q -> l[q]?.getD 0 = 0
theorem Zhc {l:List Int} {k:Nat} (h:zer l k):vl l = vl (l.take k):=by
 have e:l = l.take k ++ l.drop k:=(List.take_append_drop k l).symm
 have hz:vl (l.drop k) = 0:=by
  have:l.drop k = List.replicate (l.drop k).length 0:=by
   apply List.ext_getElem (by simp)
   intro q h1 h2
   have:=h (k + q) (by omega)
   rw [List.getElem?_eq_getElem (by simp at h1;omega)] at this
   simpa using this
  rw [this,J0]
 conv=>lhs;rw [e]
 rw [Yo,hz];simp
theorem Zc5 {x y:Int} (hx : 0 <= x /\ x <= 4294967295) (hy : 0 <= y /\ y <= 4294967295) : 0 <= x * y /\ x * y <= 18446744065119617025:=by
 have h1:=Int.mul_nonneg hx.1 hy.1
 have h2:x * y <= 4294967295 * 4294967295:=Int.mul_le_mul hx.2 hy.2 hy.1 (by decide)
 omega
end Ear
namespace Go.Proofs.YtfbdihpllmhcnaaGreatDoor
open Go.RowKit Ear

abbrev ucs (l:List Int):List Value:=l.map (Value.int .u32)
theorem Xv:(Tryz.prog.info? 163).map (fun i=>(i.zero,i.size,i.bytes)) = some (some (.int .u32 0),1,4):=by kernel_rfl
theorem ZbU (n:Nat):(madeCells (Value.int .u32 0).cells (n * 1)).toList = ucs (List.replicate n 0):=by
 apply List.ext_getElem (by simp [madeCells])
 intro k h1 h2
 simp [madeCells,Value.cells,Nat.mod_one]
theorem XJ (w:World) (n:Nat) (hn:n <= 1000000000) (base:Nat) (hb:base <= w.heap.size) :
  ∃ w',(Instr.makeSlice 24 (.int .i64 (n:Int)) (.int .i64 (n:Int))).run Tryz.prog w = .ok (.slice (some ⟨w.heap.size,0,none⟩) n n) w' /\
   w'.ownsRow base 163 1 (.slice (some ⟨w.heap.size,0,none⟩) n n) n (ucs (List.replicate n 0)) /\ Below w.heap.size w w':=by
 obtain ⟨i0,hi0,hz0,hz1,hz2⟩:=info_parts Xv
 obtain ⟨w',h1,h2,h3⟩:=run_make_full (P:=Tryz.prog) w base 24 163 i0 _ 1 Tryz.underlying24 hi0 hz0 hz1 .i64 .i64 n (by rw [hz2];omega) (by unfold maxLen;omega) hb
 rw [ZbU] at h2
 exact ⟨w',h1,h2,Xi h3⟩
theorem Lies.uat {w:World} {A:Option Addr} {l:List Int} (h:Lies w A (ucs l)) {k:Nat} (hk:k < l.length) :
  ∃ b off,A = some ⟨b,off,none⟩ /\ b < w.heap.size /\ w.cell? ⟨b,off + k,none⟩ = some (.int .u32 (l[k]?.getD 0)):=by
 obtain ⟨b,off,e,hb,hc⟩:=h (by simp;omega)
 refine ⟨b,off,e,hb,hc k _ ?_⟩
 simp [gE hk]
end Go.Proofs.YtfbdihpllmhcnaaGreatDoor
