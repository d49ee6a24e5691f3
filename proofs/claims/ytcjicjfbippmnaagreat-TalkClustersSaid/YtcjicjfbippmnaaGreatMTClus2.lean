/- TalkClusters -/
import Derived.Test.YtcjicjfbippmnaaGreatMTClus1
import Derived.Lib.Strings
import Derived.Lib.Slices
import Derived.Lib.Small
import Derived.Lib.Walk
set_option maxRecDepth 100000
set_option maxHeartbeats 32000000
namespace Go.Proofs.YtcjicjfbippmnaaGreat
open Go.RowKit

structure Led (w0 w:World) (F:List (Option Addr × List Value)):Prop where
 bel:Below w0.heap.size w0 w
 lies:∀ (i:Nat) (A:Option Addr) (xs:List Value),F[i]? = some (A,xs) -> Lies w A xs

section
variable {w0 w w':World} {F:List (Option Addr × List Value)}
theorem Led.nil (w:World):Led w w []:=⟨Below.refl _ _,fun i A xs h=>by simp at h⟩
theorem Led.below (h:Led w0 w F) (hb:Below w.heap.size w w'):Led w0 w' F:=
 ⟨h.bel.trans (hb.mono h.bel.size),fun i A xs e=>(h.lies i A xs e).below hb⟩
theorem Led.alloc (h:Led w0 w F) (o:Obj):Led w0 (w.alloc o) F:=
 ⟨h.bel.alloc h.bel.size o,fun i A xs e=>(h.lies i A xs e).alloc o⟩
theorem Led.add (h:Led w0 w F) {A:Option Addr} {xs:List Value} (hl:Lies w A xs):Led w0 w (F ++ [(A,xs)]):=⟨h.bel,fun i A' xs' e=>by
 rw [List.getElem?_append] at e;split at e
 ·exact h.lies i A' xs' e
 ·rename_i hge;have:i - F.length = 0:=by
   have:=(List.getElem?_eq_some_iff.1 e).1;simp at this;omega
  rw [this] at e;simp at e;obtain ⟨rfl,rfl⟩:=e;exact hl⟩
theorem Led.row (h:Led w0 w F) {g:Nat} {t:TypeId} {cs:Array Value} (hr:w.heap[g]? = some (.cells cs t (0,0))):Led w0 w (F ++ [(some ⟨g,0,none⟩,cs.toList)]):=
 h.add (fun _=>⟨g,0,rfl,ZhR hr,fun k u hu=>by rw [Nat.zero_add,cell_of_row w g k _ _ _ hr];simpa using hu⟩)
theorem Led.cell (h:Led w0 w F) (i:Nat) {b off:Nat} {xs:List Value} (e:F[i]? = some (some ⟨b,off,none⟩,xs)) (k:Nat) {u:Value} (hu:xs[k]? = some u):w.cell? ⟨b,off + k,none⟩ = some u:=by
 obtain ⟨b',off',e',_,hc⟩:=h.lies i _ _ e (by have:=(List.getElem?_eq_some_iff.1 hu).1;omega);cases e';exact hc k u hu
end

section
variable {P:Program} (w:World)
theorem Jz {o:Oper} {a:Act} {K:Act -> World -> Prop} {Q:Exit -> Act -> World -> Prop} (s x:Operand) (t:TypeId)
  (ho:o.op = .call { callee:=.builtin .append,args:=#[s,x],argTypes:=#[t,t] })
  (base:Nat) (e:TypeId) (i:TypeInfo) (z:Value) (size bytes:Nat) (ht:P.underlying t = some (.slice e)) (hi:P.info? e = some i) (hz:i.zero = some z)
  (hsize:i.size = size) (hby:i.bytes = bytes) (hzs:z.cells.size = size) (hsz : 0 < size)
  (v:Value) (n:Nat) (xs:List Value) (hs:a.eval s = v) (hown:w.ownsRow base e size v n xs)
  (A:Option Addr) (m c:Nat) (news:List Value) (hx:a.eval x = .slice A m c) (hA:A = none -> c = 0) (hr:Lies w A news) (hl:news.length = m * size) (h1:∀ u ∈ news,u.oneCell' = true)
  (h63:n + m <= maxLen) (hbytes:(n + m) * bytes <= 140737488355328) (hbase:base <= w.heap.size) (N:Nat) (hN:n + m = N)
  (h:∀ A' c' w',w'.ownsRow base e size (.slice A' N c') N (xs ++ news) -> w.grownBy w' v.ownBlock -> ((Value.slice A' N c').ownBlock = v.ownBlock ∨ (Value.slice A' N c').ownBlock = some w.heap.size) -> K (a.put o.dst (.slice A' N c')) w'):o.wp P a w K Q:=by
 subst hN;cases A with
 | none=>
  have hnil:news = []:=by
   rcases news with _ | ⟨u,l⟩
   ·rfl
   ·obtain ⟨b,off,e,_⟩:=hr (by simp);cases e
  subst hnil;have hm:m = 0:=by
   rcases Nat.eq_zero_or_pos m with h0 | h0
   ·exact h0
   ·have:=Nat.mul_pos h0 hsz;simp at hl;omega
  subst hm;obtain rfl:=hA rfl;have hrun:=run_append_owned_none (P:=P) (w:=w) base t o.type e i size ht hi v n xs hown;unfold Oper.wp;simp [execOp,ho,resolve,invoke,builtin,hs,hx,hrun,Result.andThen];obtain ⟨A',c',rfl⟩:=J5 hown;exact h A' c' w (by simpa using hown) (World.grownBy.refl _ _) (.inl rfl)
 | some ad=>
  obtain ⟨v',w',hrun,h2,h3,_,h5⟩:=run_append_own_at (P:=P) w base t o.type e i z size bytes ht hi hz hsize hby hzs hsz v n xs hown ad m c news hl (fun j u hu=>hr.cells_add j u hu) h1 h63 hbytes hbase;obtain ⟨A',c',rfl⟩:=J5 h2;unfold Oper.wp execOp;simp only [ho,resolve,invoke,builtin,Sem.run_bind,Sem.run_pure,Result.andThen_ok,List.map_toArray,List.map_cons,List.map_nil,hs,hx,hrun];exact h A' c' w' h2 h3 h5
theorem Jf {ops:Array Oper} {rest:List Oper} {o:Oper} {a:Act} {Q:Exit -> Act -> World -> Prop} (hw:Region.wanted o (yielded ops a.tmps) = true) (s x:Operand) (t:TypeId)
  (ho:o.op = .call { callee:=.builtin .append,args:=#[s,x],argTypes:=#[t,t] })
  (base:Nat) (e:TypeId) (i:TypeInfo) (z:Value) (size bytes:Nat) (ht:P.underlying t = some (.slice e)) (hi:P.info? e = some i) (hz:i.zero = some z)
  (hsize:i.size = size) (hby:i.bytes = bytes) (hzs:z.cells.size = size) (hsz : 0 < size)
  (v:Value) (n:Nat) (xs:List Value) (hs:a.eval s = v) (hown:w.ownsRow base e size v n xs)
  (A:Option Addr) (m c:Nat) (news:List Value) (hx:a.eval x = .slice A m c) (hA:A = none -> c = 0) (hr:Lies w A news) (hl:news.length = m * size) (h1:∀ u ∈ news,u.oneCell' = true)
  (h63:n + m <= maxLen) (hbytes:(n + m) * bytes <= 140737488355328) (hbase:base <= w.heap.size) (N:Nat) (hN:n + m = N)
  (h:∀ A' c' w',w'.ownsRow base e size (.slice A' N c') N (xs ++ news) -> w.grownBy w' v.ownBlock -> ((Value.slice A' N c').ownBlock = v.ownBlock ∨ (Value.slice A' N c').ownBlock = some w.heap.size) -> wpList P ops Q rest (a.put o.dst (.slice A' N c')) w') :
  wpList P ops Q (o :: rest) a w:=
 wpList_step fun K hK=>by
  rw [if_pos hw];exact Jz w s x t ho base e i z size bytes ht hi hz hsize hby hzs hsz v n xs hs hown A m c news hx hA hr hl h1 h63 hbytes hbase N hN fun A' c' w' h2 h3 h4=>hK _ _ (h A' c' w' h2 h3 h4)
theorem Us {ops:Array Oper} {o:Oper} {a:Act} {K:Act -> World -> Prop} {Q:Exit -> Act -> World -> Prop} {E:Prop} (hgd:o.guard = none) (s x:Operand) (t:TypeId)
  (ho:o.op = .call { callee:=.builtin .append,args:=#[s,x],argTypes:=#[t,t] })
  (base:Nat) (e:TypeId) (i:TypeInfo) (z:Value) (size bytes:Nat) (ht:P.underlying t = some (.slice e)) (hi:P.info? e = some i) (hz:i.zero = some z)
  (hsize:i.size = size) (hby:i.bytes = bytes) (hzs:z.cells.size = size) (hsz : 0 < size)
  (v:Value) (n:Nat) (xs:List Value) (hs:a.eval s = v) (hown:w.ownsRow base e size v n xs)
  (A:Option Addr) (m c:Nat) (news:List Value) (hx:a.eval x = .slice A m c) (hA:A = none -> c = 0) (hr:Lies w A news) (hl:news.length = m * size) (h1:∀ u ∈ news,u.oneCell' = true)
  (h63:n + m <= maxLen) (hbytes:(n + m) * bytes <= 140737488355328) (hbase:base <= w.heap.size) (N:Nat) (hN:n + m = N)
  (h:∀ A' c' w',w'.ownsRow base e size (.slice A' N c') N (xs ++ news) -> w.grownBy w' v.ownBlock -> ((Value.slice A' N c').ownBlock = v.ownBlock ∨ (Value.slice A' N c').ownBlock = some w.heap.size) -> K (a.put o.dst (.slice A' N c')) w') :
  if Region.wanted o (yielded ops a.tmps) = true then Oper.wp P o a w K Q else E:=by
 have hw:Region.wanted o (yielded ops a.tmps) = true:=by simp [Region.wanted,hgd]
 rw [if_pos hw];exact Jz w s x t ho base e i z size bytes ht hi hz hsize hby hzs hsz v n xs hs hown A m c news hx hA hr hl h1 h63 hbytes hbase N hN h
end
theorem ZdS {w w':World} (hb:Below w.heap.size w w'):w.grownBy w' none:=⟨hb.os,hb.tape,hb.output,hb.size,fun i hi _=>hb.block i hi⟩
theorem Xn {w w':World} (h:w.grownBy w' none):Below w.heap.size w w':=⟨h.os,h.tape,h.output,h.size,fun i hi=>h.block i hi (by simp)⟩
theorem JK {w w':World} (h:Below w.drew.heap.size w.drew w'):Below w.heap.size w w':=⟨h.os,h.tape,h.output,h.size,h.block⟩
theorem Jh {w w':World} {base:Nat} {e:TypeId} {size n:Nat} {v:Value} {xs:List Value} (h:w.ownsRow base e size v n xs) (hb:Below w.heap.size w w'):w'.ownsRow base e size v n xs:=
 h.kept (ZdS hb) (by cases hx:v.ownBlock <;> simp)
theorem Jq {w w':World} {base:Nat} {e:TypeId} {size n:Nat} {v:Value} {xs:List Value} {row:Option Nat} (h:w.ownsRow base e size v n xs) (hg:w.grownBy w' row) (hr:∀ k,v.ownBlock = some k -> row ≠ some k):w'.ownsRow base e size v n xs:=
 h.kept hg (by
  cases hx:v.ownBlock with
  | none=>exact .inl rfl
  | some k=>exact .inr (fun e=>hr k hx e.symm))
theorem VB {w:World} {base:Nat} {e:TypeId} {size n c:Nat} {A:Option Addr} {xs:List Value} (h:w.ownsRow base e size (.slice A n c) n xs):n <= c:=by
 rcases h.2 with ⟨e1,e2⟩ | ⟨gg,cap,cur,e1,_,_,e2,_⟩
 ·injection e1 with _ e3 _;omega
 ·injection e1 with _ _ e3;omega
theorem YL (a b:List Int):ics (a ++ b) = ics a ++ ics b:=by simp [ics]
end Go.Proofs.YtcjicjfbippmnaaGreat
namespace Go.Proofs.YtcjicjfbippmnaaGreat
open Go.RowKit Ear

def ZiV (v:Int) (w:World) (e:Ending) (w':World):Prop:=e = .returned (.int .i64 v) /\ ∃ n,w' = w.drewN n
def Zdn (b:Bool) (w:World) (e:Ending) (w':World):Prop:=e = .returned (.bool b) /\ Below w.heap.size w w'
theorem Zd2 (n:Nat):(madeCells (Value.int .i64 0).cells (n * 1)).toList = ics (List.replicate n 0):=by
 apply List.ext_getElem (by simp [madeCells]);intro k h1 h2;simp [madeCells,Value.cells,Nat.mod_one]
theorem Zh (w:World) (n:Nat) (hn:n <= 1000000000) (base:Nat) (hb:base <= w.heap.size) :
  ∃ w',(Instr.makeSlice 40 (.int .i64 (n:Int)) (.int .i64 (n:Int))).run Tryz.prog w = .ok (.slice (some ⟨w.heap.size,0,none⟩) n n) w' /\
   w'.ownsRow base 3 1 (.slice (some ⟨w.heap.size,0,none⟩) n n) n (ics (List.replicate n 0)) /\ Below w.heap.size w w':=by
 obtain ⟨i0,hi0,hz0,hz1,hz2⟩:=info_parts Yz;obtain ⟨w',h1,h2,h3⟩:=run_make_full (P:=Tryz.prog) w base 40 3 i0 _ 1 Tryz.underlying40 hi0 hz0 hz1 .i64 .i64 n (by rw [hz2];omega) (by unfold maxLen;omega) hb;rw [Zd2] at h2;exact ⟨w',h1,h2,Xn h3⟩
abbrev ucs (l:List Int):List Value:=l.map (Value.int .u32)
theorem XB:(Tryz.prog.info? 173).map (fun i=>(i.zero,i.size,i.bytes)) = some (some (.int .u32 0),1,4):=by kernel_rfl
theorem Zcm (n:Nat):(madeCells (Value.int .u32 0).cells (n * 1)).toList = ucs (List.replicate n 0):=by
 apply List.ext_getElem (by simp [madeCells]);intro k h1 h2;simp [madeCells,Value.cells,Nat.mod_one]
theorem XD (w:World) (n:Nat) (hn:n <= 1000000000) (base:Nat) (hb:base <= w.heap.size) :
  ∃ w',(Instr.makeSlice 26 (.int .i64 (n:Int)) (.int .i64 (n:Int))).run Tryz.prog w = .ok (.slice (some ⟨w.heap.size,0,none⟩) n n) w' /\
   w'.ownsRow base 173 1 (.slice (some ⟨w.heap.size,0,none⟩) n n) n (ucs (List.replicate n 0)) /\ Below w.heap.size w w':=by
 obtain ⟨i0,hi0,hz0,hz1,hz2⟩:=info_parts XB;obtain ⟨w',h1,h2,h3⟩:=run_make_full (P:=Tryz.prog) w base 26 173 i0 _ 1 Tryz.underlying26 hi0 hz0 hz1 .i64 .i64 n (by rw [hz2];omega) (by unfold maxLen;omega) hb;rw [Zcm] at h2;exact ⟨w',h1,h2,Xn h3⟩
theorem Lies.uat {w:World} {A:Option Addr} {l:List Int} (h:Lies w A (ucs l)) {k:Nat} (hk:k < l.length) :
  ∃ b off,A = some ⟨b,off,none⟩ /\ b < w.heap.size /\ w.cell? ⟨b,off + k,none⟩ = some (.int .u32 (l[k]?.getD 0)):=by
 obtain ⟨b,off,e,hb,hc⟩:=h (by simp;omega);refine ⟨b,off,e,hb,hc k _ ?_⟩;simp [gE hk]
def ZhA (v:Int) (w:World) (e:Ending) (w':World):Prop:=e = .returned (.int .i64 v) /\ Below w.heap.size w w'

end Go.Proofs.YtcjicjfbippmnaaGreat
namespace Go.Proofs.YtcjicjfbippmnaaGreat
open Go.RowKit

abbrev Inn:=Option Addr × Nat × List Int
def InOk (w:World) (x:Inn):Prop:=
 Lies w x.1 (ics x.2.2) /\ (x.1 = none -> x.2.1 = 0 /\ x.2.2 = []) /\ x.2.2.length <= 9223372036854775807 /\ x.2.2.length <= x.2.1 /\ (∀ y ∈ x.2.2,-9223372036854775808 <= y /\ y <= 9223372036854775807)
abbrev lcs (l:List Inn):List Value:=l.map fun x=>Value.slice x.1 x.2.2.length x.2.1
theorem Lies.lat {w:World} {A:Option Addr} {l:List Inn} (h:Lies w A (lcs l)) {k:Nat} (hk:k < l.length) :
  ∃ b off,A = some ⟨b,off,none⟩ /\ b < w.heap.size /\ w.cell? ⟨b,off + k,none⟩ = some (.slice l[k].1 l[k].2.2.length l[k].2.1):=by
 obtain ⟨b,off,e,hb,hc⟩:=h (by simp;omega);refine ⟨b,off,e,hb,hc k _ ?_⟩;simp [gE hk]
theorem InOk.below {w w':World} {x:Inn} (h:InOk w x) (hb:Below w.heap.size w w'):InOk w' x:=⟨h.1.below hb,h.2⟩
theorem InOk.alloc {w:World} {x:Inn} (h:InOk w x) (o:Obj):InOk (w.alloc o) x:=⟨h.1.alloc o,h.2⟩
open Ear
abbrev Jk (L:List Inn):List (List Int):=L.map fun x=>x.2.2
theorem ZgW {L:List Inn} (h : 0 < L.length):len0 (Jk L) = L[0].2.2.length:=by
 cases L with
 | nil=>simp at h
 | cons x L=>rfl
def BT (w:World) (b:Nat) (e:TypeId):Prop:=∃ cur fr,w.heap[b]? = some (.cells cur e fr)
section
variable {w w':World} {b b':Nat} {e e':TypeId}
theorem BT.lt (h:BT w b e):b < w.heap.size:=by obtain ⟨c,f,h⟩:=h;exact (aE h).1
theorem BT.ne (h:BT w b e) (h':BT w b' e') (hne:e ≠ e'):b ≠ b':=by
 rintro rfl;obtain ⟨c,f,h⟩:=h;obtain ⟨c',f',h'⟩:=h';rw [h] at h';injection h' with h'
 injection h' with _ h2 _
 exact hne h2
theorem BT.block (h:BT w b e) (he:w'.heap[b]? = w.heap[b]?):BT w' b e:=by
 obtain ⟨c,f,h⟩:=h;exact ⟨c,f,he.trans h⟩
theorem BT.below (h:BT w b e) (hb:Below w.heap.size w w'):BT w' b e:=h.block (hb.block b h.lt)
theorem BT.of_own {base size n:Nat} {v:Value} {xs:List Value} (h:w.ownsRow base e size v n xs) (hv:v.ownBlock = some b):BT w b e:=by
 rcases h.2 with ⟨rfl,_⟩ | ⟨g,cap,cur,rfl,_,hg,_⟩
 ·simp [Value.ownBlock] at hv
 ·simp [Value.ownBlock] at hv;subst hv;exact ⟨cur,_,hg⟩
end
def ZiQ (w:World) (A:Option Addr) (e:TypeId):Prop:=∀ b off,A = some ⟨b,off,none⟩ -> BT w b e
def InT (w:World) (x:Inn):Prop:=InOk w x /\ ZiQ w x.1 3
theorem InT.below {w w':World} {x:Inn} (h:InT w x) (hb:Below w.heap.size w w'):InT w' x:=⟨h.1.below hb,fun b off e=>(h.2 b off e).below hb⟩
theorem InT.block {w w':World} {x:Inn} (h:InT w x) (hs:w.heap.size <= w'.heap.size) (hk:∀ b,BT w b 3 -> w'.heap[b]? = w.heap[b]?):InT w' x:=by
 refine ⟨⟨fun h0=>?_,h.1.2⟩,fun b off e=>(h.2 b off e).block (hk b (h.2 b off e))⟩;obtain ⟨b,off,e,hb,hc⟩:=h.1.1 h0;exact ⟨b,off,e,Nat.lt_of_lt_of_le hb hs,fun k u hu=>(World.cell?_of_block (a:=⟨b,off + k,none⟩) (hk b (h.2 b off e))).trans (hc k u hu)⟩
theorem InT.grown {w w':World} {x:Inn} (h:InT w x) {row:Option Nat} (hg:w.grownBy w' row) {e:TypeId} (hr:∀ k,row = some k -> k < w.heap.size -> BT w k e) (he:e ≠ 3):InT w' x:=
 h.block hg.size fun b hb=>hg.block b hb.lt fun e'=>(hr b e'.symm hb.lt).ne hb he rfl
theorem InT.set {w:World} {x:Inn} (h:InT w x) {p:Addr} {e:TypeId} (hp:BT w p.block e) (he:e ≠ 3) (u:Value):InT (w.setCell p u) x:=
 h.block (by simp [World.setCell]) fun b hb=>Below.heap_setCell w p u b (fun e'=>hp.ne hb he e'.symm)
theorem InT.of_own {w:World} {base n c:Nat} {A:Option Addr} {l:List Int} (h:w.ownsRow base 3 1 (.slice A n c) n (ics l)) (hn:n = l.length) (hl:n <= 9223372036854775807) (hB:∀ y ∈ l,-9223372036854775808 <= y /\ y <= 9223372036854775807):InT w (A,c,l):=by
 subst hn;refine ⟨⟨Lies.of_own h,fun e=>?_,hl,VB h,hB⟩,fun b off e=>BT.of_own h (by simp only at e;subst e;rfl)⟩;simp only at e;subst e;rcases h.2 with ⟨e1,e2⟩ | ⟨g,cap,cur,e1,_⟩
 ·injection e1 with _ _ e3
  exact ⟨e3,List.length_eq_zero_iff.1 e2⟩
 ·injection e1 with e3;cases e3
theorem InT.nil (w:World):InT w (none,0,[]):=⟨⟨Lies.nil _ _,fun _=>⟨rfl,rfl⟩,by simp,by simp,by simp⟩,fun b off e=>by cases e⟩
structure LLo (w:World) (base:Nat) (A:Option Addr) (c:Nat) (L:List Inn):Prop where
 row:w.ownsRow base 40 1 (.slice A L.length c) L.length (lcs L)
 inn:∀ x ∈ L,InT w x
theorem LLo.lies {w:World} {base c:Nat} {A:Option Addr} {L:List Inn} (h:LLo w base A c L):Lies w A (lcs L):=Lies.of_own h.row
theorem LLo.nil (w:World) (base:Nat):LLo w base none 0 []:=⟨World.ownsRow_nil _ _ _ _,fun x h=>by simp at h⟩
theorem LLo.below {w w':World} {base c:Nat} {A:Option Addr} {L:List Inn} (h:LLo w base A c L) (hb:Below w.heap.size w w'):LLo w' base A c L:=⟨Jh h.row hb,fun x hx=>(h.inn x hx).below hb⟩
theorem LLo.le {w:World} {base base' c:Nat} {A:Option Addr} {L:List Inn} (h:LLo w base A c L) (hb:base' <= base):LLo w base' A c L:=⟨Jy h.row hb,h.inn⟩
theorem LLo.snoc {w w':World} {base base' c c' n:Nat} {A A':Option Addr} {L:List Inn} {x:Inn} (h:LLo w base A c L) (hx:InT w x) (hg:w.grownBy w' (Value.slice A n c).ownBlock)
  (hr:w'.ownsRow base' 40 1 (.slice A' (L.length + 1) c') (L.length + 1) (lcs L ++ [Value.slice x.1 x.2.2.length x.2.1])):LLo w' base' A' c' (L ++ [x]):=by
 have key:∀ y,InT w y -> InT w' y:=fun y hy=>hy.grown hg (e:=40) (fun k e _=>BT.of_own (v:=.slice A L.length c) h.row (by rw [<- e];cases A <;> rfl)) (by decide);refine ⟨by simpa using hr,fun y hy=>?_⟩;rcases List.mem_append.1 hy with hy | hy
 ·exact key y (h.inn y hy)
 ·simp at hy;subst hy;exact key y hx
def ZiT (out:List (List Int)) (w:World) (e:Ending) (w':World):Prop:=
 ∃ A c L,e = .returned (.slice A (L:List Inn).length c) /\ Hid (Jk L = out) /\ LLo w' w.heap.size A c L /\ Below w.heap.size w w'
theorem QW {L:List Inn} {k:Nat} (hk:k < L.length):(Jk L)[k]?.getD [] = L[k].2.2:=by
 rw [List.getElem?_map,gE hk];rfl

theorem Zj:(Tryz.prog.info? 40).map (fun i=>(i.zero,i.size,i.bytes)) = some (some (.slice none 0 0),1,24):=by kernel_rfl
end Go.Proofs.YtcjicjfbippmnaaGreat
namespace Go
section
variable {P:Program} {ops:Array Oper} {Q:Exit -> Act -> World -> Prop} {md:Region.Mode}
theorem Jn {S:World -> Prop} {id:Nat} {a:Act} {w:World} (n:Nat) (hn:ops.size = n) (hm:P.follows .mixedOrders = true) (hS:S w.drew)
  (h:S w.drew -> wpAnyH P .any ops Q S n (Array.replicate n false) a w.drew):(Code.region id ops true).wp P Q a w:=by
 refine wp_region_any hm ?_;rw [hn];exact wpAny_of_held _ _ _ _ (h hS)
theorem ZaA {S:World -> Prop} {i:Nat} (d:Nat) {oi:Oper} {fuel:Nat} {listed:Array Bool} {t:Array Value} {df:List Deferred} {w:World} (hi:ops[i]? = some oi) (hd:oi.dst = some d)
  (hs:Region.noSelect ops = true) (hf:Region.free md ops listed i = true) (hr:(Region.ready md ops listed).contains i = true)
  (hQ:∀ c a w,Q (.panic c) (a.put (some d) undef) w -> Q (.panic c) a w) (hw:Region.wanted oi (yielded ops t) = false) (hS:S w)
  (h:wpAnyH P md ops Q S fuel (listed.setIfInBounds i true) ⟨t.setIfInBounds d undef,df⟩ w):wpAnyH P md ops Q S (fuel + 1) listed ⟨t,df⟩ w:=
 wpAnyH_take hi hs hf hr (by rw [hd];exact hQ) (.inr ⟨hw,rfl⟩) hS (by rw [hd];exact h)
theorem JR {S:World -> Prop} (i:Nat) {o:Oper} {fuel:Nat} {listed:Array Bool} {a:Act} {w:World} (ho:ops[i]? = some o) (hr:Region.ready md ops listed = [i]) (hw:Region.wanted o (yielded ops a.tmps) = true)
  (h:∀ K':Act -> World -> Prop,Shut (∀ a w,S w -> (S w -> wpAnyH P md ops Q S fuel (listed.setIfInBounds i true) a w) -> K' a w) -> Oper.wp P o a w K' Q):wpAnyH P md ops Q S (fuel + 1) listed a w:=
 wpAnyH_ready hr (by simp) (AllReadyH.cons ho (fun K hK=>by
  rw [if_pos hw];exact h K hK) AllReadyH.nil)
def Region.nextU:List Oper -> List Bool -> Nat -> Option (Nat × Oper × Nat)
 | o :: os,b :: bs,k=>if b = true then Region.nextU os bs (k + 1) else (match o.dst with | some d=>some (k,o,d) | none=>none)
 | _,_,_=>none
theorem Region.nextU_spec:∀ (os:List Oper) (bs:List Bool) (k:Nat) {i:Nat} {o:Oper} {d:Nat},Region.nextU os bs k = some (i,o,d) -> k <= i /\ os[i - k]? = some o /\ o.dst = some d
 | [],_,_,i,o,d,h=>by simp [Region.nextU] at h
 | _ :: _,[],_,i,o,d,h=>by simp [Region.nextU] at h
 | o' :: os,b :: bs,k,i,o,d,h=>by
  unfold Region.nextU at h;split at h
  ·obtain ⟨h1,h2,h3⟩:=Region.nextU_spec os bs (k + 1) h;refine ⟨by omega,?_,h3⟩;rw [show i - k = (i - (k + 1)) + 1 by omega,List.getElem?_cons_succ];exact h2
  ·split at h
   ·rename_i d' hd;injection h with h
    simp only [Prod.mk.injEq] at h;obtain ⟨rfl,rfl,rfl⟩:=h;exact ⟨Nat.le_refl _,by simp,hd⟩
   ·cases h
def Region.okU (md:Region.Mode) (ops:Array Oper) (listed:Array Bool) (i:Nat):Bool:=Region.noSelect ops && Region.free md ops listed i && (Region.ready md ops listed).contains i
theorem Jb {S:World -> Prop} {i d:Nat} {oi:Oper} {v:Value} {fuel:Nat} {listed:Array Bool} {t:Array Value} {df:List Deferred} {w:World} (hn:Region.nextU ops.toList listed.toList 0 = some (i,oi,d)) (hb:Region.okU md ops listed i = true)
  (hQ:∀ c a w,Q (.panic c) (a.put (some d) v) w -> Q (.panic c) a w) (hy:Region.wanted oi (yielded ops t) = true /\ ∀ w,S w -> (execOp (Act.eval ⟨t,df⟩) oi).run P w = .ok (.value v) w) (hS:S w)
  (h:wpAnyH P md ops Q S fuel (listed.setIfInBounds i true) ⟨t.setIfInBounds d v,df⟩ w):wpAnyH P md ops Q S (fuel + 1) listed ⟨t,df⟩ w:=by
 obtain ⟨_,h2,h3⟩:=Region.nextU_spec _ _ _ hn;unfold Region.okU at hb;simp only [Bool.and_eq_true] at hb;exact Jj d (by simpa using h2) h3 hb.1.1 hb.1.2 hb.2 hQ hy hS h
theorem Xj {S:World -> Prop} {i d:Nat} {oi:Oper} {fuel:Nat} {listed:Array Bool} {t:Array Value} {df:List Deferred} {w:World} (hn:Region.nextU ops.toList listed.toList 0 = some (i,oi,d)) (hb:Region.okU md ops listed i = true)
  (hQ:∀ c a w,Q (.panic c) (a.put (some d) undef) w -> Q (.panic c) a w) (hw:Region.wanted oi (yielded ops t) = false) (hS:S w)
  (h:wpAnyH P md ops Q S fuel (listed.setIfInBounds i true) ⟨t.setIfInBounds d undef,df⟩ w):wpAnyH P md ops Q S (fuel + 1) listed ⟨t,df⟩ w:=by
 obtain ⟨_,h2,h3⟩:=Region.nextU_spec _ _ _ hn;unfold Region.okU at hb;simp only [Bool.and_eq_true] at hb;exact ZaA d (by simpa using h2) h3 hb.1.1 hb.1.2 hb.2 hQ hw hS h
end
end Go
namespace Go.Proofs.YtcjicjfbippmnaaGreat
open Go.RowKit Ear

structure LL (w:World) (A:Option Addr) (L:List Inn):Prop where
 lies:Lies w A (lcs L)
 inn:∀ x ∈ L,InOk w x
theorem LL.below {w w':World} {A:Option Addr} {L:List Inn} (h:LL w A L) (hb:Below w.heap.size w w'):LL w' A L:=⟨h.lies.below hb,fun x hx=>(h.inn x hx).below hb⟩
def Vcs (n:Nat) (vs:List (List Int)):Prop:=∀ x ∈ vs,x.length = n /\ YC (-1048576) 1048576 x = true
theorem Vcs.getD {n:Nat} {vs:List (List Int)} (h:Vcs n vs) {t:Nat} (ht:t < vs.length):(vs[t]?.getD []).length = n /\ YC (-1048576) 1048576 (vs[t]?.getD []) = true:=by
 rw [gE ht];exact h _ (yM ht)
theorem Vcs.len0 {n:Nat} {vs:List (List Int)} (h:Vcs n vs) (h0 : 0 < vs.length):len0 vs = n:=by
 cases vs with
 | nil=>simp at h0
 | cons x l=>exact (h x (List.mem_cons_self ..)).1
end Go.Proofs.YtcjicjfbippmnaaGreat
namespace Ear
open Go.Proofs.YtcjicjfbippmnaaGreat (Vcs)

abbrev U5:=Option (Nat × Nat × Rat)
def upd (G:Nat -> Nat -> Rat) (acc:U5) (i j:Nat):U5:=
 match acc with
 | none=>some (i,j,G i j)
 | some (a,b,q)=>if G i j < q then some (i,j,G i j) else some (a,b,q)
def Uw (G:Nat -> Nat -> Rat) (i:Nat) (acc:U5):Nat -> U5
 | 0=>acc
 | k + 1=>upd G (Uw G i acc k) i (i + 1 + k)
def Xb (G:Nat -> Nat -> Rat) (n:Nat):Nat -> U5
 | 0=>none
 | i + 1=>Uw G i (Xb G n i) (n - (i + 1))
def nA:U5 -> Int | none=>-1 | some (a,_,_)=>a
def nB:U5 -> Int | none=>-1 | some (_,b,_)=>b
def nQ:U5 -> Rat | none=>((0:Int):Rat) | some (_,_,q)=>q
def NearOk (G:Nat -> Nat -> Rat) (n:Nat) (P:Nat -> Nat -> Prop) (acc:U5):Prop:=
 match acc with
 | none=>∀ i j,¬ P i j
 | some (a,b,q)=>a < b /\ b < n /\ P a b /\ q = G a b /\ ∀ i j,P i j -> q <= G i j
theorem NearOk.upd {G:Nat -> Nat -> Rat} {n:Nat} {P P':Nat -> Nat -> Prop} {acc:U5} {i j:Nat} (h:NearOk G n P acc) (hij:i < j) (hj:j < n) (hP:∀ x y,P' x y ↔ P x y ∨ (x = i /\ y = j)):NearOk G n P' (upd G acc i j):=by
 unfold Ear.upd;cases acc with
 | none=>
  refine ⟨hij,hj,(hP _ _).2 (.inr ⟨rfl,rfl⟩),rfl,fun x y hxy=>?_⟩;rcases (hP _ _).1 hxy with h1 | ⟨rfl,rfl⟩
  ·exact absurd h1 (h x y)
  ·exact Rat.le_refl
 | some t=>
  obtain ⟨a,b,q⟩:=t;obtain ⟨h1,h2,h3,h4,h5⟩:=h;simp only;split
  ·rename_i hlt;refine ⟨hij,hj,(hP _ _).2 (.inr ⟨rfl,rfl⟩),rfl,fun x y hxy=>?_⟩;rcases (hP _ _).1 hxy with h6 | ⟨rfl,rfl⟩
   ·exact Rat.le_trans (Rat.le_of_lt hlt) (h5 x y h6)
   ·exact Rat.le_refl
  ·rename_i hlt;refine ⟨h1,h2,(hP _ _).2 (.inl h3),h4,fun x y hxy=>?_⟩;rcases (hP _ _).1 hxy with h6 | ⟨rfl,rfl⟩
   ·exact h5 x y h6
   ·exact Rat.not_lt.1 hlt
theorem ZbJ {G:Nat -> Nat -> Rat} {n i:Nat} {acc:U5} (h:NearOk G n (fun x y=>x < i /\ x < y /\ y < n) acc):∀ k,i + k < n -> NearOk G n (fun x y=>(x < i /\ x < y /\ y < n) ∨ (x = i /\ i < y /\ y < i + 1 + k)) (Uw G i acc k):=by
 intro k
 induction k with
 | zero=>
  intro _;show NearOk G n _ acc;have e:(fun x y=>(x < i /\ x < y /\ y < n) ∨ (x = i /\ i < y /\ y < i + 1 + 0)) = fun x y=>x < i /\ x < y /\ y < n:=by
   funext x y;apply propext;constructor
   ·rintro (h | h)
    ·exact h
    ·omega
   ·exact .inl
  rw [e];exact h
 | succ k ih=>
  intro hk;exact (ih (by omega)).upd (by omega) (by omega) (fun x y=>by omega)
theorem Q6 {G:Nat -> Nat -> Rat} {n:Nat}:∀ i,i <= n -> NearOk G n (fun x y=>x < i /\ x < y /\ y < n) (Xb G n i):=by
 intro i
 induction i with
 | zero=>intro _ x y h;omega
 | succ i ih=>
  intro hi;have h:=ZbJ (ih (by omega)) (n - (i + 1)) (by omega);have e:(fun x y=>(x < i /\ x < y /\ y < n) ∨ (x = i /\ i < y /\ y < i + 1 + (n - (i + 1)))) = fun x y=>x < i + 1 /\ x < y /\ y < n:=by
   funext x y;apply propext;omega
  rw [e] at h;exact h
theorem Qs {G:Nat -> Nat -> Rat} {n:Nat} (hn : 1 < n):∃ a b q,Xb G n n = some (a,b,q) /\ a < b /\ b < n /\ q = G a b /\ ∀ i j,i < j -> j < n -> q <= G i j:=by
 have h:=Q6 (G:=G) (n:=n) n nR;cases hs:Xb G n n with
 | none=>rw [hs] at h;exact absurd ⟨by omega,by omega,hn⟩ (h 0 1)
 | some t=>
  obtain ⟨a,b,q⟩:=t;rw [hs] at h;obtain ⟨h1,h2,_,h4,h5⟩:=h;exact ⟨a,b,q,rfl,h1,h2,h4,fun i j hi hj=>h5 i j ⟨by omega,hi,hj⟩⟩
abbrev Clu:=List Int × List (List Int)
def cG (S:List Clu) (i j:Nat):Rat:=Zbq (S[i]?.getD ([],[])).2 (S[j]?.getD ([],[])).2
def Zgi (S:List Clu):U5:=Xb (cG S) S.length S.length
def Qd (S:List Clu) (a b:Nat):List Clu:=
 (S.set a ((S[a]?.getD ([],[])).1 ++ (S[b]?.getD ([],[])).1,(S[a]?.getD ([],[])).2 ++ (S[b]?.getD ([],[])).2)).eraseIdx b
def Vy (most:Int) (lim:Rat) (S:List Clu):Bool:=decide ((S.length:Int) <= most) && decide (lim < nQ (Zgi S))
def clu (most:Int) (lim:Rat):Nat -> List Clu -> List Clu
 | 0,S=>S
 | f + 1,S=>if S.length <= 1 then S else if Vy most lim S then S else clu most lim f (Qd S (nA (Zgi S)).toNat (nB (Zgi S)).toNat)
def JL (gs:List (List (List Int))):List Clu:=gs.zipIdx.map fun g=>([(g.2:Int)],g.1)
def Xk (o:List Int) (ms:List Int) (c:Int):List Int:=ms.foldl (fun o g=>o.set g.toNat c) o
def VD (S:List Clu) (n:Nat):Nat -> List Int
 | 0=>List.replicate n 0
 | k + 1=>Xk (VD S n k) (S[k]?.getD ([],[])).1 (k:Int)
def Zdk (S:List Clu) (n:Nat):List Int:=VD S n S.length
theorem YT (c:Int):∀ (ms o:List Int),(Xk o ms c).length = o.length:=by
 intro ms
 induction ms with
 | nil=>intro o;rfl
 | cons g l ih=>intro o;show (Xk (o.set g.toNat c) l c).length = _;rw [ih];simp
theorem Yh (S:List Clu) (n:Nat):∀ k,(VD S n k).length = n:=by
 intro k
 induction k with
 | zero=>simp [VD]
 | succ k ih=>unfold VD;rw [YT,ih]
theorem Uy (o ms:List Int) (c:Int) {j:Nat} (hj:j < ms.length):Xk o (ms.take (j + 1)) c = (Xk o (ms.take j) c).set (ms[j].toNat) c:=by
 unfold Xk;rw [List.take_succ_eq_append_getElem hj,List.foldl_append];rfl
theorem Zhr {α:Type} (l:List α) {a b:Nat} (hab:a < b) (hb:b < l.length):∃ O M R x y,l = O ++ x :: (M ++ y :: R) /\ a = O.length /\ b = O.length + 1 + M.length:=by
 have ha:a < l.length:=by omega
 have e1:l = l.take a ++ l[a] :: l.drop (a + 1):=by rw [<- List.drop_eq_getElem_cons ha,List.take_append_drop]
 have hb':b - (a + 1) < (l.drop (a + 1)).length:=by simp;omega
 have e2:l.drop (a + 1) = (l.drop (a + 1)).take (b - (a + 1)) ++ (l.drop (a + 1))[b - (a + 1)] :: (l.drop (a + 1)).drop (b - (a + 1) + 1):=by rw [<- List.drop_eq_getElem_cons hb',List.take_append_drop]
 refine ⟨l.take a,(l.drop (a + 1)).take (b - (a + 1)),(l.drop (a + 1)).drop (b - (a + 1) + 1),l[a],(l.drop (a + 1))[b - (a + 1)],?_,by simp;omega,by simp;omega⟩;rw [<- e2];exact e1
theorem Zcp {α:Type} (O R:List α) (x d : α):(O ++ x :: R)[O.length]?.getD d = x:=by simp
theorem Zee (O M R:List Clu) (x y:Clu):Qd (O ++ x :: (M ++ y :: R)) O.length (O.length + 1 + M.length) = O ++ (x.1 ++ y.1,x.2 ++ y.2) :: (M ++ R):=by
 have e1:O ++ x :: (M ++ y :: R) = (O ++ x :: M) ++ y :: R:=by simp
 have hl:O.length + 1 + M.length = (O ++ x :: M).length:=by simp;omega
 have g1:(O ++ x :: (M ++ y :: R))[O.length]?.getD ([],[]) = x:=Zcp O _ x _;have g2:(O ++ x :: (M ++ y :: R))[O.length + 1 + M.length]?.getD ([],[]) = y:=by rw [e1,hl];exact Zcp _ _ y _
 unfold Qd;rw [g1,g2,List.set_append_right _ _ nR,Nat.sub_self,List.set_cons_zero,List.eraseIdx_append_of_length_le (by omega)];congr 1;rw [show O.length + 1 + M.length - O.length = M.length + 1 by omega,List.eraseIdx_cons_succ];congr 1;rw [List.eraseIdx_append_of_length_le nR,Nat.sub_self,List.eraseIdx_cons_zero]
structure CluI (d n:Nat) (S:List Clu):Prop where
 vcs:∀ x ∈ S,Vcs d x.2
 pos:∀ x ∈ S,0 < x.2.length
 tot:(S.map fun x=>x.2.length).sum <= 10000
 mem:∀ x ∈ S,∀ g ∈ x.1,0 <= g /\ g < (n:Int)
 cnt:(S.map fun x=>x.1.length).sum <= n
theorem CluI.join {d n:Nat} {S:List Clu} (h:CluI d n S) {a b:Nat} (hab:a < b) (hb:b < S.length):CluI d n (Qd S a b):=by
 obtain ⟨O,M,R,x,y,rfl,rfl,rfl⟩:=Zhr S hab hb;rw [Zee];obtain ⟨h1,h2,h3,h4,h5⟩:=h;have hx:x ∈ O ++ x :: (M ++ y :: R):=by simp
 have hy:y ∈ O ++ x :: (M ++ y :: R):=by simp
 have hsub:∀ z,z ∈ O ++ (x.1 ++ y.1,x.2 ++ y.2) :: (M ++ R) -> z = (x.1 ++ y.1,x.2 ++ y.2) ∨ z ∈ O ++ x :: (M ++ y :: R):=by
  intro z hz;simp only [List.mem_append,List.mem_cons] at hz ⊢;rcases hz with h | h | h | h
  ·exact .inr (.inl h)
  ·exact .inl h
  ·exact .inr (.inr (.inr (.inl h)))
  ·exact .inr (.inr (.inr (.inr (.inr h))))
 refine ⟨?_,?_,?_,?_,?_⟩
 ·intro z hz;rcases hsub z hz with rfl | hz
  ·intro v hv;rcases List.mem_append.1 hv with hv | hv
   ·exact h1 x hx v hv
   ·exact h1 y hy v hv
  ·exact h1 z hz
 ·intro z hz;rcases hsub z hz with rfl | hz
  ·have:=h2 x hx;simp only [List.length_append];omega
  ·exact h2 z hz
 ·simp at h3 ⊢;omega
 ·intro z hz;rcases hsub z hz with rfl | hz
  ·intro v hv;rcases List.mem_append.1 hv with hv | hv
   ·exact h4 x hx v hv
   ·exact h4 y hy v hv
  ·exact h4 z hz
 ·simp at h5 ⊢;omega
theorem Xr {α:Type} (f : α -> Nat) (l:List α) {x : α} (h:x ∈ l):f x <= (l.map f).sum:=by
 induction l with
 | nil=>cases h
 | cons y l ih=>
  simp only [List.map_cons,List.sum_cons];rcases List.mem_cons.1 h with rfl | h
  ·omega
  ·have:=ih h;omega
theorem CluI.len {d n:Nat} {S:List Clu} (h:CluI d n S) {x:Clu} (hx:x ∈ S):x.2.length <= 10000 /\ x.1.length <= n:=⟨tR (Xr (fun x:Clu=>x.2.length) S hx) h.tot,tR (Xr (fun x:Clu=>x.1.length) S hx) h.cnt⟩
theorem UP {gs:List (List (List Int))} (h:Zat gs = 0):gs.length <= 60 /\ gs.flatten.length <= 10000 /\ len0 gs.flatten <= 64 /\ ∀ g ∈ gs,0 < g.length /\ Vcs (len0 gs.flatten) g:=by
 unfold Zat at h;split at h
 ·cases h
 ·rename_i h0;split at h
  ·rename_i hg;unfold Vf at hg;rw [Bool.and_eq_true,List.all_eq_true] at hg;refine ⟨by omega,by omega,?_,fun g hgm=>⟨?_,fun v hv=>?_⟩⟩
   ·cases hf:gs.flatten with
    | nil=>decide
    | cons v l=>rw [hf] at hg;exact (ZS hg.2 (List.mem_cons_self ..)).2.2.1
   ·have:=hg.1 g hgm;cases g with
    | nil=>simp at this
    | cons v l=>simp
   ·have:=ZS hg.2 (List.mem_flatten.2 ⟨g,hgm,hv⟩);exact ⟨this.1,this.2.2.2⟩
  ·cases h
theorem ZbC (gs:List (List (List Int))) (g:List (List Int)):JL (gs ++ [g]) = JL gs ++ [([(gs.length:Int)],g)]:=by
 unfold JL;rw [List.zipIdx_append,List.map_append];simp
theorem ZaK {gs:List (List (List Int))} (h:Zat gs = 0):CluI (len0 gs.flatten) gs.length (JL gs):=by
 obtain ⟨h1,h2,h3,h4⟩:=UP h;have hm:∀ x ∈ JL gs,∃ (k:Nat) (hk:k < gs.length),x = ([(k:Int)],gs[k]):=by
  intro x hx;obtain ⟨g,hg,rfl⟩:=List.mem_map.1 hx;obtain ⟨k,hk,e⟩:=List.getElem_of_mem hg;simp only [List.length_zipIdx] at hk;rw [List.getElem_zipIdx] at e;exact ⟨k,hk,by rw [<- e];simp⟩
 have e1:(JL gs).map (fun x=>x.2.length) = gs.map List.length:=by
  unfold JL;rw [List.map_map];have:((fun x:Clu=>x.2.length) ∘ fun g:List (List Int) × Nat=>([(g.2:Int)],g.1)) = List.length ∘ Prod.fst:=rfl;rw [this,<- List.map_map,List.zipIdx_map_fst]
 have e2:((JL gs).map fun x=>x.1.length).sum = gs.length:=by
  have:∀ (gs:List (List (List Int))) (n:Nat),(((gs.zipIdx n).map fun g=>(([(g.2:Int)],g.1):Clu)).map fun x=>x.1.length).sum = gs.length:=by
   intro gs
   induction gs with
   | nil=>intro n;rfl
   | cons g l ih=>intro n;simp only [List.zipIdx_cons,List.map_cons,List.sum_cons,ih,List.length_cons,List.length_nil];omega
  exact this gs 0
 refine ⟨?_,?_,?_,?_,?_⟩
 ·intro x hx;obtain ⟨k,hk,rfl⟩:=hm x hx;exact (h4 _ (yM hk)).2
 ·intro x hx;obtain ⟨k,hk,rfl⟩:=hm x hx;exact (h4 _ (yM hk)).1
 ·rw [e1,<- List.length_flatten];exact h2
 ·intro x hx g hg;obtain ⟨k,hk,rfl⟩:=hm x hx;simp at hg;omega
 ·rw [e2];exact Nat.le_refl _
end Ear
