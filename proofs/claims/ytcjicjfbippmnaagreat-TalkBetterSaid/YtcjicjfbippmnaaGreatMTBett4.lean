/- TalkBetter -/
import Derived.Test.YtcjicjfbippmnaaGreatMTBett3
set_option maxRecDepth 100000
set_option maxHeartbeats 32000000
namespace Go.Proofs.YtcjicjfbippmnaaGreat
open Go.RowKit Ear

theorem ZY (l:List Int):∀ u ∈ ucs l,u.oneCell' = true:=by
 intro u hu;obtain ⟨x,_,rfl⟩:=List.mem_map.1 hu;rfl
theorem Xo (a b:List Int):ucs (a ++ b) = ucs a ++ ucs b:=List.map_append
def Zh (n:Nat) (w:World) (e:Ending) (w':World):Prop:=
 ∃ A c,e = .returned (.slice A (nd n).length c) /\ Lies w' A (ucs (nd n)) /\ (nd n).length <= c /\ (A = none -> c = 0) /\ Below w.heap.size w w'
theorem XK (w:World) (v:Value) (t:TypeId):Lies (w.alloc (.cells #[v] t)) (some ⟨w.heap.size,0,none⟩) [v]:=fun _=>⟨w.heap.size,0,rfl,by simp,fun k u hu=>by
 rw [Nat.zero_add,cell_of_row _ _ k _ _ _ (heap_alloc_new w _)];simpa using hu⟩
theorem Xu {w:World} {base:Nat} {e:TypeId} {size n c:Nat} {A:Option Addr} {xs:List Value} (h:w.ownsRow base e size (.slice A n c) n xs):n <= c /\ (A = none -> c = 0):=by
 rcases h.2 with ⟨hv,hx⟩ | ⟨g,cap,cur,hv,_,hg,hcur,hle,rest⟩
 ·injection hv with e1 e2 e3
  subst e1 e2 e3;exact ⟨Nat.le_refl _,fun _=>rfl⟩
 ·injection hv with e1 e2 e3
  subst e1 e3;exact ⟨by first | exact hle | omega,fun h=>by cases h⟩
def RetNw (n:Nat) (w:World) (e:Ending) (w':World):Prop:=
 ∃ A c,e = .returned (.slice A (nd n).length c) /\ Lies w' A (ucs (nd n)) /\ (nd n).length <= c /\ (A = none -> c = 0) /\ Below w.heap.size w w' /\ (∀ ad,A = some ad -> w.heap.size <= ad.block)
theorem RetNw.nd {n:Nat} {w w':World} {e:Ending} (h:RetNw n w e w'):Zh n w e w':=by
 obtain ⟨A,c,h1,h2,h3,h4,h5,_⟩:=h;exact ⟨A,c,h1,h2,h3,h4,h5⟩
theorem ZgM {w:World} {base:Nat} {e:TypeId} {size n c:Nat} {A:Option Addr} {xs:List Value} (h:w.ownsRow base e size (.slice A n c) n xs):∀ ad,A = some ad -> base <= ad.block:=by
 intro ad hA;rcases h.2 with ⟨hv,_⟩ | ⟨g,cap,cur,hv,hg,_⟩
 ·cases hv;cases hA
 ·cases hv;cases hA;exact hg
theorem UY (A B:Option Addr) (c d:Nat) (a b:List Int) (w:World) (hA:Lies w A (ucs a)) (hB:Lies w B (ucs b)) (da:Hid (dgs a)) (db:Hid (dgs b)) (hl:b.length <= a.length) (hn:a.length <= 1000000)
  (v:Nat) (hv:Hid (vl a - vl b = v)) :
  Calls Tryz.prog 124 #[.slice A a.length c,.slice B b.length d] w (RetNw v w):=by
 obtain ⟨j0,hj0,ky0,ky1,ky2⟩:=info_parts XU;have KI:=zH hj0;have KZ0:=zH ky0;have KZ1:=zH ky1;have KZ2:=zH ky2;clear hj0 ky0 ky1 ky2;have HST:=zH (MinusAt.start a b);go_enter Tryz.func124,Tryz.ntmps124;go_wp2_with fail;go_loopw [5,6,7,8,9] (fun s br i _ _ wr=>∃ k:Nat,k <= a.length /\ i = .int .i64 k /\ ∃ out A' c' q,Hid (MinusAt a b out k q) /\ br = .int .u64 q /\ s = .slice A' k c' /\ wr.ownsRow w.heap.size 173 1 (.slice A' k c') k (ucs out) /\ Below w.heap.size w wr) (fun _ _ i _ _ _=>a.length - (intOf i).toNat)
 case atStart=>exact ⟨0,by omega,rfl,[],none,0,0,HST,rfl,rfl,World.ownsRow_nil _ _ _ _,Below.refl _ _⟩
 case round=>
  obtain ⟨k,hk,rfl,out,A',c',q,HM,rfl,rfl,r1,r2⟩:=hrel;clear HST;have h0:=HM.out.c0;have h1:=HM.out.c1;by_cases hlt:k < a.length
  ·obtain ⟨b1,o1,rfl,hb1,hc1⟩:=(hA.below r2).uat hlt;have d1:=JI da.out k;have d2:=JI db.out k;have HN:=zH (fun d' t (h2 : 0 <= d') (h3:d' <= 1) (h4:t = a[k]?.getD 0 - (q + b[k]?.getD 0) + 4294967296 * d')=>HM.out.next h2 h3 h4);have hs2:w.heap.size <= wr.heap.size:=r2.size;have HB:=zH (hB.below r2);by_cases hkb:k < b.length
   ·obtain ⟨b2,o2,rfl,hb2,hc2⟩:=HB.out.uat hkb;generalize a[k]?.getD 0 = x at *
    generalize b[k]?.getD 0 = y at *
    by_cases hxy:x < q + y
    ·have HX:=HN.out 1 (x + 4294967296 - (q + y)) (by omega) (by omega) (by omega) (by omega) (by omega);have HX':=zH HX;clear HX HN;go_wp2_with (at_builtin;refine Jf _ rfl (.tmp 38) (.tmp 43) _ rfl w.heap.size 173 j0 _ 1 4 Tryz.underlying26 KI.out KZ0.out KZ1.out KZ2.out rfl (by omega) (.slice A' k c') k (ucs out) rfl (r1.alloc _) (some ⟨wr.heap.size,0,none⟩) 1 1 [Value.int .u32 (x + 4294967296 - (q + y))] rfl (fun e=>by cases e) (XK _ _ _) (by simp) (by simp [Value.oneCell']) (by unfold maxLen;omega) (by omega) (by simp;omega) (k + 1) rfl ?_;intro A4 c4 w4 ho4 hg4 _);have hbel:Below w.heap.size w w4:=(r2.alloc hs2 _).grown hg4 (by simp;omega) (fun k hk=>(r1.lt k hk).1);exact ⟨⟨k + 1,by omega,by go_num,_,A4,c4,1,HX',rfl,rfl,by rw [Xo];exact ho4,hbel⟩,by simp [intOf];omega⟩
    ·have HX:=HN.out 0 (x - (q + y) + 4294967296 * 0) (by omega) (by omega) rfl (by omega) (by omega);have HX':=zH HX;clear HX HN;go_wp2_with (at_builtin;refine Jf _ rfl (.tmp 38) (.tmp 43) _ rfl w.heap.size 173 j0 _ 1 4 Tryz.underlying26 KI.out KZ0.out KZ1.out KZ2.out rfl (by omega) (.slice A' k c') k (ucs out) rfl (r1.alloc _) (some ⟨wr.heap.size,0,none⟩) 1 1 [Value.int .u32 (x - (q + y))] rfl (fun e=>by cases e) (XK _ _ _) (by simp) (by simp [Value.oneCell']) (by unfold maxLen;omega) (by omega) (by simp;omega) (k + 1) rfl ?_;intro A4 c4 w4 ho4 hg4 _);have hbel:Below w.heap.size w w4:=(r2.alloc hs2 _).grown hg4 (by simp;omega) (fun k hk=>(r1.lt k hk).1);exact ⟨⟨k + 1,by omega,by go_num,_,A4,c4,0,HX',rfl,rfl,by rw [Xo];simpa using ho4,hbel⟩,by simp [intOf];omega⟩
   ·have ey:b[k]?.getD 0 = 0:=(by rw [List.getElem?_eq_none (by omega)];rfl);rw [ey] at HN;clear ey d2;generalize a[k]?.getD 0 = x at *
    by_cases hxy:x < q
    ·have HX:=HN.out 1 (x + 4294967296 - q) (by omega) (by omega) (by omega) (by omega) (by omega);have HX':=zH HX;clear HX HN;go_wp2_with (at_builtin;refine Jf _ rfl (.tmp 38) (.tmp 43) _ rfl w.heap.size 173 j0 _ 1 4 Tryz.underlying26 KI.out KZ0.out KZ1.out KZ2.out rfl (by omega) (.slice A' k c') k (ucs out) rfl (r1.alloc _) (some ⟨wr.heap.size,0,none⟩) 1 1 [Value.int .u32 (x + 4294967296 - q)] rfl (fun e=>by cases e) (XK _ _ _) (by simp) (by simp [Value.oneCell']) (by unfold maxLen;omega) (by omega) (by simp;omega) (k + 1) rfl ?_;intro A4 c4 w4 ho4 hg4 _);have hbel:Below w.heap.size w w4:=(r2.alloc hs2 _).grown hg4 (by simp;omega) (fun k hk=>(r1.lt k hk).1);exact ⟨⟨k + 1,by omega,by go_num,_,A4,c4,1,HX',rfl,rfl,by rw [Xo];exact ho4,hbel⟩,by simp [intOf];omega⟩
    ·have HX:=HN.out 0 (x - (q + 0) + 4294967296 * 0) (by omega) (by omega) rfl (by omega) (by omega);have HX':=zH HX;clear HX HN;go_wp2_with (at_builtin;refine Jf _ rfl (.tmp 38) (.tmp 43) _ rfl w.heap.size 173 j0 _ 1 4 Tryz.underlying26 KI.out KZ0.out KZ1.out KZ2.out rfl (by omega) (.slice A' k c') k (ucs out) rfl (r1.alloc _) (some ⟨wr.heap.size,0,none⟩) 1 1 [Value.int .u32 (x - q)] rfl (fun e=>by cases e) (XK _ _ _) (by simp) (by simp [Value.oneCell']) (by unfold maxLen;omega) (by omega) (by simp;omega) (k + 1) rfl ?_;intro A4 c4 w4 ho4 hg4 _);have hbel:Below w.heap.size w w4:=(r2.alloc hs2 _).grown hg4 (by simp;omega) (fun k hk=>(r1.lt k hk).1);exact ⟨⟨k + 1,by omega,by go_num,_,A4,c4,0,HX',rfl,rfl,by rw [Xo];simpa using ho4,hbel⟩,by simp [intOf];omega⟩
  ·obtain rfl:k = a.length:=by omega
   have HD:=zH (HM.out.done hl (by have:=hv.out;omega));have DG:=zH HM.out.dig;have LN:out.length = a.length:=HM.out.len;have LO:=zH (Lies.of_own r1);have OB:=zH (ZgM r1);obtain ⟨k1,k2⟩:=Xu r1;have VV:Hid (vl out = v):=zH (by rw [HD.out,hv.out]);have hcall:=fun W (hW:Lies W A' (ucs out))=>JN A' c' out W hW DG (by omega) (by omega) v VV;rw [LN] at hcall;have HC:=zH hcall;have LN':=zH LN;clear hcall LN h0 h1;go_wp2_with fail;refine (HC.out _ LO.out).mono ?_;rintro e w' ⟨rfl,rfl⟩;go_wp2_with fail;go_ret;exact ⟨A',c',rfl,LO.out.ndl DG.out VV.out,by have:=JH DG.out VV.out;rw [LN'.out] at this;omega,k2,r2,OB.out⟩
theorem Zbh (A B:Option Addr) (c d:Nat) (a b:List Int) (w:World) (hA:Lies w A (ucs a)) (hB:Lies w B (ucs b)) (da:Hid (dgs a)) (db:Hid (dgs b)) (hl:b.length <= a.length) (hn:a.length <= 1000000)
  (v:Nat) (hv:Hid (vl a - vl b = v)) :
  Calls Tryz.prog 124 #[.slice A a.length c,.slice B b.length d] w (Zh v w):=(UY A B c d a b w hA hB da db hl hn v hv).mono fun _ _ hR=>hR.nd
structure Fr where
 neg:Bool
 A:Option Addr
 c:Nat
 N:List Int
 B:Option Addr
 d:Nat
 D:List Int
abbrev Fr.val (x:Fr):Value:=.agg #[.bool x.neg,.slice x.A x.N.length x.c,.slice x.B x.D.length x.d]
structure Dg (w:World) (A:Option Addr) (c:Nat) (l:List Int):Prop where
 lies:Lies w A (ucs l)
 dig:dgs l
 cap:l.length <= c
 nil:A = none -> c = 0
structure FrOk (w:World) (x:Fr):Prop where
 n:Dg w x.A x.c x.N
 d:Dg w x.B x.d x.D
theorem Dg.below {w w':World} {A:Option Addr} {c:Nat} {l:List Int} (h:Dg w A c l) (hb:Below w.heap.size w w'):Dg w' A c l:=⟨h.lies.below hb,h.dig,h.cap,h.nil⟩
theorem Dg.nd {w:World} {A:Option Addr} {c:Nat} {l:List Int} (h:Dg w A c l) {v:Nat} (hv:vl l = v):Dg w A c (nd v):=⟨h.lies.ndl h.dig hv,JJ v,tR (JH h.dig hv) h.cap,h.nil⟩
theorem Dg.none (w:World):Dg w none 0 []:=⟨Lies.nil _ _,fun x hx=>by simp at hx,Nat.le_refl _,fun _=>rfl⟩
theorem FrOk.below {w w':World} {x:Fr} (h:FrOk w x) (hb:Below w.heap.size w w'):FrOk w' x:=⟨h.n.below hb,h.d.below hb⟩
def den (d:Nat):List Int:=if d = 1 then [] else nd d
def RetFr (neg:Bool) (n d:Nat) (w:World) (e:Ending) (w':World):Prop:=
 ∃ x:Fr,e = .returned x.val /\ FrOk w' x /\ x.neg = neg /\ x.N = nd n /\ x.D = den d /\ Below w.heap.size w w'
theorem ZhP {W w1:World} (hb:Below W.heap.size W w1):(∀ b o,b < W.heap.size -> w1.cell? ⟨b,o,none⟩ = W.cell? ⟨b,o,none⟩) /\ (∀ b o,b < W.heap.size -> w1.frozen? ⟨b,o,none⟩ = W.frozen? ⟨b,o,none⟩):=
 ⟨fun b o h=>hb.cell (p:=⟨b,o,none⟩) h,fun b o h=>hb.frozen (p:=⟨b,o,none⟩) h⟩
theorem ZfM (w:World) (v:Int) (h : 0 <= v /\ v <= 4294967295) (t:TypeId):Dg (w.alloc (.cells #[.int .u32 v] t)) (some ⟨w.heap.size,0,none⟩) 1 [v]:=
 ⟨XK _ _ _,fun x hx=>by simp at hx;subst hx;exact h,by simp,fun e=>by cases e⟩

def Bx (w:World) (k:Nat):Prop:=w.heap[k]? = some (.cells #[.bool false,.slice none 0 0,.slice none 0 0] 28 (0,0))
theorem Bx.new (w:World):Bx (w.alloc (.cells #[.bool false,.slice none 0 0,.slice none 0 0] 28)) w.heap.size:=heap_alloc_new w _
theorem Bx.lt {w:World} {k:Nat} (h:Bx w k):k < w.heap.size:=(aE h).1
theorem Bx.below {w w':World} {k:Nat} (h:Bx w k) (hb:Below w.heap.size w w'):Bx w' k:=(hb.block k h.lt).trans h
theorem Bx.alloc {w:World} {k:Nat} (h:Bx w k) (o:Obj):Bx (w.alloc o) k:=h.below ((Below.refl _ w).alloc nR o)
theorem Bx.facts {w:World} {k:Nat} (h:Bx w k):w.cell? ⟨k,0,none⟩ = some (.bool false) /\ w.cell? ⟨k,1,none⟩ = some (.slice none 0 0) /\ w.cell? ⟨k,2,none⟩ = some (.slice none 0 0) /\ w.frozen? ⟨k,0,none⟩ = false /\ w.frozen? ⟨k,1,none⟩ = false /\ w.frozen? ⟨k,2,none⟩ = false:=
 ⟨by rw [cell_of_row w k 0 _ _ _ h];rfl,by rw [cell_of_row w k 1 _ _ _ h];rfl,by rw [cell_of_row w k 2 _ _ _ h];rfl,by simp [World.frozen?,show w.heap[k]? = _ from h],by simp [World.frozen?,show w.heap[k]? = _ from h],by simp [World.frozen?,show w.heap[k]? = _ from h]⟩
theorem Lies.apartBox {w w':World} {A:Option Addr} {l:List Int} {k:Nat} (h:Lies w A (ucs l)) (hb:Bx w k) (hs:w.heap.size <= w'.heap.size) (hk:∀ b,b ≠ k -> b < w.heap.size -> w'.heap[b]? = w.heap[b]?):Lies w' A (ucs l):=fun h0=>by
 obtain ⟨b,off,e,hlt,hc⟩:=h h0;have hne:b ≠ k:=by
  rintro rfl;have hl : 0 < l.length:=by simpa using h0
  have:=hc 0 (.int .u32 l[0]) (by simp [gE hl]);rw [cell_of_row w b _ _ _ _ hb] at this;rcases (show off + 0 = 0 ∨ off + 0 = 1 ∨ off + 0 = 2 ∨ 3 <= off + 0 by omega) with e | e | e | e
  ·rw [e] at this;simp at this
  ·rw [e] at this;simp at this
  ·rw [e] at this;simp at this
  ·rw [Array.getElem?_eq_none (by simpa using e)] at this;cases this
 exact ⟨b,off,e,by omega,fun j u hu=>by
  rw [<- hc j u hu];exact World.cell?_of_block (a:=⟨b,off + j,none⟩) (hk b hne hlt)⟩
theorem FrOk.boxed {w:World} {x:Fr} {k:Nat} (h:FrOk w x) (hb:Bx w k) (v0 v1 v2:Value):FrOk (((w.setCell ⟨k,0,none⟩ v0).setCell ⟨k,1,none⟩ v1).setCell ⟨k,2,none⟩ v2) x:=by
 have hk:∀ b,b ≠ k -> b < w.heap.size -> (((w.setCell ⟨k,0,none⟩ v0).setCell ⟨k,1,none⟩ v1).setCell ⟨k,2,none⟩ v2).heap[b]? = w.heap[b]?:=fun b hne _=>
  (Below.heap_setCell _ ⟨k,2,none⟩ v2 b hne).trans ((Below.heap_setCell _ ⟨k,1,none⟩ v1 b hne).trans (Below.heap_setCell _ ⟨k,0,none⟩ v0 b hne))
 exact ⟨⟨h.n.lies.apartBox hb (by simp) hk,h.n.dig,h.n.cap,h.n.nil⟩,⟨h.d.lies.apartBox hb (by simp) hk,h.d.dig,h.d.cap,h.d.nil⟩⟩
theorem Z4 (n:Nat) (w:World) (h:n <= 18446744073709551615):Calls Tryz.prog 95 #[.int .u64 n] w (Zh n w):=by
 have b1:(n:Int) / 4294967296 <= 4294967295:=by omega
 have b0 : 0 <= (n:Int) / 4294967296:=by omega
 have hv:Hid (vl [(n:Int) % 4294967296,(n:Int) / 4294967296] = n):=zH (by simp [vl,BB];omega);have hd:Hid (dgs [(n:Int) % 4294967296,(n:Int) / 4294967296]):=zH (by
  intro x hx;simp at hx;rcases hx with rfl | rfl <;> omega)
 go_enter Tryz.func95,Tryz.ntmps95;go_wp2_with fail;obtain ⟨W,hW⟩:∃ W,W = w.alloc (Obj.cells #[.int .u32 ((n:Int) % 4294967296),.int .u32 ((n:Int) / 4294967296)] 173):=⟨_,rfl⟩;have hL0:Lies W (some ⟨w.heap.size,0,none⟩) (ucs [(n:Int) % 4294967296,(n:Int) / 4294967296]):=by
  rw [hW];exact fun _=>⟨w.heap.size,0,rfl,by simp,fun k u hu=>by
   rw [Nat.zero_add,cell_of_row _ _ k _ _ _ (heap_alloc_new w _)];simpa using hu⟩
 have hB0:Below w.heap.size w W:=by rw [hW];exact bR.alloc nR _
 have HL:=zH (hL0.ndl hd.out hv.out);have HN:=JH hd.out hv.out;simp only [List.length_cons,List.length_nil] at HN;rw [<- hW];clear hW;refine (JN (some ⟨w.heap.size,0,none⟩) 2 [(n:Int) % 4294967296,(n:Int) / 4294967296] W hL0 hd (by simp) (by simp) n hv).mono ?_;rintro e w' ⟨rfl,rfl⟩;go_wp2_with fail;go_ret;exact ⟨_,_,rfl,HL.out,HN,(fun e=>by cases e),hB0⟩
theorem Zgu (n:Nat) (w:World) (h:n <= 9223372036854775807):Calls Tryz.prog 96 #[.int .i64 n] w fun e w'=>e = .returned (.int .u64 n) /\ w = w':=by
 go_enter Tryz.func96,Tryz.ntmps96;go_wp2_with fail;go_ret;exact ⟨rfl,rfl⟩
theorem Zgv (n:Nat) (w:World) (h : 0 < n) (h2:n <= 9223372036854775808):Calls Tryz.prog 96 #[.int .i64 (-(n:Int))] w fun e w'=>e = .returned (.int .u64 n) /\ w = w':=by
 have hn : -(n:Int) < 0:=by omega
 go_enter Tryz.func96,Tryz.ntmps96;go_wp2_with fail;go_ret;exact ⟨JS (by rw [IntKind.wrap_u64,IntKind.wrap_u64];omega),rfl⟩
theorem Zaf (z:Int) (w:World) (h1 : -9223372036854775808 <= z) (h2:z <= 9223372036854775807):Calls Tryz.prog 96 #[.int .i64 z] w fun e w'=>e = .returned (.int .u64 z.natAbs) /\ w = w':=by
 by_cases h:z < 0
 ·have:=Zgv z.natAbs w (by omega) (by omega)
  rwa [show -((z.natAbs:Nat):Int) = z by omega] at this
 ·have e:z = ((z.natAbs:Nat):Int):=by omega
  generalize z.natAbs = m at *
  subst e;exact Zgu m w (by omega)
def URet (l:List Int) (w:World) (e:Ending) (w':World):Prop:=
 ∃ A c,e = .returned (.slice A l.length c) /\ w'.ownsRow w.heap.size 173 1 (.slice A l.length c) l.length (ucs l) /\ Below w.heap.size w w'
theorem Dg.nl {w:World} {A:Option Addr} {c:Nat} {l:List Int} (h:Dg w A c l) (hA:A = Option.none):c = 0 /\ l = []:=by
 have h1:=h.nil hA;have h2:=h.cap;exact ⟨h1,List.length_eq_zero_iff.1 (by omega)⟩
theorem URet.nd {n:Nat} {w w':World} {e:Ending} (h:URet (nd n) w e w'):Zh n w e w':=by
 obtain ⟨A,c,he,h1,h2⟩:=h;exact ⟨A,c,he,Lies.of_own h1,(Xu h1).1,(Xu h1).2,h2⟩
theorem QM {w:World} {base:Nat} {e:TypeId} {size n:Nat} {v:Value} {xs:List Value} (h:w.ownsRow base e size v n xs):∃ A c,v = .slice A n c:=by
 rcases h.2 with ⟨rfl,rfl⟩ | ⟨g,cap,cur,rfl,_⟩
 ·exact ⟨_,_,rfl⟩
 ·exact ⟨_,_,rfl⟩
theorem Lies.newsU {w:World} {ad:Addr} {xs:List Value} (h:Lies w (some ad) xs) (o:Obj) (j:Nat) (u:Value) (hu:xs[j]? = some u):(w.alloc o).cell? (ad.add j) = some u:=by
 obtain ⟨b,off,e,hb,hc⟩:=h (Nat.lt_of_le_of_lt (Nat.zero_le _) (List.getElem?_eq_some_iff.1 hu).1);cases e;rw [Addr.add_lit];exact (World.cell?_alloc_lt w o _ hb).trans (hc j u hu)
theorem Zee (A:Option Addr) (c:Nat) (l:List Int) (w:World) (h:Dg w A c l) (hn:l.length <= 1000000) :
  Calls Tryz.prog 168 #[.slice A l.length c] w (URet l w):=by
 obtain ⟨i0,hi0,hz0,hz1,hz2⟩:=info_parts XU;have HI:=zH hi0;have HZ0:=zH hz0;have HZ1:=zH hz1;have HZ2:=zH hz2;clear hi0 hz0 hz1 hz2;cases A with
 | none=>
  obtain ⟨rfl,rfl⟩:=h.nl rfl;have hnil:∀ W,(binOp .eql 26 (.slice none 0 0) (.slice none 0 0)).run Tryz.prog W = .ok (.bool true) W:=fun W=>Lib.run_eql_slice_nil W 26 173 none 0 0 0 0 Tryz.underlying26;go_enter Tryz.func168,Tryz.ntmps168;go_wp2_with fail;go_ret;exact ⟨none,0,rfl,World.ownsRow_nil _ _ _ _,Below.refl _ _⟩
 | some ad=>
  have hnil:∀ W,(binOp .eql 26 (.slice (some ad) l.length c) (.slice none 0 0)).run Tryz.prog W = .ok (.bool false) W:=fun W=>Lib.run_eql_slice_nil W 26 173 (some ad) l.length c 0 0 Tryz.underlying26;have hnews:=zH (h.lies.newsU);clear h;go_enter Tryz.func168,Tryz.ntmps168;go_wp2_with (at_builtin;refine wpList_append_own_at _ rfl (.tmp 5) (.tmp 6) _ rfl w.heap.size 173 i0 _ 1 4 Tryz.underlying26 HI.out HZ0.out HZ1.out HZ2.out rfl (by omega) (.slice (some ⟨w.heap.size,0,none⟩) 0 0) 0 [] rfl (World.ownsRow_lit w #[] 0 nR (by simp) rfl) ad l.length c (ucs l) rfl (by simp) (hnews.out _) (ZY l) (by unfold maxLen;omega) (by omega) (by simp) ?_;intro v' w1 hown1 hgrow _ hat);go_ret;obtain ⟨A',c',rfl⟩:=QM hown1;refine ⟨A',c',by rw [Nat.zero_add];rfl,by simpa using hown1,(bR.alloc nR _).grown hgrow (by simp) (fun k hk=>?_)⟩;simp [Value.ownBlock] at hk;omega
theorem ZM (A:Option Addr) (c:Nat) (l:List Int) (w:World) (h:Dg w A c l) (hn:l.length <= 1000000) :
  Calls Tryz.prog 171 #[.slice A l.length c] w (URet l w):=by
 obtain ⟨i0,hi0,hz0,hz1,hz2⟩:=info_parts XU;have HI:=zH hi0;have HZ0:=zH hz0;have HZ1:=zH hz1;have HZ2:=zH hz2;clear hi0 hz0 hz1 hz2;cases A with
 | none=>
  obtain ⟨rfl,rfl⟩:=h.nl rfl;have hnil:∀ W,(binOp .eql 117 (.slice none 0 0) (.slice none 0 0)).run Tryz.prog W = .ok (.bool true) W:=fun W=>Lib.run_eql_slice_nil W 117 173 none 0 0 0 0 Tryz.underlying117;go_enter Tryz.func171,Tryz.ntmps171;go_wp2_with fail;go_ret;exact ⟨none,0,rfl,World.ownsRow_nil _ _ _ _,Below.refl _ _⟩
 | some ad=>
  have hnil:∀ W,(binOp .eql 117 (.slice (some ad) l.length c) (.slice none 0 0)).run Tryz.prog W = .ok (.bool false) W:=fun W=>Lib.run_eql_slice_nil W 117 173 (some ad) l.length c 0 0 Tryz.underlying117;have hnews:=zH (h.lies.newsU);clear h;go_enter Tryz.func171,Tryz.ntmps171;go_wp2_with (at_builtin;refine wpList_append_own_at _ rfl (.tmp 5) (.tmp 6) _ rfl w.heap.size 173 i0 _ 1 4 Tryz.underlying117 HI.out HZ0.out HZ1.out HZ2.out rfl (by omega) (.slice (some ⟨w.heap.size,0,none⟩) 0 0) 0 [] rfl (World.ownsRow_lit w #[] 0 nR (by simp) rfl) ad l.length c (ucs l) rfl (by simp) (hnews.out _) (ZY l) (by unfold maxLen;omega) (by omega) (by simp) ?_;intro v' w1 hown1 hgrow _ hat);go_ret;obtain ⟨A',c',rfl⟩:=QM hown1;refine ⟨A',c',by rw [Nat.zero_add];rfl,by simpa using hown1,(bR.alloc nR _).grown hgrow (by simp) (fun k hk=>?_)⟩;simp [Value.ownBlock] at hk;omega
theorem ZaZ (A:Option Addr) (c:Nat) (l:List Int) (w:World) (h:Dg w A c l) (hn:l.length <= 1000000) (v:Nat) (hv:Hid (vl l = v)) :
  Calls Tryz.prog 126 #[.slice A l.length c] w (URet (nd v) w):=by
 have HZ:=zH (ZbR l);have hd:=zH h.dig;have hlc:=h.cap;have HL:=zH h.lies;have HC:=zH (Zee A c (nd v) w (h.nd hv.out) (by have:=JH hd.out hv.out;omega));clear h;go_enter Tryz.func126,Tryz.ntmps126;go_wp2;go_loop [3] (fun i=>∃ k:Nat,k <= l.length /\ i = .int .i64 k /\ Hid (zer l k)) (fun i=>(intOf i).toNat)
 case atStart=>exact ⟨_,Nat.le_refl _,rfl,HZ⟩
 case round=>
  obtain ⟨k,hk,rfl,hz⟩:=hrel;clear HZ;have fin:∀ (hm:k = 0 ∨ l[k - 1]?.getD 0 ≠ 0),Hid ((nd v).length = k):=fun hm=>zH (by
   have e:=ZbY hd.out hz.out hm;rw [hv.out,Int.toNat_natCast] at e;rw [<- e,List.length_take];omega)
  have FIN:=zH fin;clear fin;by_cases h0:k = 0
  ·subst h0;have F:=FIN.out (.inl rfl);have HC':=zH (show Calls Tryz.prog 168 #[.slice A 0 c] w (URet (nd v) w) by have:=HC.out;rwa [F.out] at this);go_wp2_with fail;refine HC'.out.mono ?_;rintro e w' ⟨A2,c2,rfl,r1,r2⟩;go_wp2_with fail;go_ret;exact ⟨A2,c2,rfl,r1,r2⟩
  ·obtain ⟨b,off,rfl,hb,hc⟩:=HL.out.uat (k:=k - 1) (by omega);have i0:((k:Int) - 1).toNat = k - 1:=(by omega);by_cases hx:l[k - 1]?.getD 0 = 0
   ·have HZ1:=zH (Q4 (by omega) hz.out hx);rw [hx] at hc;clear hx;go_wp2_with fail;exact ⟨⟨k - 1,by omega,by go_num,HZ1⟩,by simp [intOf];omega⟩
   ·have F:=FIN.out (.inr hx);have HC':=zH (show Calls Tryz.prog 168 #[.slice (some ⟨b,off,none⟩) k c] w (URet (nd v) w) by have:=HC.out;rwa [F.out] at this);have hd1:=JI hd.out (k - 1);generalize hx1:l[k - 1]?.getD 0 = x at *
    have HX:=zH hx1;clear hx1;have q:(x == 0) = false:=(by simpa using hx);have hkc:k <= c:=(by omega);go_wp2_with fail;refine HC'.out.mono ?_;rintro e w' ⟨A2,c2,rfl,r1,r2⟩;go_wp2_with fail;go_ret;exact ⟨A2,c2,rfl,r1,r2⟩
theorem Zj (A:Option Addr) (c:Nat) (l:List Int) (w:World) (h:Dg w A c l) (hn:l.length <= 1000000) (v:Nat) (hv:Hid (vl l = v)) :
  Calls Tryz.prog 126 #[.slice A l.length c] w (Zh v w):=(ZaZ A c l w h hn v hv).mono fun _ _ hR=>hR.nd
theorem Yp (n:Nat) (w:World) (h:n <= 18446744073709551615):Calls Tryz.prog 127 #[.int .u64 n] w (Zh n w):=by
 have b1:(n:Int) / 4294967296 <= 4294967295:=by omega
 have b0 : 0 <= (n:Int) / 4294967296:=by omega
 have hv:Hid (vl [(n:Int) % 4294967296,(n:Int) / 4294967296] = n):=zH (by simp [vl,BB];omega);have hd:Hid (dgs [(n:Int) % 4294967296,(n:Int) / 4294967296]):=zH (by
  intro x hx;simp at hx;rcases hx with rfl | rfl <;> omega)
 go_enter Tryz.func127,Tryz.ntmps127;go_wp2_with fail;obtain ⟨W,hW⟩:∃ W,W = w.alloc (Obj.cells #[.int .u32 ((n:Int) % 4294967296),.int .u32 ((n:Int) / 4294967296)] 173):=⟨_,rfl⟩;have hL0:Lies W (some ⟨w.heap.size,0,none⟩) (ucs [(n:Int) % 4294967296,(n:Int) / 4294967296]):=by
  rw [hW];exact fun _=>⟨w.heap.size,0,rfl,by simp,fun k u hu=>by
   rw [Nat.zero_add,cell_of_row _ _ k _ _ _ (heap_alloc_new w _)];simpa using hu⟩
 have hB0:Below w.heap.size w W:=by rw [hW];exact bR.alloc nR _
 rw [<- hW];clear hW;refine (Zj (some ⟨w.heap.size,0,none⟩) 2 [(n:Int) % 4294967296,(n:Int) / 4294967296] W ⟨hL0,hd.out,by simp,fun e=>by cases e⟩ (by simp) n hv).mono ?_;rintro e w' ⟨A2,c2,rfl,r1,r2,r3,r4⟩;go_wp2_with fail;go_ret;exact ⟨A2,c2,rfl,r1,r2,r3,hB0.trans (r4.mono hB0.size)⟩
theorem YG (A B:Option Addr) (c d:Nat) (x y:Nat) (w:World) (hA:Dg w A c (nd x)) (hB:Dg w B d (nd y)) (nx:(nd x).length <= 1000000) (r:Int) (hr:Hid (UB x y = r)) :
  Calls Tryz.prog 132 #[.slice A (nd x).length c,.slice B (nd y).length d] w (ZkC r w):=by
 have LA:=zH hA.lies;have LB:=zH hB.lies;clear hA hB;go_enter Tryz.func132,Tryz.ntmps132;by_cases h1:(nd x).length < (nd y).length
 ·have HR:Hid (r = -1):=zH (by rw [<- hr.out];exact YS (Vp h1));have q:(((nd x).length:Int) != (nd y).length) = true:=by simp;omega
  generalize (nd x).length = m at *
  generalize (nd y).length = n at *
  go_wp2_with fail;go_ret;exact ⟨JS (by rw [HR.out]),0,rfl⟩
 ·by_cases h2:(nd y).length < (nd x).length
  ·have HR:Hid (r = 1):=zH (by rw [<- hr.out];exact YB (Vp h2));have q:(((nd x).length:Int) != (nd y).length) = true:=(by simp;omega);generalize (nd x).length = m at *
   generalize (nd y).length = n at *
   go_wp2_with fail;go_ret;exact ⟨JS (by rw [HR.out]),0,rfl⟩
  ·have hl:(nd y).length = (nd x).length:=by omega
   have DX:=zH (JJ x);have DY:=zH (JJ y);have VX:=zH (Jy x);have VY:=zH (Jy y);have LX:=LA.out;have LY:=LB.out;clear LA LB h1 h2;generalize nd x = xs at *
   generalize nd y = ys at *
   have HL:=zH hl;rw [hl];clear hl;go_wp2_with fail;go_loopw [5] (fun i wr=>∃ k:Nat,k <= xs.length /\ i = .int .i64 ((k:Int) - 1) /\ Hid (xs.drop k = ys.drop k) /\ ∃ n,wr = w.drewN n) (fun i _=>(intOf i + 1).toNat)
   case atStart=>exact ⟨xs.length,Nat.le_refl _,rfl,zH (by rw [List.drop_eq_nil_of_le nR,List.drop_eq_nil_of_le (by rw [HL.out];exact Nat.le_refl _)]),0,rfl⟩
   case round=>
    obtain ⟨k,hk,rfl,hdr,n,hwd⟩:=hrel;have L1:Lies wr A (ucs xs):=(by rw [hwd];exact LX.drewN n);have L2:Lies wr B (ucs ys):=(by rw [hwd];exact LY.drewN n);have WD:=zH hwd;clear hwd;by_cases h0:k = 0
    ·subst h0;have HR:Hid (r = 0):=zH (by
      have e:xs = ys:=(by simpa using hdr.out);have h1:=VX.out;rw [e,VY.out] at h1;rw [<- hr.out];exact YT (by omega))
     go_wp2_with fail;go_ret;exact ⟨JS (by rw [HR.out]),n,WD.out⟩
    ·obtain ⟨b1,o1,rfl,hb1,hc1⟩:=L1.uat (k:=k - 1) (by omega);obtain ⟨b2,o2,rfl,hb2,hc2⟩:=L2.uat (k:=k - 1) (by rw [HL.out];omega);have i0:((k:Int) - 1).toNat = k - 1:=(by omega);have d1:=JI DX.out (k - 1);have d2:=JI DY.out (k - 1);have ek:k - 1 + 1 = k:=(by omega);have lt1:xs[k - 1]?.getD 0 < ys[k - 1]?.getD 0 -> Hid (r = -1):=fun hlt=>zH (by
      have:=ZcI DX.out DY.out HL.out.symm (i:=k - 1) (by omega) (by rw [ek];exact hdr.out) hlt;rw [VX.out,VY.out] at this;rw [<- hr.out];exact YS (by omega))
     have gt1:ys[k - 1]?.getD 0 < xs[k - 1]?.getD 0 -> Hid (r = 1):=fun hlt=>zH (by
      have:=ZcI DY.out DX.out HL.out (i:=k - 1) (by rw [HL.out];omega) (by rw [ek];exact hdr.out.symm) hlt;rw [VX.out,VY.out] at this;rw [<- hr.out];exact YB (by omega))
     have eq1:xs[k - 1]?.getD 0 = ys[k - 1]?.getD 0 -> Hid (xs.drop (k - 1) = ys.drop (k - 1)):=fun he=>zH (ZbB HL.out.symm (by rw [ek];exact hdr.out) he);have LT:=zH lt1;have GT:=zH gt1;have EQ:=zH eq1;clear lt1 gt1 eq1 ek;generalize xs[k - 1]?.getD 0 = u at *
     generalize ys[k - 1]?.getD 0 = v at *
     by_cases hlt:u < v
     ·have HR:=LT.out hlt;have q:(u != v) = true:=(by simp;omega);clear LT GT EQ;go_wp2_with fail;go_quiet (fail);go_wp2_with fail;go_quiet (fail);go_wp2_with fail;go_ret;exact ⟨JS (by rw [HR.out]),by rw [WD.out];exact VB _ _ _ _⟩
     ·by_cases hgt:v < u
      ·have HR:=GT.out hgt;have q:(u != v) = true:=(by simp;omega);clear LT GT EQ;go_wp2_with fail;go_quiet (fail);go_wp2_with fail;go_quiet (fail);go_wp2_with fail;go_ret;exact ⟨JS (by rw [HR.out]),by rw [WD.out];exact VB _ _ _ _⟩
      ·have he:u = v:=(by omega);have HD:=EQ.out he;subst he;clear LT GT EQ hlt hgt;go_wp2_with fail;go_quiet (fail);go_wp2_with fail;exact ⟨⟨k - 1,by omega,by go_num,HD,by rw [WD.out];exact ZK _ _ _⟩,by simp [intOf];omega⟩
def BT (w:World) (b:Nat) (e:TypeId):Prop:=∃ cur fr,w.heap[b]? = some (.cells cur e fr)
section
variable {w w':World} {b b':Nat} {e e':TypeId}
theorem BT.lt (h:BT w b e):b < w.heap.size:=by obtain ⟨c,f,h⟩:=h;exact (aE h).1
theorem BT.ne (h:BT w b e) (h':BT w b' e') (hne:e ≠ e'):b ≠ b':=by
 rintro rfl;obtain ⟨c,f,h⟩:=h;obtain ⟨c',f',h'⟩:=h';rw [h] at h';injection h' with h'
 injection h' with _ h2 _
 exact hne h2
theorem BT.block (h:BT w b e) (he:w'.heap[b]? = w.heap[b]?):BT w' b e:=by
 obtain ⟨c,f,h⟩:=h;exact ⟨c,f,he.trans h⟩
theorem BT.below (h:BT w b e) (hb:Below w.heap.size w w'):BT w' b e:=h.block (hb.block b h.lt)
theorem BT.of_own {base size n:Nat} {v:Value} {xs:List Value} (h:w.ownsRow base e size v n xs) (hv:v.ownBlock = some b):BT w b e:=by
 rcases h.2 with ⟨rfl,_⟩ | ⟨g,cap,cur,rfl,_,hg,_⟩
 ·simp [Value.ownBlock] at hv
 ·simp [Value.ownBlock] at hv;subst hv;exact ⟨cur,_,hg⟩
end
def Zky (w:World) (A:Option Addr) (e:TypeId):Prop:=∀ b off,A = some ⟨b,off,none⟩ -> BT w b e
def InT (w:World) (x:Inn):Prop:=InOk w x /\ Zky w x.1 3
theorem InT.below {w w':World} {x:Inn} (h:InT w x) (hb:Below w.heap.size w w'):InT w' x:=⟨h.1.below hb,fun b off e=>(h.2 b off e).below hb⟩
theorem InT.block {w w':World} {x:Inn} (h:InT w x) (hs:w.heap.size <= w'.heap.size) (hk:∀ b,BT w b 3 -> w'.heap[b]? = w.heap[b]?):InT w' x:=by
 refine ⟨⟨fun h0=>?_,h.1.2⟩,fun b off e=>(h.2 b off e).block (hk b (h.2 b off e))⟩;obtain ⟨b,off,e,hb,hc⟩:=h.1.1 h0;exact ⟨b,off,e,Nat.lt_of_lt_of_le hb hs,fun k u hu=>(World.cell?_of_block (a:=⟨b,off + k,none⟩) (hk b (h.2 b off e))).trans (hc k u hu)⟩
theorem InT.grown {w w':World} {x:Inn} (h:InT w x) {row:Option Nat} (hg:w.grownBy w' row) {e:TypeId} (hr:∀ k,row = some k -> k < w.heap.size -> BT w k e) (he:e ≠ 3):InT w' x:=
 h.block hg.size fun b hb=>hg.block b hb.lt fun e'=>(hr b e'.symm hb.lt).ne hb he rfl
theorem InT.set {w:World} {x:Inn} (h:InT w x) {p:Addr} {e:TypeId} (hp:BT w p.block e) (he:e ≠ 3) (u:Value):InT (w.setCell p u) x:=
 h.block (by simp [World.setCell]) fun b hb=>Below.heap_setCell w p u b (fun e'=>hp.ne hb he e'.symm)
theorem InT.of_own {w:World} {base n c:Nat} {A:Option Addr} {l:List Int} (h:w.ownsRow base 3 1 (.slice A n c) n (ics l)) (hn:n = l.length) (hl:n <= 9223372036854775807) (hB:∀ y ∈ l,-9223372036854775808 <= y /\ y <= 9223372036854775807):InT w (A,c,l):=by
 subst hn;refine ⟨⟨Lies.of_own h,fun e=>?_,hl,US h,hB⟩,fun b off e=>BT.of_own h (by simp only at e;subst e;rfl)⟩;simp only at e;subst e;rcases h.2 with ⟨e1,e2⟩ | ⟨g,cap,cur,e1,_⟩
 ·injection e1 with _ _ e3
  exact ⟨e3,List.length_eq_zero_iff.1 e2⟩
 ·injection e1 with e3;cases e3
theorem InT.nil (w:World):InT w (none,0,[]):=⟨⟨Lies.nil _ _,fun _=>⟨rfl,rfl⟩,by simp,by simp,by simp⟩,fun b off e=>by cases e⟩
structure LLo (w:World) (base:Nat) (A:Option Addr) (c:Nat) (L:List Inn):Prop where
 row:w.ownsRow base 40 1 (.slice A L.length c) L.length (lcs L)
 inn:∀ x ∈ L,InT w x
theorem LLo.lies {w:World} {base c:Nat} {A:Option Addr} {L:List Inn} (h:LLo w base A c L):Lies w A (lcs L):=Lies.of_own h.row
theorem LLo.nil (w:World) (base:Nat):LLo w base none 0 []:=⟨World.ownsRow_nil _ _ _ _,fun x h=>by simp at h⟩
theorem LLo.below {w w':World} {base c:Nat} {A:Option Addr} {L:List Inn} (h:LLo w base A c L) (hb:Below w.heap.size w w'):LLo w' base A c L:=⟨Jg h.row hb,fun x hx=>(h.inn x hx).below hb⟩
theorem LLo.le {w:World} {base base' c:Nat} {A:Option Addr} {L:List Inn} (h:LLo w base A c L) (hb:base' <= base):LLo w base' A c L:=⟨Jw h.row hb,h.inn⟩
theorem LLo.snoc {w w':World} {base base' c c' n:Nat} {A A':Option Addr} {L:List Inn} {x:Inn} (h:LLo w base A c L) (hx:InT w x) (hg:w.grownBy w' (Value.slice A n c).ownBlock)
  (hr:w'.ownsRow base' 40 1 (.slice A' (L.length + 1) c') (L.length + 1) (lcs L ++ [Value.slice x.1 x.2.2.length x.2.1])):LLo w' base' A' c' (L ++ [x]):=by
 have key:∀ y,InT w y -> InT w' y:=fun y hy=>hy.grown hg (e:=40) (fun k e _=>BT.of_own (v:=.slice A L.length c) h.row (by rw [<- e];cases A <;> rfl)) (by decide);refine ⟨by simpa using hr,fun y hy=>?_⟩;rcases List.mem_append.1 hy with hy | hy
 ·exact key y (h.inn y hy)
 ·simp at hy;subst hy;exact key y hx
def ZkA (out:List (List Int)) (w:World) (e:Ending) (w':World):Prop:=
 ∃ A c L,e = .returned (.slice A (L:List Inn).length c) /\ Hid (Jx L = out) /\ LLo w' w.heap.size A c L /\ Below w.heap.size w w'
theorem Q8 {L:List Inn} {k:Nat} (hk:k < L.length):(Jx L)[k]?.getD [] = L[k].2.2:=by
 rw [List.getElem?_map,gE hk];rfl

theorem U4:(Tryz.prog.info? 40).map (fun i=>(i.zero,i.size,i.bytes)) = some (some (.slice none 0 0),1,24):=by kernel_rfl
end Go.Proofs.YtcjicjfbippmnaaGreat
namespace Go.Proofs.YtcjicjfbippmnaaGreat
open Go.RowKit Ear

def Vcs (n:Nat) (vs:List (List Int)):Prop:=∀ x ∈ vs,x.length = n /\ Xx (-1048576) 1048576 x = true
theorem Vcs.getD {n:Nat} {vs:List (List Int)} (h:Vcs n vs) {t:Nat} (ht:t < vs.length):(vs[t]?.getD []).length = n /\ Xx (-1048576) 1048576 (vs[t]?.getD []) = true:=by
 rw [gE ht];exact h _ (yM ht)
theorem Vcs.len0 {n:Nat} {vs:List (List Int)} (h:Vcs n vs) (h0 : 0 < vs.length):len0 vs = n:=by
 cases vs with
 | nil=>simp at h0
 | cons x l=>exact (h x (List.mem_cons_self ..)).1
theorem Vt (w:World) (u:Value) (t:TypeId):Lies (w.alloc (.cells #[u] t)) (some ⟨w.heap.size,0,none⟩) [u]:=fun _=>
 ⟨w.heap.size,0,rfl,by simp,fun k v hv=>by rw [Nat.zero_add,cell_of_row _ _ k _ _ _ (heap_alloc_new w _)];simpa using hv⟩
theorem Zck (L:List Inn):∀ u ∈ lcs L,u.oneCell' = true:=by
 intro u hu;obtain ⟨x,_,rfl⟩:=List.mem_map.1 hu;rfl
theorem Zcf {w:World} {base:Nat} {e:TypeId} {size n c:Nat} {A:Option Addr} {xs:List Value} (h:w.ownsRow base e size (.slice A n c) n xs):A = none -> c = 0:=by
 rintro rfl;rcases h.2 with ⟨e1,_⟩ | ⟨g,cap,cur,e1,_⟩
 ·injection e1
 ·injection e1 with e1;cases e1
theorem Led.make {w0 w:World} {F:List (Option Addr × List Value)} (h:Led w0 w F) (cs:Array Value) (t:TypeId) (k:Nat) (hk:w.heap.size = k):Led w0 (w.alloc (.cells cs t)) (F ++ [(some ⟨k,0,none⟩,cs.toList)]):=
 (h.alloc _).row (by subst hk;exact heap_alloc_new w _)
end Go.Proofs.YtcjicjfbippmnaaGreat
