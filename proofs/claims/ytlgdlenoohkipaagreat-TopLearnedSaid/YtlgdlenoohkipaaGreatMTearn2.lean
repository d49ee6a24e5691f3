/- TopLearned -/
import Derived.Test.YtlgdlenoohkipaaGreatMTearn1
import Derived.Lib.Strings
import Derived.Lib.Slices
import Derived.Lib.Small
import Derived.Lib.Walk
set_option maxRecDepth 100000
set_option maxHeartbeats 32000000
namespace Go.Proofs.YtlgdlenoohkipaaGreat
open Go.RowKit Ear

theorem ZC (l:List Int):∀ u ∈ ucs l,u.oneCell' = true:=by
 intro u hu;obtain ⟨x,_,rfl⟩:=List.mem_map.1 hu;rfl
theorem Xh (a b:List Int):ucs (a ++ b) = ucs a ++ ucs b:=List.map_append
def Yo (n:Nat) (w:World) (e:Ending) (w':World):Prop:=
 ∃ A c,e = .returned (.slice A (nd n).length c) /\ Lies w' A (ucs (nd n)) /\ (nd n).length <= c /\ (A = none -> c = 0) /\ Below w.heap.size w w'
theorem Xm (w:World) (v:Value) (t:TypeId):Lies (w.alloc (.cells #[v] t)) (some ⟨w.heap.size,0,none⟩) [v]:=fun _=>⟨w.heap.size,0,rfl,by simp,fun k u hu=>by
 rw [Nat.zero_add,cell_of_row _ _ k _ _ _ (heap_alloc_new w _)];simpa using hu⟩
theorem Xj {w:World} {base:Nat} {e:TypeId} {size n c:Nat} {A:Option Addr} {xs:List Value} (h:w.ownsRow base e size (.slice A n c) n xs):n <= c /\ (A = none -> c = 0):=by
 rcases h.2 with ⟨hv,hx⟩ | ⟨g,cap,cur,hv,_,hg,hcur,hle,rest⟩
 ·injection hv with e1 e2 e3
  subst e1 e2 e3;exact ⟨Nat.le_refl _,fun _=>rfl⟩
 ·injection hv with e1 e2 e3
  subst e1 e3;exact ⟨by first | exact hle | omega,fun h=>by cases h⟩
def RetNw (n:Nat) (w:World) (e:Ending) (w':World):Prop:=
 ∃ A c,e = .returned (.slice A (nd n).length c) /\ Lies w' A (ucs (nd n)) /\ (nd n).length <= c /\ (A = none -> c = 0) /\ Below w.heap.size w w' /\ (∀ ad,A = some ad -> w.heap.size <= ad.block)
theorem RetNw.nd {n:Nat} {w w':World} {e:Ending} (h:RetNw n w e w'):Yo n w e w':=by
 obtain ⟨A,c,h1,h2,h3,h4,h5,_⟩:=h;exact ⟨A,c,h1,h2,h3,h4,h5⟩
theorem Zgi {w:World} {base:Nat} {e:TypeId} {size n c:Nat} {A:Option Addr} {xs:List Value} (h:w.ownsRow base e size (.slice A n c) n xs):∀ ad,A = some ad -> base <= ad.block:=by
 intro ad hA;rcases h.2 with ⟨hv,_⟩ | ⟨g,cap,cur,hv,hg,_⟩
 ·cases hv;cases hA
 ·cases hv;cases hA;exact hg
theorem UI (A B:Option Addr) (c d:Nat) (a b:List Int) (w:World) (hA:Lies w A (ucs a)) (hB:Lies w B (ucs b)) (da:Hid (dgs a)) (db:Hid (dgs b)) (hl:b.length <= a.length) (hn:a.length <= 1000000)
  (v:Nat) (hv:Hid (vl a - vl b = v)) :
  Calls Tryz.prog 97 #[.slice A a.length c,.slice B b.length d] w (RetNw v w):=by
 obtain ⟨j0,hj0,ky0,ky1,ky2⟩:=info_parts XJ;have KI:=zH hj0;have KZ0:=zH ky0;have KZ1:=zH ky1;have KZ2:=zH ky2;clear hj0 ky0 ky1 ky2;have HST:=zH (MinusAt.start a b);go_enter Tryz.func97,Tryz.ntmps97;go_wp2_with fail;go_loopw [5,6,7,8,9] (fun s br i _ _ wr=>∃ k:Nat,k <= a.length /\ i = .int .i64 k /\ ∃ out A' c' q,Hid (MinusAt a b out k q) /\ br = .int .u64 q /\ s = .slice A' k c' /\ wr.ownsRow w.heap.size 170 1 (.slice A' k c') k (ucs out) /\ Below w.heap.size w wr) (fun _ _ i _ _ _=>a.length - (intOf i).toNat)
 case atStart=>exact ⟨0,by omega,rfl,[],none,0,0,HST,rfl,rfl,World.ownsRow_nil _ _ _ _,Below.refl _ _⟩
 case round=>
  obtain ⟨k,hk,rfl,out,A',c',q,HM,rfl,rfl,r1,r2⟩:=hrel;clear HST;have h0:=HM.out.c0;have h1:=HM.out.c1;by_cases hlt:k < a.length
  ·obtain ⟨b1,o1,rfl,hb1,hc1⟩:=(hA.below r2).uat hlt;have d1:=JH da.out k;have d2:=JH db.out k;have HN:=zH (fun d' t (h2 : 0 <= d') (h3:d' <= 1) (h4:t = a[k]?.getD 0 - (q + b[k]?.getD 0) + 4294967296 * d')=>HM.out.next h2 h3 h4);have hs2:w.heap.size <= wr.heap.size:=r2.size;have HB:=zH (hB.below r2);by_cases hkb:k < b.length
   ·obtain ⟨b2,o2,rfl,hb2,hc2⟩:=HB.out.uat hkb;generalize a[k]?.getD 0 = x at *
    generalize b[k]?.getD 0 = y at *
    by_cases hxy:x < q + y
    ·have HX:=HN.out 1 (x + 4294967296 - (q + y)) (by omega) (by omega) (by omega) (by omega) (by omega);have HX':=zH HX;clear HX HN;go_wp2_with (at_builtin;refine Jg _ rfl (.tmp 38) (.tmp 43) _ rfl w.heap.size 170 j0 _ 1 4 Tryz.underlying29 KI.out KZ0.out KZ1.out KZ2.out rfl (by omega) (.slice A' k c') k (ucs out) rfl (r1.alloc _) (some ⟨wr.heap.size,0,none⟩) 1 1 [Value.int .u32 (x + 4294967296 - (q + y))] rfl (fun e=>by cases e) (Xm _ _ _) (by simp) (by simp [Value.oneCell']) (by unfold maxLen;omega) (by omega) (by simp;omega) (k + 1) rfl ?_;intro A4 c4 w4 ho4 hg4 _);have hbel:Below w.heap.size w w4:=(r2.alloc hs2 _).grown hg4 (by simp;omega) (fun k hk=>(r1.lt k hk).1);exact ⟨⟨k + 1,by omega,by go_num,_,A4,c4,1,HX',rfl,rfl,by rw [Xh];exact ho4,hbel⟩,by simp [intOf];omega⟩
    ·have HX:=HN.out 0 (x - (q + y) + 4294967296 * 0) (by omega) (by omega) rfl (by omega) (by omega);have HX':=zH HX;clear HX HN;go_wp2_with (at_builtin;refine Jg _ rfl (.tmp 38) (.tmp 43) _ rfl w.heap.size 170 j0 _ 1 4 Tryz.underlying29 KI.out KZ0.out KZ1.out KZ2.out rfl (by omega) (.slice A' k c') k (ucs out) rfl (r1.alloc _) (some ⟨wr.heap.size,0,none⟩) 1 1 [Value.int .u32 (x - (q + y))] rfl (fun e=>by cases e) (Xm _ _ _) (by simp) (by simp [Value.oneCell']) (by unfold maxLen;omega) (by omega) (by simp;omega) (k + 1) rfl ?_;intro A4 c4 w4 ho4 hg4 _);have hbel:Below w.heap.size w w4:=(r2.alloc hs2 _).grown hg4 (by simp;omega) (fun k hk=>(r1.lt k hk).1);exact ⟨⟨k + 1,by omega,by go_num,_,A4,c4,0,HX',rfl,rfl,by rw [Xh];simpa using ho4,hbel⟩,by simp [intOf];omega⟩
   ·have ey:b[k]?.getD 0 = 0:=(by rw [List.getElem?_eq_none (by omega)];rfl);rw [ey] at HN;clear ey d2;generalize a[k]?.getD 0 = x at *
    by_cases hxy:x < q
    ·have HX:=HN.out 1 (x + 4294967296 - q) (by omega) (by omega) (by omega) (by omega) (by omega);have HX':=zH HX;clear HX HN;go_wp2_with (at_builtin;refine Jg _ rfl (.tmp 38) (.tmp 43) _ rfl w.heap.size 170 j0 _ 1 4 Tryz.underlying29 KI.out KZ0.out KZ1.out KZ2.out rfl (by omega) (.slice A' k c') k (ucs out) rfl (r1.alloc _) (some ⟨wr.heap.size,0,none⟩) 1 1 [Value.int .u32 (x + 4294967296 - q)] rfl (fun e=>by cases e) (Xm _ _ _) (by simp) (by simp [Value.oneCell']) (by unfold maxLen;omega) (by omega) (by simp;omega) (k + 1) rfl ?_;intro A4 c4 w4 ho4 hg4 _);have hbel:Below w.heap.size w w4:=(r2.alloc hs2 _).grown hg4 (by simp;omega) (fun k hk=>(r1.lt k hk).1);exact ⟨⟨k + 1,by omega,by go_num,_,A4,c4,1,HX',rfl,rfl,by rw [Xh];exact ho4,hbel⟩,by simp [intOf];omega⟩
    ·have HX:=HN.out 0 (x - (q + 0) + 4294967296 * 0) (by omega) (by omega) rfl (by omega) (by omega);have HX':=zH HX;clear HX HN;go_wp2_with (at_builtin;refine Jg _ rfl (.tmp 38) (.tmp 43) _ rfl w.heap.size 170 j0 _ 1 4 Tryz.underlying29 KI.out KZ0.out KZ1.out KZ2.out rfl (by omega) (.slice A' k c') k (ucs out) rfl (r1.alloc _) (some ⟨wr.heap.size,0,none⟩) 1 1 [Value.int .u32 (x - q)] rfl (fun e=>by cases e) (Xm _ _ _) (by simp) (by simp [Value.oneCell']) (by unfold maxLen;omega) (by omega) (by simp;omega) (k + 1) rfl ?_;intro A4 c4 w4 ho4 hg4 _);have hbel:Below w.heap.size w w4:=(r2.alloc hs2 _).grown hg4 (by simp;omega) (fun k hk=>(r1.lt k hk).1);exact ⟨⟨k + 1,by omega,by go_num,_,A4,c4,0,HX',rfl,rfl,by rw [Xh];simpa using ho4,hbel⟩,by simp [intOf];omega⟩
  ·obtain rfl:k = a.length:=by omega
   have HD:=zH (HM.out.done hl (by have:=hv.out;omega));have DG:=zH HM.out.dig;have LN:out.length = a.length:=HM.out.len;have LO:=zH (Lies.of_own r1);have OB:=zH (Zgi r1);obtain ⟨k1,k2⟩:=Xj r1;have VV:Hid (vl out = v):=zH (by rw [HD.out,hv.out]);have hcall:=fun W (hW:Lies W A' (ucs out))=>JL A' c' out W hW DG (by omega) (by omega) v VV;rw [LN] at hcall;have HC:=zH hcall;have LN':=zH LN;clear hcall LN h0 h1;go_wp2_with fail;refine (HC.out _ LO.out).mono ?_;rintro e w' ⟨rfl,rfl⟩;go_wp2_with fail;go_ret;exact ⟨A',c',rfl,LO.out.ndl DG.out VV.out,by have:=JD DG.out VV.out;rw [LN'.out] at this;omega,k2,r2,OB.out⟩
theorem Z8 (A B:Option Addr) (c d:Nat) (a b:List Int) (w:World) (hA:Lies w A (ucs a)) (hB:Lies w B (ucs b)) (da:Hid (dgs a)) (db:Hid (dgs b)) (hl:b.length <= a.length) (hn:a.length <= 1000000)
  (v:Nat) (hv:Hid (vl a - vl b = v)) :
  Calls Tryz.prog 97 #[.slice A a.length c,.slice B b.length d] w (Yo v w):=(UI A B c d a b w hA hB da db hl hn v hv).mono fun _ _ hR=>hR.nd
theorem Uv (A B:Option Addr) (c d:Nat) (a b:List Int) (w:World) (hA:Lies w A (ucs a)) (hB:Lies w B (ucs b)) (da:Hid (dgs a)) (db:Hid (dgs b)) (hn:a.length <= 1000000) (hm:b.length <= 1000000)
  (v:Nat) (hv:Hid (vl a * vl b = v)) :
  Calls Tryz.prog 93 #[.slice A a.length c,.slice B b.length d] w (Yo v w):=by
 obtain ⟨w1,hmk,ho1,hb1⟩:=XN w (a.length + b.length) (by omega) w.heap.size nR;have e2:((a.length + b.length:Nat):Int) = (a.length:Int) + (b.length:Int):=by simp
 rw [e2] at hmk;obtain ⟨g,hg⟩:∃ g,g = w.heap.size:=⟨_,rfl⟩;rw [<- hg] at ho1 hmk;have HG:Hid (w.heap.size <= g):=by show _ <= _;omega
 have HST:=zH (MulOut.start a b);clear hg e2;go_enter Tryz.func93,Tryz.ntmps93;go_wp2_with fail;clear hmk;go_loopw [6,7,8] (fun i _ _ wr=>∃ k:Nat,k <= a.length /\ i = .int .i64 k /\ ∃ out,Hid (MulOut a b out k) /\ wr.ownsRow g 170 1 (.slice (some ⟨g,0,none⟩) (a.length + b.length) (a.length + b.length)) (a.length + b.length) (ucs out) /\ Below w.heap.size w wr) (fun i _ _ _=>a.length - (intOf i).toNat)
 case atStart=>exact ⟨0,by omega,rfl,_,HST,ho1,hb1⟩
 case round=>
  obtain ⟨k,hk,rfl,out,HO,r1,r2⟩:=hrel;by_cases hlt:k < a.length
  ·obtain ⟨bk,off,rfl,hb,hc⟩:=(hA.below r2).uat hlt;have HI:=zH HO.out.enter;have hx:=JH da.out k;generalize hx1:a[k]?.getD 0 = x at *
   have HX:=zH hx1;clear hx1 hc hb;go_wp2_with fail;go_loopw [7,8] (fun cy i wr=>∃ m:Nat,m <= b.length /\ i = .int .i64 m /\ ∃ out c,Hid (MulIn a b out k m c) /\ cy = .int .u64 c /\ wr.ownsRow g 170 1 (.slice (some ⟨g,0,none⟩) (a.length + b.length) (a.length + b.length)) (a.length + b.length) (ucs out) /\ Below w.heap.size w wr) (fun _ i _=>b.length - (intOf i).toNat)
   case atStart=>exact ⟨0,by omega,rfl,out,0,HI,rfl,r1,r2⟩
   case round=>
    obtain ⟨m,hm',rfl,out',cy,HS,rfl,s1,s2⟩:=hrel;clear r1 r2;by_cases hlm:m < b.length
    ·obtain ⟨bk',off',eA,hb',hc'⟩:=(hA.below s2).uat hlt;cases eA;obtain ⟨bj,offj,rfl,hbj,hcj⟩:=(hB.below s2).uat hlm;have hy:=JH db.out m;have ho:=JH HS.out.dig (k + m);have h0:=HS.out.c0;have h1:=HS.out.c1;have hl:=HS.out.len;have q1:wr.cell? ⟨g,k + m,none⟩ = some (.int .u32 (out'[k + m]?.getD 0)):=by
      rw [s1.cellAt (k + m) (by omega)];simp only [List.getElem?_map,gE (show k + m < out'.length by omega)];rfl
     have q2:wr.frozen? ⟨g,k + m,none⟩ = false:=s1.frozenAt (k + m);have HN:=zH (fun t ht=>HS.out.next da.out db.out hlt hlm (t:=t) ht);have hp:=ZbM hx hy;rw [HX.out] at hc';generalize hy1:b[m]?.getD 0 = y at *
     generalize ho1':out'[k + m]?.getD 0 = z at *
     have HL:=zH hl;have HY:=zH hy1;have HZ:=zH ho1';clear hl hy1 ho1';have hs:=HN.out (cy + z + x * y) (by rw [HX.out];omega);have HS1:=zH hs;clear hs;have i0:((k:Int) + (m:Int)).toNat = k + m:=(by omega);have i1:(0:Int) <= (k:Int) + (m:Int):=(by omega);have i2:(k:Int) + (m:Int) < (a.length:Int) + (b.length:Int):=(by omega);have p4:IntKind.i64.wrap ((k:Int) + (m:Int)) = (k:Int) + (m:Int):=IntWalk.i64_in _ (by omega);have p1:IntKind.u64.wrap (cy + z) = cy + z:=IntWalk.u64_in _ (by omega);have p2:IntKind.u64.wrap (x * y) = x * y:=IntWalk.u64_in _ (by omega);have p3:IntKind.u64.wrap (cy + z + x * y) = cy + z + x * y:=IntWalk.u64_in _ (by omega);go_wp2_with fail;go_quiet (fail);have b3 : 0 <= cy + z + x * y /\ cy + z + x * y <= 18446744073709551615:=(by clear p1 p2 p3 p4;omega);clear p1 p2 p3 p4;go_wp2_with fail;have hst:=fun n=>(show (wr.drewN n).ownsRow g 170 1 (.slice (some ⟨g,0,none⟩) (a.length + b.length) (a.length + b.length)) (a.length + b.length) (ucs out') from s1).stored (k + m) (.int .u32 ((cy + z + x * y) % 4294967296));simp only [<- List.map_set] at hst;exact ⟨⟨m + 1,by omega,by go_num,_,_,HS1,rfl,(hst _).1,(s2.trans (Ja _ _)).setCell (by exact HG.out) _⟩,by simp [intOf];omega⟩
    ·obtain rfl:m = b.length:=(by omega);have h0:=HS.out.c0;have h1:=HS.out.c1;have hl:=HS.out.len;have q1:wr.cell? ⟨g,k + b.length,none⟩ = some (.int .u32 (out'[k + b.length]?.getD 0)):=by
      rw [s1.cellAt (k + b.length) (by omega)];simp only [List.getElem?_map,gE (show k + b.length < out'.length by omega)];rfl
     have q2:wr.frozen? ⟨g,k + b.length,none⟩ = false:=s1.frozenAt (k + b.length);have HL:=zH (HS.out.leave hlt);have i0:((k:Int) + (b.length:Int)).toNat = k + b.length:=(by omega);clear hl;go_wp2_with fail;have hst:=s1.stored (k + b.length) (.int .u32 cy);rw [<- List.map_set] at hst;exact ⟨⟨k + 1,by omega,by go_num,_,HL,hst.1,s2.setCell (by exact HG.out) _⟩,by simp [intOf];omega⟩
  ·obtain rfl:k = a.length:=by omega
   have hl:=zH HO.out.len;have DG:=zH HO.out.dig;have VV:Hid (vl out = v):=zH (by rw [HO.out.done,hv.out]);have LO:=zH (Lies.of_own r1);have hcall:=fun W (hW:Lies W (some ⟨g,0,none⟩) (ucs out))=>JL (some ⟨g,0,none⟩) (a.length + b.length) out W hW DG (by rw [hl.out];omega) (by rw [hl.out];omega) v VV;rw [hl.out] at hcall;have HC:=zH hcall;clear hcall;go_wp2_with fail;refine (HC.out _ LO.out).mono ?_;rintro e w' ⟨rfl,rfl⟩;go_wp2_with fail;go_ret;exact ⟨_,_,rfl,LO.out.ndl DG.out VV.out,by have:=JD DG.out VV.out;rw [hl.out] at this;omega,(fun e=>by cases e),r2⟩
structure Fr where
 neg:Bool
 A:Option Addr
 c:Nat
 N:List Int
 B:Option Addr
 d:Nat
 D:List Int
abbrev Fr.val (x:Fr):Value:=.agg #[.bool x.neg,.slice x.A x.N.length x.c,.slice x.B x.D.length x.d]
structure Dg (w:World) (A:Option Addr) (c:Nat) (l:List Int):Prop where
 lies:Lies w A (ucs l)
 dig:dgs l
 cap:l.length <= c
 nil:A = none -> c = 0
structure FrOk (w:World) (x:Fr):Prop where
 n:Dg w x.A x.c x.N
 d:Dg w x.B x.d x.D
theorem Dg.below {w w':World} {A:Option Addr} {c:Nat} {l:List Int} (h:Dg w A c l) (hb:Below w.heap.size w w'):Dg w' A c l:=⟨h.lies.below hb,h.dig,h.cap,h.nil⟩
theorem Dg.nd {w:World} {A:Option Addr} {c:Nat} {l:List Int} (h:Dg w A c l) {v:Nat} (hv:vl l = v):Dg w A c (nd v):=⟨h.lies.ndl h.dig hv,Jy v,tR (JD h.dig hv) h.cap,h.nil⟩
theorem Dg.none (w:World):Dg w none 0 []:=⟨Lies.nil _ _,fun x hx=>by simp at hx,Nat.le_refl _,fun _=>rfl⟩
theorem FrOk.below {w w':World} {x:Fr} (h:FrOk w x) (hb:Below w.heap.size w w'):FrOk w' x:=⟨h.n.below hb,h.d.below hb⟩
def den (d:Nat):List Int:=if d = 1 then [] else nd d
def RetFr (neg:Bool) (n d:Nat) (w:World) (e:Ending) (w':World):Prop:=
 ∃ x:Fr,e = .returned x.val /\ FrOk w' x /\ x.neg = neg /\ x.N = nd n /\ x.D = den d /\ Below w.heap.size w w'
theorem Zhp {W w1:World} (hb:Below W.heap.size W w1):(∀ b o,b < W.heap.size -> w1.cell? ⟨b,o,none⟩ = W.cell? ⟨b,o,none⟩) /\ (∀ b o,b < W.heap.size -> w1.frozen? ⟨b,o,none⟩ = W.frozen? ⟨b,o,none⟩):=
 ⟨fun b o h=>hb.cell (p:=⟨b,o,none⟩) h,fun b o h=>hb.frozen (p:=⟨b,o,none⟩) h⟩
theorem Zfv (w:World) (v:Int) (h : 0 <= v /\ v <= 4294967295) (t:TypeId):Dg (w.alloc (.cells #[.int .u32 v] t)) (some ⟨w.heap.size,0,none⟩) 1 [v]:=
 ⟨Xm _ _ _,fun x hx=>by simp at hx;subst hx;exact h,by simp,fun e=>by cases e⟩

def Bx (w:World) (k:Nat):Prop:=w.heap[k]? = some (.cells #[.bool false,.slice none 0 0,.slice none 0 0] 31 (0,0))
theorem Bx.new (w:World):Bx (w.alloc (.cells #[.bool false,.slice none 0 0,.slice none 0 0] 31)) w.heap.size:=heap_alloc_new w _
theorem Bx.lt {w:World} {k:Nat} (h:Bx w k):k < w.heap.size:=(aE h).1
theorem Bx.below {w w':World} {k:Nat} (h:Bx w k) (hb:Below w.heap.size w w'):Bx w' k:=(hb.block k h.lt).trans h
theorem Bx.alloc {w:World} {k:Nat} (h:Bx w k) (o:Obj):Bx (w.alloc o) k:=h.below ((Below.refl _ w).alloc nR o)
theorem Bx.facts {w:World} {k:Nat} (h:Bx w k):w.cell? ⟨k,0,none⟩ = some (.bool false) /\ w.cell? ⟨k,1,none⟩ = some (.slice none 0 0) /\ w.cell? ⟨k,2,none⟩ = some (.slice none 0 0) /\ w.frozen? ⟨k,0,none⟩ = false /\ w.frozen? ⟨k,1,none⟩ = false /\ w.frozen? ⟨k,2,none⟩ = false:=
 ⟨by rw [cell_of_row w k 0 _ _ _ h];rfl,by rw [cell_of_row w k 1 _ _ _ h];rfl,by rw [cell_of_row w k 2 _ _ _ h];rfl,by simp [World.frozen?,show w.heap[k]? = _ from h],by simp [World.frozen?,show w.heap[k]? = _ from h],by simp [World.frozen?,show w.heap[k]? = _ from h]⟩
theorem Lies.apartBox {w w':World} {A:Option Addr} {l:List Int} {k:Nat} (h:Lies w A (ucs l)) (hb:Bx w k) (hs:w.heap.size <= w'.heap.size) (hk:∀ b,b ≠ k -> b < w.heap.size -> w'.heap[b]? = w.heap[b]?):Lies w' A (ucs l):=fun h0=>by
 obtain ⟨b,off,e,hlt,hc⟩:=h h0;have hne:b ≠ k:=by
  rintro rfl;have hl : 0 < l.length:=by simpa using h0
  have:=hc 0 (.int .u32 l[0]) (by simp [gE hl]);rw [cell_of_row w b _ _ _ _ hb] at this;rcases (show off + 0 = 0 ∨ off + 0 = 1 ∨ off + 0 = 2 ∨ 3 <= off + 0 by omega) with e | e | e | e
  ·rw [e] at this;simp at this
  ·rw [e] at this;simp at this
  ·rw [e] at this;simp at this
  ·rw [Array.getElem?_eq_none (by simpa using e)] at this;cases this
 exact ⟨b,off,e,by omega,fun j u hu=>by
  rw [<- hc j u hu];exact World.cell?_of_block (a:=⟨b,off + j,none⟩) (hk b hne hlt)⟩
theorem FrOk.boxed {w:World} {x:Fr} {k:Nat} (h:FrOk w x) (hb:Bx w k) (v0 v1 v2:Value):FrOk (((w.setCell ⟨k,0,none⟩ v0).setCell ⟨k,1,none⟩ v1).setCell ⟨k,2,none⟩ v2) x:=by
 have hk:∀ b,b ≠ k -> b < w.heap.size -> (((w.setCell ⟨k,0,none⟩ v0).setCell ⟨k,1,none⟩ v1).setCell ⟨k,2,none⟩ v2).heap[b]? = w.heap[b]?:=fun b hne _=>
  (Below.heap_setCell _ ⟨k,2,none⟩ v2 b hne).trans ((Below.heap_setCell _ ⟨k,1,none⟩ v1 b hne).trans (Below.heap_setCell _ ⟨k,0,none⟩ v0 b hne))
 exact ⟨⟨h.n.lies.apartBox hb (by simp) hk,h.n.dig,h.n.cap,h.n.nil⟩,⟨h.d.lies.apartBox hb (by simp) hk,h.d.dig,h.d.cap,h.d.nil⟩⟩
theorem ZbV (n:Nat) (w:World) (h:n <= 18446744073709551615):Calls Tryz.prog 46 #[.int .u64 n] w (Yo n w):=by
 have b1:(n:Int) / 4294967296 <= 4294967295:=by omega
 have b0 : 0 <= (n:Int) / 4294967296:=by omega
 have hv:Hid (vl [(n:Int) % 4294967296,(n:Int) / 4294967296] = n):=zH (by simp [vl,BB];omega);have hd:Hid (dgs [(n:Int) % 4294967296,(n:Int) / 4294967296]):=zH (by
  intro x hx;simp at hx;rcases hx with rfl | rfl <;> omega)
 go_enter Tryz.func46,Tryz.ntmps46;go_wp2_with fail;obtain ⟨W,hW⟩:∃ W,W = w.alloc (Obj.cells #[.int .u32 ((n:Int) % 4294967296),.int .u32 ((n:Int) / 4294967296)] 170):=⟨_,rfl⟩;have hL0:Lies W (some ⟨w.heap.size,0,none⟩) (ucs [(n:Int) % 4294967296,(n:Int) / 4294967296]):=by
  rw [hW];exact fun _=>⟨w.heap.size,0,rfl,by simp,fun k u hu=>by
   rw [Nat.zero_add,cell_of_row _ _ k _ _ _ (heap_alloc_new w _)];simpa using hu⟩
 have hB0:Below w.heap.size w W:=by rw [hW];exact bR.alloc nR _
 have HL:=zH (hL0.ndl hd.out hv.out);have HN:=JD hd.out hv.out;simp only [List.length_cons,List.length_nil] at HN;rw [<- hW];clear hW;refine (JL (some ⟨w.heap.size,0,none⟩) 2 [(n:Int) % 4294967296,(n:Int) / 4294967296] W hL0 hd (by simp) (by simp) n hv).mono ?_;rintro e w' ⟨rfl,rfl⟩;go_wp2_with fail;go_ret;exact ⟨_,_,rfl,HL.out,HN,(fun e=>by cases e),hB0⟩
theorem Zf1 (n:Nat) (w:World) (h:n <= 9223372036854775807):Calls Tryz.prog 47 #[.int .i64 n] w fun e w'=>e = .returned (.int .u64 n) /\ w = w':=by
 go_enter Tryz.func47,Tryz.ntmps47;go_wp2_with fail;go_ret;exact ⟨rfl,rfl⟩
theorem Zf2 (n:Nat) (w:World) (h : 0 < n) (h2:n <= 9223372036854775808):Calls Tryz.prog 47 #[.int .i64 (-(n:Int))] w fun e w'=>e = .returned (.int .u64 n) /\ w = w':=by
 have hn : -(n:Int) < 0:=by omega
 go_enter Tryz.func47,Tryz.ntmps47;go_wp2_with fail;go_ret;exact ⟨JU (by rw [IntKind.wrap_u64,IntKind.wrap_u64];omega),rfl⟩
theorem Zf3 (z:Int) (w:World) (h1 : -9223372036854775808 <= z) (h2:z <= 9223372036854775807):Calls Tryz.prog 47 #[.int .i64 z] w fun e w'=>e = .returned (.int .u64 z.natAbs) /\ w = w':=by
 by_cases h:z < 0
 ·have:=Zf2 z.natAbs w (by omega) (by omega)
  rwa [show -((z.natAbs:Nat):Int) = z by omega] at this
 ·have e:z = ((z.natAbs:Nat):Int):=by omega
  generalize z.natAbs = m at *
  subst e;exact Zf1 m w (by omega)
theorem Zh4 (x:Fr) (w:World) (hx:FrOk w x) (hn:x.D.length <= 1000000) (v:Nat) (hv:Hid (vl x.D = v)) :
  Calls Tryz.prog 94 #[x.val] w (Yo (if v = 0 then 1 else v) w):=by
 obtain ⟨neg,A,c,N,B,d,D⟩:=x;obtain ⟨h1,h2⟩:=hx;simp only at *
 have LD:=zH (h2.lies.ndl h2.dig hv.out);have HL:=JD h2.dig hv.out;have HD:=zH h2;have hcap:=h2.cap;have hW:=zH (fun o=>(h2.lies.alloc (w:=w) o));clear h1 h2;by_cases h0:v = 0
 ·rw [if_pos h0];have HZ:Hid ((nd v).length = 0):=zH (by rw [h0,JE];rfl);go_enter Tryz.func94,Tryz.ntmps94;go_wp2_with fail;refine (JL B d D _ (hW.out _) (zH HD.out.dig) hcap (by omega) v hv).mono ?_;rintro e w' ⟨rfl,rfl⟩;have hz:=HZ.out;rw [hz];clear hz;go_wp2_with fail;go_ret;exact ⟨some ⟨w.heap.size + 1,0,none⟩,1,by rw [Yy];rfl,by rw [Yy];have h:=Xm (w.alloc (.cells #[.bool neg,.slice A N.length c,.slice B D.length d] 31)) (.int .u32 1) 170;simpa using h,by rw [Yy];simp,(fun e=>by cases e),(bR.alloc nR _).alloc (by simp) _⟩
 ·rw [if_neg h0];have hz:(nd v).length ≠ 0:=fun h=>h0 (Js.1 h);go_enter Tryz.func94,Tryz.ntmps94;go_wp2_with fail;refine (JL B d D _ (hW.out _) (zH HD.out.dig) hcap (by omega) v hv).mono ?_;rintro e w' ⟨rfl,rfl⟩;have q:(((nd v).length:Int) == 0) = false:=beq_eq_false_iff_ne.2 (by omega);have HC:Hid ((nd v).length <= d):=zH (by omega);go_wp2_with fail;go_ret;exact ⟨B,d,rfl,LD.out.alloc _,HC.out,HD.out.nil,bR.alloc nR _⟩
def URet (l:List Int) (w:World) (e:Ending) (w':World):Prop:=
 ∃ A c,e = .returned (.slice A l.length c) /\ w'.ownsRow w.heap.size 170 1 (.slice A l.length c) l.length (ucs l) /\ Below w.heap.size w w'
theorem Dg.nl {w:World} {A:Option Addr} {c:Nat} {l:List Int} (h:Dg w A c l) (hA:A = Option.none):c = 0 /\ l = []:=by
 have h1:=h.nil hA;have h2:=h.cap;exact ⟨h1,List.length_eq_zero_iff.1 (by omega)⟩
theorem URet.nd {n:Nat} {w w':World} {e:Ending} (h:URet (nd n) w e w'):Yo n w e w':=by
 obtain ⟨A,c,he,h1,h2⟩:=h;exact ⟨A,c,he,Lies.of_own h1,(Xj h1).1,(Xj h1).2,h2⟩
theorem QB {w:World} {base:Nat} {e:TypeId} {size n:Nat} {v:Value} {xs:List Value} (h:w.ownsRow base e size v n xs):∃ A c,v = .slice A n c:=by
 rcases h.2 with ⟨rfl,rfl⟩ | ⟨g,cap,cur,rfl,_⟩
 ·exact ⟨_,_,rfl⟩
 ·exact ⟨_,_,rfl⟩
theorem Lies.newsU {w:World} {ad:Addr} {xs:List Value} (h:Lies w (some ad) xs) (o:Obj) (j:Nat) (u:Value) (hu:xs[j]? = some u):(w.alloc o).cell? (ad.add j) = some u:=by
 obtain ⟨b,off,e,hb,hc⟩:=h (Nat.lt_of_le_of_lt (Nat.zero_le _) (List.getElem?_eq_some_iff.1 hu).1);cases e;rw [Addr.add_lit];exact (World.cell?_alloc_lt w o _ hb).trans (hc j u hu)
theorem ZdS (A:Option Addr) (c:Nat) (l:List Int) (w:World) (h:Dg w A c l) (hn:l.length <= 1000000) :
  Calls Tryz.prog 184 #[.slice A l.length c] w (URet l w):=by
 obtain ⟨i0,hi0,hz0,hz1,hz2⟩:=info_parts XJ;have HI:=zH hi0;have HZ0:=zH hz0;have HZ1:=zH hz1;have HZ2:=zH hz2;clear hi0 hz0 hz1 hz2;cases A with
 | none=>
  obtain ⟨rfl,rfl⟩:=h.nl rfl;have hnil:∀ W,(binOp .eql 29 (.slice none 0 0) (.slice none 0 0)).run Tryz.prog W = .ok (.bool true) W:=fun W=>Lib.run_eql_slice_nil W 29 170 none 0 0 0 0 Tryz.underlying29;go_enter Tryz.func184,Tryz.ntmps184;go_wp2_with fail;go_ret;exact ⟨none,0,rfl,World.ownsRow_nil _ _ _ _,Below.refl _ _⟩
 | some ad=>
  have hnil:∀ W,(binOp .eql 29 (.slice (some ad) l.length c) (.slice none 0 0)).run Tryz.prog W = .ok (.bool false) W:=fun W=>Lib.run_eql_slice_nil W 29 170 (some ad) l.length c 0 0 Tryz.underlying29;have hnews:=zH (h.lies.newsU);clear h;go_enter Tryz.func184,Tryz.ntmps184;go_wp2_with (at_builtin;refine wpList_append_own_at _ rfl (.tmp 5) (.tmp 6) _ rfl w.heap.size 170 i0 _ 1 4 Tryz.underlying29 HI.out HZ0.out HZ1.out HZ2.out rfl (by omega) (.slice (some ⟨w.heap.size,0,none⟩) 0 0) 0 [] rfl (World.ownsRow_lit w #[] 0 nR (by simp) rfl) ad l.length c (ucs l) rfl (by simp) (hnews.out _) (ZC l) (by unfold maxLen;omega) (by omega) (by simp) ?_;intro v' w1 hown1 hgrow _ hat);go_ret;obtain ⟨A',c',rfl⟩:=QB hown1;refine ⟨A',c',by rw [Nat.zero_add];rfl,by simpa using hown1,(bR.alloc nR _).grown hgrow (by simp) (fun k hk=>?_)⟩;simp [Value.ownBlock] at hk;omega
theorem Zr (A:Option Addr) (c:Nat) (l:List Int) (w:World) (h:Dg w A c l) (hn:l.length <= 1000000) :
  Calls Tryz.prog 158 #[.slice A l.length c] w (URet l w):=by
 obtain ⟨i0,hi0,hz0,hz1,hz2⟩:=info_parts XJ;have HI:=zH hi0;have HZ0:=zH hz0;have HZ1:=zH hz1;have HZ2:=zH hz2;clear hi0 hz0 hz1 hz2;cases A with
 | none=>
  obtain ⟨rfl,rfl⟩:=h.nl rfl;have hnil:∀ W,(binOp .eql 194 (.slice none 0 0) (.slice none 0 0)).run Tryz.prog W = .ok (.bool true) W:=fun W=>Lib.run_eql_slice_nil W 194 170 none 0 0 0 0 Tryz.underlying194;go_enter Tryz.func158,Tryz.ntmps158;go_wp2_with fail;go_ret;exact ⟨none,0,rfl,World.ownsRow_nil _ _ _ _,Below.refl _ _⟩
 | some ad=>
  have hnil:∀ W,(binOp .eql 194 (.slice (some ad) l.length c) (.slice none 0 0)).run Tryz.prog W = .ok (.bool false) W:=fun W=>Lib.run_eql_slice_nil W 194 170 (some ad) l.length c 0 0 Tryz.underlying194;have hnews:=zH (h.lies.newsU);clear h;go_enter Tryz.func158,Tryz.ntmps158;go_wp2_with (at_builtin;refine wpList_append_own_at _ rfl (.tmp 5) (.tmp 6) _ rfl w.heap.size 170 i0 _ 1 4 Tryz.underlying194 HI.out HZ0.out HZ1.out HZ2.out rfl (by omega) (.slice (some ⟨w.heap.size,0,none⟩) 0 0) 0 [] rfl (World.ownsRow_lit w #[] 0 nR (by simp) rfl) ad l.length c (ucs l) rfl (by simp) (hnews.out _) (ZC l) (by unfold maxLen;omega) (by omega) (by simp) ?_;intro v' w1 hown1 hgrow _ hat);go_ret;obtain ⟨A',c',rfl⟩:=QB hown1;refine ⟨A',c',by rw [Nat.zero_add];rfl,by simpa using hown1,(bR.alloc nR _).grown hgrow (by simp) (fun k hk=>?_)⟩;simp [Value.ownBlock] at hk;omega
theorem ZaH (A:Option Addr) (c:Nat) (l:List Int) (w:World) (h:Dg w A c l) (hn:l.length <= 1000000) (v:Nat) (hv:Hid (vl l = v)) :
  Calls Tryz.prog 155 #[.slice A l.length c] w (URet (nd v) w):=by
 have HZ:=zH (ZbB l);have hd:=zH h.dig;have hlc:=h.cap;have HL:=zH h.lies;have HC:=zH (ZdS A c (nd v) w (h.nd hv.out) (by have:=JD hd.out hv.out;omega));clear h;go_enter Tryz.func155,Tryz.ntmps155;go_wp2;go_loop [3] (fun i=>∃ k:Nat,k <= l.length /\ i = .int .i64 k /\ Hid (zer l k)) (fun i=>(intOf i).toNat)
 case atStart=>exact ⟨_,Nat.le_refl _,rfl,HZ⟩
 case round=>
  obtain ⟨k,hk,rfl,hz⟩:=hrel;clear HZ;have fin:∀ (hm:k = 0 ∨ l[k - 1]?.getD 0 ≠ 0),Hid ((nd v).length = k):=fun hm=>zH (by
   have e:=ZbJ hd.out hz.out hm;rw [hv.out,Int.toNat_natCast] at e;rw [<- e,List.length_take];omega)
  have FIN:=zH fin;clear fin;by_cases h0:k = 0
  ·subst h0;have F:=FIN.out (.inl rfl);have HC':=zH (show Calls Tryz.prog 184 #[.slice A 0 c] w (URet (nd v) w) by have:=HC.out;rwa [F.out] at this);go_wp2_with fail;refine HC'.out.mono ?_;rintro e w' ⟨A2,c2,rfl,r1,r2⟩;go_wp2_with fail;go_ret;exact ⟨A2,c2,rfl,r1,r2⟩
  ·obtain ⟨b,off,rfl,hb,hc⟩:=HL.out.uat (k:=k - 1) (by omega);have i0:((k:Int) - 1).toNat = k - 1:=(by omega);by_cases hx:l[k - 1]?.getD 0 = 0
   ·have HZ1:=zH (QP (by omega) hz.out hx);rw [hx] at hc;clear hx;go_wp2_with fail;exact ⟨⟨k - 1,by omega,by go_num,HZ1⟩,by simp [intOf];omega⟩
   ·have F:=FIN.out (.inr hx);have HC':=zH (show Calls Tryz.prog 184 #[.slice (some ⟨b,off,none⟩) k c] w (URet (nd v) w) by have:=HC.out;rwa [F.out] at this);have hd1:=JH hd.out (k - 1);generalize hx1:l[k - 1]?.getD 0 = x at *
    have HX:=zH hx1;clear hx1;have q:(x == 0) = false:=(by simpa using hx);have hkc:k <= c:=(by omega);go_wp2_with fail;refine HC'.out.mono ?_;rintro e w' ⟨A2,c2,rfl,r1,r2⟩;go_wp2_with fail;go_ret;exact ⟨A2,c2,rfl,r1,r2⟩
theorem Y4 (A:Option Addr) (c:Nat) (l:List Int) (w:World) (h:Dg w A c l) (hn:l.length <= 1000000) (v:Nat) (hv:Hid (vl l = v)) :
  Calls Tryz.prog 155 #[.slice A l.length c] w (Yo v w):=(ZaH A c l w h hn v hv).mono fun _ _ hR=>hR.nd
theorem Yb (n:Nat) (w:World) (h:n <= 18446744073709551615):Calls Tryz.prog 156 #[.int .u64 n] w (Yo n w):=by
 have b1:(n:Int) / 4294967296 <= 4294967295:=by omega
 have b0 : 0 <= (n:Int) / 4294967296:=by omega
 have hv:Hid (vl [(n:Int) % 4294967296,(n:Int) / 4294967296] = n):=zH (by simp [vl,BB];omega);have hd:Hid (dgs [(n:Int) % 4294967296,(n:Int) / 4294967296]):=zH (by
  intro x hx;simp at hx;rcases hx with rfl | rfl <;> omega)
 go_enter Tryz.func156,Tryz.ntmps156;go_wp2_with fail;obtain ⟨W,hW⟩:∃ W,W = w.alloc (Obj.cells #[.int .u32 ((n:Int) % 4294967296),.int .u32 ((n:Int) / 4294967296)] 170):=⟨_,rfl⟩;have hL0:Lies W (some ⟨w.heap.size,0,none⟩) (ucs [(n:Int) % 4294967296,(n:Int) / 4294967296]):=by
  rw [hW];exact fun _=>⟨w.heap.size,0,rfl,by simp,fun k u hu=>by
   rw [Nat.zero_add,cell_of_row _ _ k _ _ _ (heap_alloc_new w _)];simpa using hu⟩
 have hB0:Below w.heap.size w W:=by rw [hW];exact bR.alloc nR _
 rw [<- hW];clear hW;refine (Y4 (some ⟨w.heap.size,0,none⟩) 2 [(n:Int) % 4294967296,(n:Int) / 4294967296] W ⟨hL0,hd.out,by simp,fun e=>by cases e⟩ (by simp) n hv).mono ?_;rintro e w' ⟨A2,c2,rfl,r1,r2,r3,r4⟩;go_wp2_with fail;go_ret;exact ⟨A2,c2,rfl,r1,r2,r3,hB0.trans (r4.mono hB0.size)⟩
theorem Yp (A B:Option Addr) (c d:Nat) (x y:Nat) (w:World) (hA:Dg w A c (nd x)) (hB:Dg w B d (nd y)) (nx:(nd x).length <= 1000000) (r:Int) (hr:Hid (Ue x y = r)) :
  Calls Tryz.prog 159 #[.slice A (nd x).length c,.slice B (nd y).length d] w (Zj4 r w):=by
 have LA:=zH hA.lies;have LB:=zH hB.lies;clear hA hB;go_enter Tryz.func159,Tryz.ntmps159;by_cases h1:(nd x).length < (nd y).length
 ·have HR:Hid (r = -1):=zH (by rw [<- hr.out];exact Yk (Z6 h1));have q:(((nd x).length:Int) != (nd y).length) = true:=by simp;omega
  generalize (nd x).length = m at *
  generalize (nd y).length = n at *
  go_wp2_with fail;go_ret;exact ⟨JU (by rw [HR.out]),0,rfl⟩
 ·by_cases h2:(nd y).length < (nd x).length
  ·have HR:Hid (r = 1):=zH (by rw [<- hr.out];exact XX (Z6 h2));have q:(((nd x).length:Int) != (nd y).length) = true:=(by simp;omega);generalize (nd x).length = m at *
   generalize (nd y).length = n at *
   go_wp2_with fail;go_ret;exact ⟨JU (by rw [HR.out]),0,rfl⟩
  ·have hl:(nd y).length = (nd x).length:=by omega
   have DX:=zH (Jy x);have DY:=zH (Jy y);have VX:=zH (Jo x);have VY:=zH (Jo y);have LX:=LA.out;have LY:=LB.out;clear LA LB h1 h2;generalize nd x = xs at *
   generalize nd y = ys at *
   have HL:=zH hl;rw [hl];clear hl;go_wp2_with fail;go_loopw [5] (fun i wr=>∃ k:Nat,k <= xs.length /\ i = .int .i64 ((k:Int) - 1) /\ Hid (xs.drop k = ys.drop k) /\ ∃ n,wr = w.drewN n) (fun i _=>(intOf i + 1).toNat)
   case atStart=>exact ⟨xs.length,Nat.le_refl _,rfl,zH (by rw [List.drop_eq_nil_of_le nR,List.drop_eq_nil_of_le (by rw [HL.out];exact Nat.le_refl _)]),0,rfl⟩
   case round=>
    obtain ⟨k,hk,rfl,hdr,n,hwd⟩:=hrel;have L1:Lies wr A (ucs xs):=(by rw [hwd];exact LX.drewN n);have L2:Lies wr B (ucs ys):=(by rw [hwd];exact LY.drewN n);have WD:=zH hwd;clear hwd;by_cases h0:k = 0
    ·subst h0;have HR:Hid (r = 0):=zH (by
      have e:xs = ys:=(by simpa using hdr.out);have h1:=VX.out;rw [e,VY.out] at h1;rw [<- hr.out];exact Yl (by omega))
     go_wp2_with fail;go_ret;exact ⟨JU (by rw [HR.out]),n,WD.out⟩
    ·obtain ⟨b1,o1,rfl,hb1,hc1⟩:=L1.uat (k:=k - 1) (by omega);obtain ⟨b2,o2,rfl,hb2,hc2⟩:=L2.uat (k:=k - 1) (by rw [HL.out];omega);have i0:((k:Int) - 1).toNat = k - 1:=(by omega);have d1:=JH DX.out (k - 1);have d2:=JH DY.out (k - 1);have ek:k - 1 + 1 = k:=(by omega);have lt1:xs[k - 1]?.getD 0 < ys[k - 1]?.getD 0 -> Hid (r = -1):=fun hlt=>zH (by
      have:=Zcp DX.out DY.out HL.out.symm (i:=k - 1) (by omega) (by rw [ek];exact hdr.out) hlt;rw [VX.out,VY.out] at this;rw [<- hr.out];exact Yk (by omega))
     have gt1:ys[k - 1]?.getD 0 < xs[k - 1]?.getD 0 -> Hid (r = 1):=fun hlt=>zH (by
      have:=Zcp DY.out DX.out HL.out (i:=k - 1) (by rw [HL.out];omega) (by rw [ek];exact hdr.out.symm) hlt;rw [VX.out,VY.out] at this;rw [<- hr.out];exact XX (by omega))
     have eq1:xs[k - 1]?.getD 0 = ys[k - 1]?.getD 0 -> Hid (xs.drop (k - 1) = ys.drop (k - 1)):=fun he=>zH (Zbm HL.out.symm (by rw [ek];exact hdr.out) he);have LT:=zH lt1;have GT:=zH gt1;have EQ:=zH eq1;clear lt1 gt1 eq1 ek;generalize xs[k - 1]?.getD 0 = u at *
     generalize ys[k - 1]?.getD 0 = v at *
     by_cases hlt:u < v
     ·have HR:=LT.out hlt;have q:(u != v) = true:=(by simp;omega);clear LT GT EQ;go_wp2_with fail;go_quiet (fail);go_wp2_with fail;go_quiet (fail);go_wp2_with fail;go_ret;exact ⟨JU (by rw [HR.out]),by rw [WD.out];exact Vm _ _ _ _⟩
     ·by_cases hgt:v < u
      ·have HR:=GT.out hgt;have q:(u != v) = true:=(by simp;omega);clear LT GT EQ;go_wp2_with fail;go_quiet (fail);go_wp2_with fail;go_quiet (fail);go_wp2_with fail;go_ret;exact ⟨JU (by rw [HR.out]),by rw [WD.out];exact Vm _ _ _ _⟩
      ·have he:u = v:=(by omega);have HD:=EQ.out he;subst he;clear LT GT EQ hlt hgt;go_wp2_with fail;go_quiet (fail);go_wp2_with fail;exact ⟨⟨k - 1,by omega,by go_num,HD,by rw [WD.out];exact Vo _ _ _⟩,by simp [intOf];omega⟩
def VU (v:Int) (w:World) (e:Ending) (w':World):Prop:=e = .returned (.int .i64 v) /\ Below w.heap.size w w'

end Go.Proofs.YtlgdlenoohkipaaGreat
namespace Go.Proofs.YtlgdlenoohkipaaGreat
open Go.RowKit

abbrev Inn:=Option Addr × Nat × List Int
def InOk (w:World) (x:Inn):Prop:=
 Lies w x.1 (ics x.2.2) /\ (x.1 = none -> x.2.1 = 0 /\ x.2.2 = []) /\ x.2.2.length <= 9223372036854775807 /\ x.2.2.length <= x.2.1 /\ (∀ y ∈ x.2.2,-9223372036854775808 <= y /\ y <= 9223372036854775807)
abbrev lcs (l:List Inn):List Value:=l.map fun x=>Value.slice x.1 x.2.2.length x.2.1
theorem Lies.lat {w:World} {A:Option Addr} {l:List Inn} (h:Lies w A (lcs l)) {k:Nat} (hk:k < l.length) :
  ∃ b off,A = some ⟨b,off,none⟩ /\ b < w.heap.size /\ w.cell? ⟨b,off + k,none⟩ = some (.slice l[k].1 l[k].2.2.length l[k].2.1):=by
 obtain ⟨b,off,e,hb,hc⟩:=h (by simp;omega);refine ⟨b,off,e,hb,hc k _ ?_⟩;simp [gE hk]
theorem InOk.below {w w':World} {x:Inn} (h:InOk w x) (hb:Below w.heap.size w w'):InOk w' x:=⟨h.1.below hb,h.2⟩
theorem InOk.alloc {w:World} {x:Inn} (h:InOk w x) (o:Obj):InOk (w.alloc o) x:=⟨h.1.alloc o,h.2⟩
end Go.Proofs.YtlgdlenoohkipaaGreat
