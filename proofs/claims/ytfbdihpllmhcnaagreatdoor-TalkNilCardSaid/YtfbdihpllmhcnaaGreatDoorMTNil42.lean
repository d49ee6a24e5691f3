/- TalkNil -/
import Derived.Test.YtfbdihpllmhcnaaGreatDoorMTNil41
set_option maxRecDepth 100000
set_option maxHeartbeats 32000000
namespace Go.Proofs.YtfbdihpllmhcnaaGreatDoor
open Go.RowKit Ear

theorem Ziw {t:TypeId} {w:World} {k:Nat} {u0 u1 u2 u3:Value} (h:w.heap[k]? = some (.cells #[u0,u1,u2,u3] t (0,0))) (v0 v1 v2 v3:Value):((((w.setCell ⟨k,0,none⟩ v0).setCell ⟨k,1,none⟩ v1).setCell ⟨k,2,none⟩ v2).setCell ⟨k,3,none⟩ v3).heap[k]? = some (.cells #[v0,v1,v2,v3] t (0,0)):=by
 simp [World.setCell,Array.getElem?_modify,h]
theorem Zfe:fq (decide ((1:Int) < 0) != decide ((4:Int) < 0)) (1:Int).natAbs (4:Int).natAbs = mkRat 1 4:=by decide +kernel
theorem Zfd:fq (decide ((3:Int) < 0) != decide ((4:Int) < 0)) (3:Int).natAbs (4:Int).natAbs = mkRat 3 4:=by decide +kernel
theorem VU {q:Rat} (h1:qn q < 4294967296) (h2:q.den < 4294967296):Sz q 90000:=
 ⟨tR (JK (k:=1) (by simpa using h1)) (by decide),tR (JK (k:=1) (by simpa using h2)) (by decide)⟩
theorem _root_.Go.RowKit.Below.heap_cell4 (V:World) {g:Nat} {v0 v1 v2 v3:Value} (b k:Nat) (hb:b ≠ g):((((V.setCell ⟨g,0,none⟩ v0).setCell ⟨g,1,none⟩ v1).setCell ⟨g,2,none⟩ v2).setCell ⟨g,3,none⟩ v3).cell? ⟨b,k,none⟩ = V.cell? ⟨b,k,none⟩:=
 World.cell?_of_block (a:=⟨b,k,none⟩) (by rw [Below.heap_setCell _ _ _ b hb,Below.heap_setCell _ _ _ b hb,Below.heap_setCell _ _ _ b hb,Below.heap_setCell _ _ _ b hb])
theorem ZdC (w:World):Calls Tryz.prog 16 #[] w fun e w'=>∃ A s,e = .returned (.agg #[.slice A 1 1,.int .i64 1,.int .i64 10,.int .i64 4]) /\ PlM w' A [s] kPs /\ s.nm = ⟨#[99,111,108,111,114]⟩ /\ s.vs = [QC,ZfA] /\ Below w.heap.size w w':=by
 obtain ⟨W,hW⟩:∃ W:World,W = (w.alloc (.cells #[.slice none 0 0,.int .i64 0,.int .i64 0,.int .i64 0] 41)).alloc (.cells #[.string ⟨#[114,101,100]⟩,.string ⟨#[98,108,117,101]⟩] 9):=⟨_,rfl⟩
 have HB0:Hid (Below w.heap.size w W):=zH (by rw [hW];exact al2 w _ _)
 have HX0:Hid (W.heap[w.heap.size]? = some (.cells #[.slice none 0 0,.int .i64 0,.int .i64 0,.int .i64 0] 41 (0,0))):=zH (by rw [hW];exact VR _ _ _)
 have HX1:Hid (W.heap[w.heap.size + 1]? = some (.cells #[.string ⟨#[114,101,100]⟩,.string ⟨#[98,108,117,101]⟩] 9 (0,0))):=zH (by rw [hW];exact VQ _ _ _)
 go_enter Tryz.func16,Tryz.ntmps16
 go_wp2_with fail
 rw [<- hW]
 clear hW
 refine (Y4 1 4 W (by decide) (by decide) (by decide) (by decide)).mono ?_
 rintro e w1 ⟨x,rfl,hx,hb1⟩
 rw [Zfe] at hx
 have HB1:=zH (HB0.out.trans (hb1.mono HB0.out.size))
 have HR0:Hid (w1.heap[w.heap.size]? = _):=zH ((hb1.block _ (aE HX0.out).1).trans HX0.out)
 have HR1:Hid (w1.heap[w.heap.size + 1]? = _):=zH ((hb1.block _ (aE HX1.out).1).trans HX1.out)
 have HFX:=zH hx
 clear hx hb1 HX0 HX1 HB0
 go_wp2_with fail
 refine (Y4 3 4 w1 (by decide) (by decide) (by decide) (by decide)).mono ?_
 rintro e w2 ⟨y,rfl,hy,hb2⟩
 rw [Zfd] at hy
 have HB2:=zH (HB1.out.trans (hb2.mono HB1.out.size))
 have HS0:Hid (w2.heap[w.heap.size]? = _):=zH ((hb2.block _ (aE HR0.out).1).trans HR0.out)
 have HS1:Hid (w2.heap[w.heap.size + 1]? = _):=zH ((hb2.block _ (aE HR1.out).1).trans HR1.out)
 have HFX2:=zH (HFX.out.below hb2)
 have HFY:=zH hy
 clear hy hb2 HR0 HR1 HB1 HFX
 obtain ⟨V,hV⟩:∃ V:World,V = w2.alloc (.cells #[.string ⟨#[99,111,108,111,114]⟩,.slice (some ⟨w.heap.size + 1,0,none⟩) 2 2,.bool x.neg,.slice x.A x.N.length x.c,.slice x.B x.D.length x.d,.bool y.neg,.slice y.A y.N.length y.c,.slice y.B y.D.length y.d] 131):=⟨_,rfl⟩
 have HBV:Hid (Below w2.heap.size w2 V):=zH (by rw [hV];exact bR.alloc nR _)
 have HV0:Hid (V.heap[w.heap.size]? = _):=zH ((HBV.out.block _ (aE HS0.out).1).trans HS0.out)
 have HV1:Hid (V.heap[w.heap.size + 1]? = _):=zH ((HBV.out.block _ (aE HS1.out).1).trans HS1.out)
 have HV2:Hid (V.heap[w2.heap.size]? = some (.cells #[.string ⟨#[99,111,108,111,114]⟩,.slice (some ⟨w.heap.size + 1,0,none⟩) 2 2,.bool x.neg,.slice x.A x.N.length x.c,.slice x.B x.D.length x.d,.bool y.neg,.slice y.A y.N.length y.c,.slice y.B y.D.length y.d] 131 (0,0))):=zH (by rw [hV];exact heap_alloc_new w2 _)
 have HFX3:=zH (HFX2.out.below HBV.out)
 have HFY3:=zH (HFY.out.below HBV.out)
 have HB3:=zH (HB2.out.trans (HBV.out.mono HB2.out.size))
 have hs2:=HB2.out.size
 have hs1:w.heap.size + 1 < w2.heap.size:=(aE HS1.out).1
 clear HFX2 HFY HB2 HS0 HS1 HBV
 have f0:=Jl HV0.out 0
 have f1:=Jl HV0.out 1
 have f2:=Jl HV0.out 2
 have f3:=Jl HV0.out 3
 have c0:V.cell? ⟨w.heap.size,0,none⟩ = some (.slice none 0 0):=(cR 0 HV0.out).trans rfl
 have c1:V.cell? ⟨w.heap.size,1,none⟩ = some (.int .i64 0):=(cR 1 HV0.out).trans rfl
 have c2:V.cell? ⟨w.heap.size,2,none⟩ = some (.int .i64 0):=(cR 2 HV0.out).trans rfl
 have c3:V.cell? ⟨w.heap.size,3,none⟩ = some (.int .i64 0):=(cR 3 HV0.out).trans rfl
 rw [hV] at f0 f1 f2 f3 c0 c1 c2 c3
 go_wp2_with fail
 rw [<- hV]
 clear hV f0 f1 f2 f3 c0 c1 c2 c3
 have hr4:=Ziw HV0.out (.slice (some ⟨w2.heap.size,0,none⟩) 1 1) (.int .i64 1) (.int .i64 10) (.int .i64 4)
 have g0:=(cR 0 hr4).trans rfl
 have g1:=(cR 1 hr4).trans rfl
 have g2:=(cR 2 hr4).trans rfl
 have g3:=(cR 3 hr4).trans rfl
 refine bodyPost_ret (v:=.agg #[.slice (some ⟨w2.heap.size,0,none⟩) 1 1,.int .i64 1,.int .i64 10,.int .i64 4]) (by simp [results,Tryz.results16,go_sem,g0,g1,g2,g3]) rfl ?_
 refine ⟨some ⟨w2.heap.size,0,none⟩,⟨⟨#[99,111,108,111,114]⟩,some ⟨w.heap.size + 1,0,none⟩,2,[QC,ZfA],x,y⟩,rfl,⟨?_,rfl,?_⟩,rfl,rfl,(((HB3.out.setCell nR _).setCell nR _).setCell nR _).setCell nR _⟩
 ·have hb:∀ b,b ≠ w.heap.size -> (((( V.setCell ⟨w.heap.size,0,none⟩ (.slice (some ⟨w2.heap.size,0,none⟩) 1 1)).setCell ⟨w.heap.size,1,none⟩ (.int .i64 1)).setCell ⟨w.heap.size,2,none⟩ (.int .i64 10)).setCell ⟨w.heap.size,3,none⟩ (.int .i64 4)).heap[b]? = V.heap[b]?:=fun b hb=>by
   rw [Below.heap_setCell _ _ _ b hb,Below.heap_setCell _ _ _ b hb,Below.heap_setCell _ _ _ b hb,Below.heap_setCell _ _ _ b hb]
  exact fun _=>⟨w2.heap.size,0,rfl,by simp [World.setCell];exact (aE HV2.out).1,fun k v hk=>by
   rw [Nat.zero_add,World.cell?_of_block (a:=⟨w2.heap.size,k,none⟩) (hb w2.heap.size (by omega)),cell_of_row _ _ k _ _ _ HV2.out]
   simpa [Vw,slc] using hk⟩
 ·intro k s P h1 h2
  cases k with
  | succ k=>simp at h1
  | zero=>
   simp only [List.getElem?_cons_zero,Option.some.injEq,kPs] at h1 h2
   subst h1 h2
   have hku:KU V ((((V.setCell ⟨w.heap.size,0,none⟩ (.slice (some ⟨w2.heap.size,0,none⟩) 1 1)).setCell ⟨w.heap.size,1,none⟩ (.int .i64 1)).setCell ⟨w.heap.size,2,none⟩ (.int .i64 10)).setCell ⟨w.heap.size,3,none⟩ (.int .i64 4)):=
    KU.sets [.slice (some ⟨w2.heap.size,0,none⟩) 1 1,.int .i64 1,.int .i64 10,.int .i64 4] 0 V (fun j hj=>by
     match j,hj with
     | 0,_=>exact ⟨_,(cR 0 HV0.out).trans rfl,by intro n h;cases h⟩
     | 1,_=>exact ⟨_,(cR 1 HV0.out).trans rfl,by intro n h;cases h⟩
     | 2,_=>exact ⟨_,(cR 2 HV0.out).trans rfl,by intro n h;cases h⟩
     | 3,_=>exact ⟨_,(cR 3 HV0.out).trans rfl,by intro n h;cases h⟩)
   have hFX:=HFX3.out.ku hku
   have hFY:=HFY3.out.ku hku
   refine ⟨rfl,rfl,fun _=>⟨w.heap.size + 1,0,rfl,by simp [World.setCell];exact (aE HV1.out).1,fun k v hk=>?_⟩,(fun e=>by cases e),hFX.fv,hFY.fv,hFX.few (VU (by decide +kernel) (by decide +kernel)),hFY.few (VU (by decide +kernel) (by decide +kernel))⟩
   rw [Nat.zero_add,Below.heap_cell4 V (w.heap.size + 1) k (by omega),cell_of_row _ _ k _ _ _ HV1.out]
   simpa [QC,ZfA] using hk
theorem LrI.btp {w:World} {base p cap:Nat} {B:Option Addr} {Ts:List TT} (h:LrI w base p B cap Ts):BT w p 36:=⟨_,_,h.cell⟩
theorem LrI.geB {w:World} {base p cap:Nat} {B:Option Addr} {Ts:List TT} (h:LrI w base p B cap Ts) (hn : 0 < Ts.length):∀ k,blk B = some k -> base <= k:=fun k hk=>by
 obtain ⟨g,cap',hv,hg,_⟩:=h.row.form hn
 injection hv with e1
 subst e1
 have hk':some g = some k:=hk
 injection hk' with e2
 omega
def Ub (v:Value):Prop:=Zam v /\ ∀ s,v ≠ .string s
structure Off (w w':World) (p q:Nat):Prop where
 size:w'.heap.size = w.heap.size
 ap:AllC Ub w p
 aq:AllC Ub w q
 block:∀ k,k ≠ p -> k ≠ q -> w'.heap[k]? = w.heap[k]?
theorem Off.lies {w w':World} {p q:Nat} (h:Off w w' p q) {A:Option Addr} {x0:Value} {xs:List Value} (hl:Lies w A xs) (h0:xs[0]? = some x0) (hx:¬ Ub x0):Lies w' A xs:=fun hh=>by
 obtain ⟨b,off,e,hb,hc⟩:=hl hh
 have c0:=hc 0 x0 h0
 have hp:b ≠ p:=by rintro rfl;exact hx (h.ap.cell c0)
 have hq:b ≠ q:=by rintro rfl;exact hx (h.aq.cell c0)
 exact ⟨b,off,e,by rw [h.size];exact hb,fun k v hv=>(World.cell?_of_block (a:=⟨b,off + k,none⟩) (h.block b hp hq)).trans (hc k v hv)⟩
theorem Off.strs {w w':World} {p q:Nat} (h:Off w w' p q) {A:Option Addr} {l:List BA} (hl:Lies w A (sbs l)):Lies w' A (sbs l):=by
 cases l with
 | nil=>intro hh;simp at hh
 | cons s l=>exact h.lies hl (x0:=.string s) rfl (fun hx=>hx.2 s rfl)
theorem Off.digs {w w':World} {p q:Nat} (h:Off w w' p q) {A:Option Addr} {l:List Int} (hl:Lies w A (ucs l)):Lies w' A (ucs l):=by
 cases l with
 | nil=>intro hh;simp at hh
 | cons s l=>exact h.lies hl (x0:=.int .u32 s) rfl (fun hx=>hx.1 s rfl)
theorem Off.dg {w w':World} {p q:Nat} (h:Off w w' p q) {A:Option Addr} {c:Nat} {l:List Int} (hl:Dg w A c l):Dg w' A c l:=⟨h.digs hl.lies,hl.dig,hl.cap,hl.nil⟩
theorem Off.fv {w w':World} {p q:Nat} (h:Off w w' p q) {x:Fr} {r:Rat} (hl:Fv w x r):Fv w' x r:=⟨h.dg hl.n,h.dg hl.d,hl.val⟩
theorem Off.plm {w w':World} {p q:Nat} (h:Off w w' p q) {A:Option Addr} {Ss:List SlM} {Ps:List PSl} (hl:PlM w A Ss Ps):PlM w' A Ss Ps:=by
 refine ⟨?_,hl.len,fun k s P h1 h2=>?_⟩
 ·cases Ss with
  | nil=>intro hh;simp [Vw] at hh
  | cons s l=>exact h.lies hl.lies (x0:=.string s.nm) rfl (fun hx=>hx.2 _ rfl)
 ·have:=hl.ok k s P h1 h2
  exact ⟨this.nm,this.vs,h.strs this.lies,this.nil,h.fv this.L,h.fv this.S,this.fL,this.fS⟩
def back (w w':World) (p q:Nat):World:={ w' with heap:=(w'.heap.setIfInBounds p (w.heap[p]?.getD default)).setIfInBounds q (w.heap[q]?.getD default) }
theorem DlM.off {w w':World} {bs:Nat} {a:DlA} {D:PDl} {p q:Nat} (h:DlM w bs a D) (hs:w.heap.size <= w'.heap.size) (ap:AllC Ub w p) (aq:AllC Ub w q) (hb:∀ k,k < w.heap.size -> k ≠ p -> k ≠ q -> w'.heap[k]? = w.heap[k]?)
  (tp:∃ e,BT w p e /\ e ≠ 44 /\ e ≠ 136 /\ e ≠ 9) (tq:∃ e,BT w q e /\ e ≠ 44 /\ e ≠ 136 /\ e ≠ 9):DlM w' bs a D:=by
 obtain ⟨ep,hp,p1,p2,p3⟩:=tp
 obtain ⟨eq,hq,q1,q2,q3⟩:=tq
 have own:∀ {base size n:Nat} {e:TypeId} {v:Value} {xs:List Value},w.ownsRow base e size v n xs -> e ≠ ep -> e ≠ eq -> w'.ownsRow base e size v n xs:=fun {base size n e v xs} ho h1 h2=>by
  obtain ⟨r1,r2⟩:=ho
  refine ⟨r1,?_⟩
  rcases r2 with e0 | ⟨g,cap,cur,e0,hg,hgg,rest⟩
  ·exact .inl e0
  ·exact .inr ⟨g,cap,cur,e0,hg,(hb g (BT.lt ⟨_,_,hgg⟩) (BT.ne ⟨_,_,hgg⟩ hp h1) (BT.ne ⟨_,_,hgg⟩ hq h2)).trans hgg,rest⟩
 have hbq:BT w a.q 44:=⟨_,_,h.cell⟩
 refine ⟨(hb a.q hbq.lt (hbq.ne hp p1.symm) (hbq.ne hq q1.symm)).trans h.cell,fun w2 hs2 hk=>?_,own h.row p2.symm q2.symm,fun f hf=>own (h.ref f hf) p3.symm q3.symm,h.apart,h.pure,h.len,h.pos,h.lt.1,h.lt.2.1,tR h.lt.2.2 hs⟩
 have hpl:=hp.lt
 have hql:=hq.lt
 have e1:(back w w2 p q).heap[p]? = w.heap[p]?:=by
  unfold back
  by_cases e:p = q
  ·subst e
   simp [show p < w2.heap.size by omega,Array.getElem?_eq_getElem hpl]
  ·simp [show p < w2.heap.size by omega,Array.getElem?_eq_getElem hpl,Ne.symm e]
 have e2:(back w w2 p q).heap[q]? = w.heap[q]?:=by
  unfold back
  simp [show q < w2.heap.size by omega,Array.getElem?_eq_getElem hql]
 have e3:∀ k,k ≠ p -> k ≠ q -> (back w w2 p q).heap[k]? = w2.heap[k]?:=fun k h1 h2=>by
  unfold back
  simp [Ne.symm h1,Ne.symm h2]
 have e4:(back w w2 p q).heap.size = w2.heap.size:=by simp [back]
 have h1:PlM (back w w2 p q) a.PA a.Ss D.S:=h.stab _ (by rw [e4];omega) (fun b b1 b2 b3=>by
  by_cases c1:b = p
  ·rw [c1];exact e1
  ·by_cases c2:b = q
   ·rw [c2];exact e2
   ·exact (e3 b c1 c2).trans ((hk b b1 b2 b3).trans (hb b (Nat.lt_of_lt_of_le b1 h.lt.2.2) c1 c2)))
 exact Off.plm (w:=back w w2 p q) (p:=p) (q:=q) ⟨e4.symm,ap.block e1,aq.block e2,fun k k1 k2=>(e3 k k1 k2).symm⟩ h1
theorem Ze {w0 w:World} {F:List (Option Addr × List Value)} (h:Led w0 w F) (cs:Array Value) (t:TypeId) (k:Nat) (hk:w.heap.size = k):Led w0 (w.alloc (.cells cs t)) (F ++ [(some ⟨k,0,none⟩,cs.toList)]):=
 (h.alloc _).row (by subst hk;exact heap_alloc_new w _)
theorem ZfR {w:World} {a:Nat} {l:List Int} (h:Lies w (some ⟨a,0,none⟩) (ics l)) (hl:l.length <= 1000000) (hb:∀ y ∈ l,-9223372036854775808 <= y /\ y <= 9223372036854775807):InOk w (some ⟨a,0,none⟩,l.length,l):=
 ⟨h,(fun e=>by cases e),tR hl (by decide),Nat.le_refl _,hb⟩
theorem ZhD {w:World} {g a:Nat} {l1:List Int} (h:Lies w (some ⟨g,0,none⟩) [.slice (some ⟨a,0,none⟩) l1.length l1.length]) (h1:InOk w (some ⟨a,0,none⟩,l1.length,l1)):LL w (some ⟨g,0,none⟩) [(some ⟨a,0,none⟩,l1.length,l1)]:=
 ⟨h,fun x hx=>by rw [List.mem_singleton] at hx;subst hx;exact h1⟩
theorem Ziz {w:World} {g a b:Nat} {l1 l2:List Int} (h:Lies w (some ⟨g,0,none⟩) [.slice (some ⟨a,0,none⟩) l1.length l1.length,.slice (some ⟨b,0,none⟩) l2.length l2.length]) (h1:InOk w (some ⟨a,0,none⟩,l1.length,l1)) (h2:InOk w (some ⟨b,0,none⟩,l2.length,l2)) :
  LL w (some ⟨g,0,none⟩) [(some ⟨a,0,none⟩,l1.length,l1),(some ⟨b,0,none⟩,l2.length,l2)]:=
 ⟨h,fun x hx=>by
  rcases List.mem_cons.1 hx with rfl | hx
  ·exact h1
  ·rw [List.mem_singleton] at hx;subst hx;exact h2⟩
theorem Zid (a b c d e:Nat) (w:World) (h0:Lies w (some ⟨a,0,none⟩) [.int .i64 0]) (h1:Lies w (some ⟨b,0,none⟩) [.int .i64 0]) (h2:Lies w (some ⟨c,0,none⟩) [.slice (some ⟨a,0,none⟩) 1 1,.slice (some ⟨b,0,none⟩) 1 1]) (h3:Lies w (some ⟨d,0,none⟩) [.int .i64 3]) (h4:Lies w (some ⟨e,0,none⟩) [.slice (some ⟨d,0,none⟩) 1 1]) :
  Calls Tryz.prog 10 #[.slice (some ⟨c,0,none⟩) 2 2,.slice (some ⟨e,0,none⟩) 1 1] w (Zf3 0 ((6:Int):Rat) w):=by
 have:=ZeI (some ⟨c,0,none⟩) (some ⟨e,0,none⟩) 2 1 [(some ⟨a,0,none⟩,1,[0]),(some ⟨b,0,none⟩,1,[0])] [(some ⟨d,0,none⟩,1,[3])] w
  (Ziz (l1:=[0]) (l2:=[0]) h2 (ZfR h0 (by decide) (by decide)) (ZfR h1 (by decide) (by decide))) (ZhD (l1:=[3]) h4 (ZfR h3 (by decide) (by decide))) (by simp) (by simp) 0 (zH Zhx)
 rw [show Zh4 0 (Ju [(some ⟨a,0,none⟩,1,[0]),(some ⟨b,0,none⟩,1,[0])]) (Ju [((some ⟨d,0,none⟩:Option Addr),1,[3])]) = ((6:Int):Rat) from Zhy] at this
 exact this
theorem Zig (a b c d e f g:Nat) (x:Fr) (w:World) (h0:Lies w (some ⟨a,0,none⟩) [.int .i64 0]) (h1:Lies w (some ⟨b,0,none⟩) [.slice (some ⟨a,0,none⟩) 1 1]) (h2:Lies w (some ⟨c,0,none⟩) [.int .i64 9]) (h3:Lies w (some ⟨d,0,none⟩) [.slice (some ⟨c,0,none⟩) 1 1])
  (h4:Lies w (some ⟨e,0,none⟩) [.int .i64 1]) (h5:Lies w (some ⟨f,0,none⟩) [.slice (some ⟨e,0,none⟩) 1 1]) (h6:Lies w (some ⟨g,0,none⟩) [.slice (some ⟨b,0,none⟩) 1 1,.slice (some ⟨d,0,none⟩) 1 1,.slice (some ⟨f,0,none⟩) 1 1]) (hx:Fq w x (mkRat 1 2)) :
  Calls Tryz.prog 11 #[.slice (some ⟨g,0,none⟩) 3 3,.int .i64 3,x.val] w (Zg2 [0,1,0] w):=by
 have hs:Sz (mkRat 1 2) 90000:=VU (by decide +kernel) (by decide +kernel)
 have:=ZcN (some ⟨g,0,none⟩) 3 [(some ⟨b,0,none⟩,1,[(some ⟨a,0,none⟩,1,[0])]),(some ⟨d,0,none⟩,1,[(some ⟨c,0,none⟩,1,[9])]),(some ⟨f,0,none⟩,1,[(some ⟨e,0,none⟩,1,[1])])] 3 x (mkRat 1 2) w
  ⟨h6,fun y hy=>by
   rcases List.mem_cons.1 hy with rfl | hy
   ·exact ZhD (l1:=[0]) h1 (ZfR h0 (by decide) (by decide))
   ·rcases List.mem_cons.1 hy with rfl | hy
    ·exact ZhD (l1:=[9]) h3 (ZfR h2 (by decide) (by decide))
    ·rw [List.mem_singleton] at hy
     subst hy
     exact ZhD (l1:=[1]) h5 (ZfR h4 (by decide) (by decide))⟩ (zH Zgu) (by decide) hx.fv (hx.few hs) (by decide +kernel)
 replace this:Calls Tryz.prog 11 #[.slice (some ⟨g,0,none⟩) 3 3,.int .i64 3,x.val] w (Zg2 (Zg8 (clu 3 (mkRat 1 2) 3 (J9 [[[0]],[[9]],[[1]]])) 3) w):=this
 rw [ZhB] at this
 exact this
theorem Zif (a b:Nat) (w:World) (h0:Lies w (some ⟨a,0,none⟩) [.int .i64 1]) (h1:Lies w (some ⟨b,0,none⟩) [.slice (some ⟨a,0,none⟩) 1 1]) :
  Calls Tryz.prog 14 #[.int .i64 1,.int .i64 1,.slice (some ⟨b,0,none⟩) 1 1] w fun e w'=>∃ A' c' L',e = .returned (.agg #[.int .i64 1,.int .i64 1,.slice A' (L':List Gm).length c']) /\ GLo w' w.heap.size A' c' L' /\ Ji L' = [([0],1),([1],1)] /\ RowKit.Below w.heap.size w w':=by
 have:=Zcj 1 1 (some ⟨b,0,none⟩) 1 (some ⟨a,0,none⟩,1,[1]) w (ZhD (l1:=[1]) h1 (ZfR h0 (by decide) (by decide))) (by decide) (by decide) (by simp)
 replace this:Calls Tryz.prog 14 #[.int .i64 1,.int .i64 1,.slice (some ⟨b,0,none⟩) 1 1] w fun e w'=>∃ A' c' L',e = .returned (.agg #[.int .i64 1,.int .i64 1,.slice A' (L':List Gm).length c']) /\ GLo w' w.heap.size A' c' L' /\ Ji L' = ZcD 1 [1] 2 /\ RowKit.Below w.heap.size w w':=this
 rw [Zhz] at this
 exact this
theorem Zic (A:Option Addr) (c:Nat) (L:List Gm) (w:World) (base:Nat) (h:GLo w base A c L) (ht:Ji L = [([0],1),([1],1)]) :
  Calls Tryz.prog 13 #[.agg #[.int .i64 1,.int .i64 1,.slice A L.length c]] w fun e w'=>RowKit.Below w.heap.size w w' /\ ∃ p B t,e = .returned (.tuple #[.pointer (some ⟨p,0,none⟩),.int .i64 0]) /\ LrI w' w.heap.size p B 1 [t] /\ t.o = 1 /\ t.v = 1 /\ Ji t.L = [([0],1),([1],1)] /\ w.heap.size <= p:=by
 have hl:L.length = 2:=by have:=congrArg List.length ht;simpa using this
 refine (Zet 1 1 A c L w h.tb h.nilA (by omega) 0 (zH (by rw [ht];exact ZfQ))).mono ?_
 rintro e w' ⟨hb,hr⟩
 rw [if_pos rfl] at hr
 obtain ⟨p,B,t,he,hL,h1,h2,h3,h4⟩:=hr
 exact ⟨hb,p,B,t,he,hL,h1,h2,h3.trans ht,h4⟩
theorem Zh9 {α:Type} {l:List α} {a b : α} (h:l.Perm [a,b]):l = [a,b] ∨ l = [b,a]:=by
 have hl:=h.length_eq
 match l,hl with
 | [x,y],_=>
  rcases List.mem_cons.1 (h.mem_iff.1 (List.mem_cons_self (a:=x))) with rfl | h1
  ·have h2:=(List.perm_cons x).1 h
   have:=List.perm_singleton.1 h2
   injection this with e
   exact .inl (by rw [e])
  ·rw [List.mem_singleton] at h1
   subst h1
   have h2:[x,y].Perm [x,a]:=h.trans (List.Perm.swap _ _ _)
   have h3:=(List.perm_cons x).1 h2
   have:=List.perm_singleton.1 h3
   injection this with e
   exact .inr (by rw [e])
theorem Zie (base p:Nat) (B:Option Addr) (t:TT) (S:Option Addr) (sc:Nat) (w:World) (h:LrI w base p B 1 [t]) (hb:base <= w.heap.size) (hbp:base <= p) (ho:t.o = 1) (hv:t.v = 1) (ht:Ji t.L = [([0],1),([1],1)]) (hI:InOk w (S,sc,[1,1])) :
  Calls Tryz.prog 20 #[.pointer (some ⟨p,0,none⟩),.slice S 2 sc,.int .i64 2] w fun e w'=>e = .returned (.int .i64 0) /\ ∃ B' cap' t2,LrI w' base p B' cap' [t,t2] /\ t2.o = 1 /\ t2.v = 1 /\ Ji t2.L = [([0],3),([1],5)] /\ Two w w' p (blk B):=by
 refine (ZcM base p 1 1 1 B [] t S sc [1,1] 2 w h hb hbp ho hv hI (by decide) (by decide) (by decide) (by decide)).mono ?_
 rintro e w' ⟨T1,hp,he,hif⟩
 have e1:(Yn 1 [1,1] ([1,1]:List Int).length.succ).map (fun q=>(gmW 1 q.1,q.2 * (2:Int))) = [([1],4),([0],2)]:=by
  rw [show Yn 1 [1,1] ([1,1]:List Int).length.succ = [(kOf [1],2),(kOf [0],1)] from ZhA]
  decide +kernel
 have hp':T1.Perm [([1],4),([0],2)]:=by rw [<- e1];exact hp
 have hc:UE (mrg (mrg [] (Ji t.L)) T1) = 0:=by
  rw [ht]
  rcases Zh9 hp' with h1 | h1
  ·rw [h1];exact Zgw
  ·rw [h1];exact Zgv
 rw [if_pos hc] at hif
 obtain ⟨B',cap',t2,hL,ho2,hv2,hperm,hTwo,_⟩:=hif
 refine ⟨by rw [he,hc],B',cap',t2,hL,ho2,hv2,?_,hTwo⟩
 have ht2:=(hL.tab t2 (by simp)).ok
 rw [ho2,hv2] at ht2
 refine Zhg (o:=1) ht2 Zgs fun k=>?_
 have hval:=ZgU (o:=1) (v:=1) (n:=2) (s:=[1,1]) (T:=Ji t.L) (T1:=T1) (T2:=Ji t2.L) (by decide) (by decide) (by decide) (by rw [ht];exact ZfQ) hp hperm k
 rw [hval,ht]
 unfold Zin
 rw [show (Yn 1 [1,1] (([1,1]:List Int).length + 1)).map (fun q=>(gmW 1 q.1,q.2 * (2:Int))) = [([1],4),([0],2)] from e1]
 simp only [Zp]
 split <;> split <;> omega
theorem Uz (n:Int) (bs:Nat) (a:DlA) (D:PDl) (E:EvM) (q:Rat) (w:World) (h:DlM w bs a D) (hK:DlK n D) (hn:n <= 1000000) (hE:Fv w E.W q) (fE:Few E.W 90000) (hkw:(Lit.int .i64 E.kind).wf = true) (hk24:E.kind = 2 ∨ E.kind = 4) (hb:¬ ZfC D ⟨E.kind,E.val,q,E.at_⟩) (hst:D.stand = 0) (R:Int × PDl) (hR:Hid (UK D ⟨E.kind,E.val,q,E.at_⟩ = R)) :
  Calls Tryz.prog 23 #[.pointer (some ⟨a.q,0,none⟩),E.v] w fun e w'=>∃ a',e = .returned (.int .i64 R.1) /\ DlM w' bs a' R.2 /\ Chg w w' a a':=by
 obtain rfl:=hR.out
 obtain ⟨hl1,hl2⟩:=h.lens
 have hfw:=hK.few
 unfold UK
 rw [if_neg hb]
 unfold ZfC at hb
 simp only [not_or] at hb
 obtain ⟨hb1,hb2,hb3,x1,x2,x3⟩:=hb
 have hb1':=Classical.byContradiction hb1
 have hp:YS q = true:=by simpa using hb2
 have hkv:E.kind = 4 ∨ E.val = ⟨#[]⟩:=by
  rcases Classical.em (E.kind = 4) with e | e
  ·exact .inl e
  ·exact .inr (Classical.byContradiction fun e2=>hb3 ⟨e,e2⟩)
 obtain ⟨g,hg⟩:∃ g,JZ Zec E.kind = some g:=by
  cases hq:JZ Zec E.kind with
  | none=>exact absurd (Zeb.1 hq) (fun h=>h hb1')
  | some g=>exact ⟨g,rfl⟩
 ·rw [if_neg (by simpa using hst)]
  obtain ⟨c1,c2,c3,c4,c5,c6,c7,c8,c9,c10⟩:=ZdS D E.at_
  have hask:Vt D.F < D.F.length:=hK.ask hst
  have hC:Vt (Jq D E.at_).F < (Jq D E.at_).F.length:=by rw [c2];exact hask
  have hI:Qo (Jq D E.at_).F = (Vt (Jq D E.at_).F:Int):=if_pos hC
  have hCS:(Jq D E.at_).F.length = (Jq D E.at_).S.length:=by rw [c1,c2];exact hK.len
  have k:=ZfY (Jq D E.at_) ⟨E.kind,E.val,q,E.at_⟩
  have hpr:=hK.prompt
  have hpm:=hK.prm
  have hnd:=hK.need
  have hct:=hK.cuts
  have hbd:=hK.bad
  unfold Zdy at hpr
  have e2bad:(ZaT (Jq D E.at_) ⟨E.kind,E.val,q,E.at_⟩).2.bad = D.bad:=k.bad.trans c7
  have e2len:(ZaT (Jq D E.at_) ⟨E.kind,E.val,q,E.at_⟩).2.F.length = D.F.length:=by rw [k.len,c2]
  have hrefs:∀ f ∈ (Jq D E.at_).F,f.ref.length <= 1000000:=fun f hf=>by rw [c2] at hf;have:=hK.ref f hf;omega
  refine Zg5 bs a D (ZaT (Jq D E.at_) ⟨E.kind,E.val,q,E.at_⟩).2 (ZaT (Jq D E.at_) ⟨E.kind,E.val,q,E.at_⟩).1 E q g w h hE fE hkw hg hp hkv x1 x2 x3 hst ?_ (zH fun U hU hEU=>?_) ⟨by omega,by omega,by omega,by omega,by omega,by omega,by rw [e2bad];omega,by rw [e2bad];omega⟩ (by rw [e2len];omega)
  ·rcases hk24 with e | e
   ·have hg1:g = 98:=by rw [e] at hg;simpa [Zec,JZ] using hg.symm
    rw [hg1];exact enters_of Tryz.func98 (by kernel_rfl) rfl
   ·have hg1:g = 100:=by rw [e] at hg;simpa [Zec,JZ] using hg.symm
    rw [hg1];exact enters_of Tryz.func100 (by kernel_rfl) rfl
  ·obtain ⟨hm1,hm2⟩:=hU.lens
   have hlF:(Jq D E.at_).F.length <= 20:=by rw [c2];exact hfw
   have hq1:Vt (Jq D E.at_).F < (Jq D E.at_).S.length:=by omega
   rcases hk24 with e | e
   ·have hg1:g = 98:=by rw [e] at hg;simpa [Zec,JZ] using hg.symm
    have:ZaT (Jq D E.at_) ⟨E.kind,E.val,q,E.at_⟩ = if ZhR (Jq D E.at_) (Jq D E.at_).F[Vt (Jq D E.at_).F] (Jq D E.at_).S[Vt (Jq D E.at_).F] q E.at_ = true then (true,(Jq D E.at_).put (Vt (Jq D E.at_).F) { (Jq D E.at_).F[Vt (Jq D E.at_).F] with st:=3 }) else (false,Jq D E.at_):=by
     unfold ZaT
     simp only
     rw [if_pos (by omega),gE hC,gE hq1]
     simp only [e]
     rfl
    rw [this,hg1]
    have hy:=fun r D' hr hD'=>Zf4 bs a (Jq D E.at_) E q U hU hEU fE (Vt (Jq D E.at_).F) _ _ (gE hC) (gE hq1) hI (by omega) ⟨by rw [c8];omega,by rw [c8];omega⟩ ⟨by rw [c5];omega,by rw [c5];omega⟩ r hr D' hD'
    by_cases ha:ZhR (Jq D E.at_) (Jq D E.at_).F[Vt (Jq D E.at_).F] (Jq D E.at_).S[Vt (Jq D E.at_).F] q E.at_ = true
    ·rw [if_pos ha]
     exact hy true _ (zH ha) (zH (if_pos rfl))
    ·rw [if_neg ha]
     exact hy false _ (zH (by simpa using ha)) (zH (if_neg (by simp)))
   ·have hg1:g = 100:=by rw [e] at hg;simpa [Zec,JZ] using hg.symm
    rw [hg1]
    have hvs:∀ p ∈ (Jq D E.at_).S,p.vs.length <= 1000000:=fun p hp=>by rw [c1] at hp;have:=hK.vals p hp;omega
    by_cases hv:QW (Jq D E.at_).S E.val < (Jq D E.at_).S.length
    ·have hv2:QW (Jq D E.at_).S E.val < (Jq D E.at_).F.length:=by omega
     have hx:ZeG (Jq D E.at_).S E.val = (QW (Jq D E.at_).S E.val:Int):=if_pos hv
     have:ZaT (Jq D E.at_) ⟨E.kind,E.val,q,E.at_⟩ = match Zex (Jq D E.at_).F[QW (Jq D E.at_).S E.val] (Jq D E.at_).S[QW (Jq D E.at_).S E.val] q E.val with | some f'=>(true,(Jq D E.at_).put (QW (Jq D E.at_).S E.val) f') | none=>(false,Jq D E.at_):=by
      unfold ZaT
      simp only
      rw [if_neg (by omega),if_pos e,gE hv2,gE hv]
      rfl
     rw [this]
     have hy:=fun r D' hr=>Zcf bs a (Jq D E.at_) E q U hU hEU fE (by omega) hvs (QW (Jq D E.at_).S E.val) _ _ (gE hv2) (gE hv) hx (hrefs _ (gM hv2)) r D' hr
     cases hq:Zex (Jq D E.at_).F[QW (Jq D E.at_).S E.val] (Jq D E.at_).S[QW (Jq D E.at_).S E.val] q E.val with
     | none=>exact hy false _ (zH (.inl ⟨hq,rfl,rfl⟩))
     | some f'=>exact hy true _ (zH (.inr ⟨f',hq,rfl,rfl⟩))
    ·have hx:ZeG (Jq D E.at_).S E.val = -1:=if_neg hv
     have:ZaT (Jq D E.at_) ⟨E.kind,E.val,q,E.at_⟩ = (false,Jq D E.at_):=by
      unfold ZaT
      simp only
      rw [if_neg (by omega),if_pos e,List.getElem?_eq_none (l:=(Jq D E.at_).F) (by omega)]
     rw [this]
     exact Zcg bs a _ E U hU (by omega) hvs hx
end Go.Proofs.YtfbdihpllmhcnaaGreatDoor
