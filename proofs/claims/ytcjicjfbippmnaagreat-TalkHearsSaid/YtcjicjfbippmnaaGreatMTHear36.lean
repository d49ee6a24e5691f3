/- TalkHears -/
import Derived.Test.YtcjicjfbippmnaaGreatMTHear35
set_option maxRecDepth 100000
set_option maxHeartbeats 32000000
namespace Go.Proofs.YtcjicjfbippmnaaGreat
open Go.RowKit Go.WideShapes Ear

structure SlR (w:World) (s:SlM):Prop where
 lies:Lies w s.A (sbs s.vs)
 nil:s.A = none -> s.c = 0 /\ s.vs = []
 len:s.vs.length <= 9223372036854775807
 size:s.nm.size <= maxLen
 sizes:∀ v ∈ s.vs,v.size <= maxLen
 L:FrOk w s.L
 S:FrOk w s.S
 L1:s.L.N.length <= 9223372036854775807
 L2:s.L.D.length <= 9223372036854775807
 S1:s.S.N.length <= 9223372036854775807
 S2:s.S.D.length <= 9223372036854775807
structure EvR (w:World) (E:EvM):Prop where
 kind : -9223372036854775808 <= E.kind /\ E.kind <= 9223372036854775807
 size:E.val.size <= maxLen
 W:FrOk w E.W
 W1:E.W.N.length <= 9223372036854775807
 W2:E.W.D.length <= 9223372036854775807
 at_ : -9223372036854775808 <= E.at_ /\ E.at_ <= 9223372036854775807
def evc (E:EvM):List Value:=[.int .i64 E.kind,.string E.val,.bool E.W.neg,.slice E.W.A E.W.N.length E.W.c,.slice E.W.B E.W.D.length E.W.d,.int .i64 E.at_]
def Zh9 (L:List EvM):List Value:=L.flatMap evc
structure PlR (w:World) (A:Option Addr) (Ss:List SlM):Prop where
 lies:Lies w A (VS Ss)
 ok:∀ s ∈ Ss,SlR w s
structure EvL (w:World) (A:Option Addr) (L:List EvM):Prop where
 lies:Lies w A (Zh9 L)
 ok:∀ E ∈ L,EvR w E

structure FrTy (P:Program) (t tb ts tu:TypeId):Prop where
 u:∃ f0 f1 f2:Field,P.underlying t = some (.struct #[f0,f1,f2]) /\ f0.offset = 0 /\ f1.offset = 1 /\ f2.offset = 2 /\ f0.type = tb /\ f1.type = ts /\ f2.type = ts
 c:P.cellsOf t = 3
 ub:P.underlying tb = some .bool
 cb:P.cellsOf tb = 1
 us:P.underlying ts = some (.slice tu)
 cs:P.cellsOf ts = 1
 uu:P.underlying tu = some (.int .u32)
 cu:P.cellsOf tu = 1
structure SlTy (P:Program) (t tn tl tf tb ts tu:TypeId):Prop where
 u:∃ f0 f1 f2 f3:Field,P.underlying t = some (.struct #[f0,f1,f2,f3]) /\ f0.offset = 0 /\ f1.offset = 1 /\ f2.offset = 2 /\ f3.offset = 5 /\ f0.type = tn /\ f1.type = tl /\ f2.type = tf /\ f3.type = tf
 c:P.cellsOf t = 8
 un:P.underlying tn = some .string
 cn:P.cellsOf tn = 1
 ul:P.underlying tl = some (.slice tn)
 cl:P.cellsOf tl = 1
 f:FrTy P tf tb ts tu
structure EvTy (P:Program) (t tk tn tf ti tb ts tu:TypeId):Prop where
 u:∃ f0 f1 f2 f3:Field,P.underlying t = some (.struct #[f0,f1,f2,f3]) /\ f0.offset = 0 /\ f1.offset = 1 /\ f2.offset = 2 /\ f3.offset = 5 /\ f0.type = tk /\ f1.type = tn /\ f2.type = tf /\ f3.type = ti
 c:P.cellsOf t = 6
 uk:P.underlying tk = some (.int .i64)
 ck:P.cellsOf tk = 1
 un:P.underlying tn = some .string
 cn:P.cellsOf tn = 1
 ui:P.underlying ti = some (.int .i64)
 ci:P.cellsOf ti = 1
 f:FrTy P tf tb ts tu
structure PlTy (P:Program) (t tq tS ti tn tl tf tb ts tu:TypeId):Prop where
 u:∃ f0 f1 f2 f3:Field,P.underlying t = some (.struct #[f0,f1,f2,f3]) /\ f0.offset = 0 /\ f1.offset = 1 /\ f2.offset = 2 /\ f3.offset = 3 /\ f0.type = tq /\ f1.type = ti /\ f2.type = ti /\ f3.type = ti
 c:P.cellsOf t = 4
 uq:P.underlying tq = some (.slice tS)
 cq:P.cellsOf tq = 1
 ui:P.underlying ti = some (.int .i64)
 ci:P.cellsOf ti = 1
 s:SlTy P tS tn tl tf tb ts tu
section
variable {H:Type} {enc:TypeId × Value -> H} {P:Program} {w:World} {t tq tS tk ti tn tl tf tb ts tu:TypeId} {cs:List Value} {v:Value} {d:DataW H} {p:List MemPlace} {r:Reach} {b0:Nat}
theorem Rd.fracT (T:FrTy P t tb ts tu) (h:Rd enc P w t cs):∃ x:Fr,cs = [.bool x.neg,.slice x.A x.N.length x.c,.slice x.B x.D.length x.d] /\ FrOk w x /\ x.N.length <= 9223372036854775807 /\ x.D.length <= 9223372036854775807:=by
 obtain ⟨f0,f1,f2,hu,o0,o1,o2,rfl,rfl,e2⟩:=T.u;obtain ⟨hl,hf⟩:=h.struct hu;rw [T.c] at hl
 match cs,hl with
 | [a,b,c],_=>
  have q0:=hf 0 f0 rfl;have q1:=hf 1 f1 rfl;have q2:=hf 2 f2 rfl;rw [o0,T.cb] at q0;rw [o1,T.cs] at q1;rw [o2,e2,T.cs] at q2;obtain ⟨n,e0⟩:=q0.bool T.ub;obtain ⟨A,cA,N,e1,h1,l1⟩:=q1.dg T.us T.uu T.cu;obtain ⟨B,cB,D,e2,h2,l2⟩:=q2.dg T.us T.uu T.cu;simp at e0 e1 e2;subst e0 e1 e2;exact ⟨⟨n,A,cA,N,B,cB,D⟩,rfl,⟨h1,h2⟩,l1,l2⟩
theorem Zgw (l:List BA):(l.flatMap fun x:BA=>[Value.string x]) = sbs l:=by
 induction l with
 | nil=>rfl
 | cons x xs ih=>rw [WaX,ih];rfl
theorem Rd.strsT (ht:P.underlying t = some (.slice tn)) (hn:P.underlying tn = some .string) (hc:P.cellsOf tn = 1) (h:Rd enc P w t cs):∃ A c,∃ l:List BA,cs = [.slice A l.length c] /\ Lies w A (sbs l) /\ (A = none -> c = 0 /\ l = []) /\ l.length <= 9223372036854775807 /\ ∀ x ∈ l,x.size <= maxLen:=by
 obtain ⟨A,c,l,h1,h2,h3,h4,h5,h6⟩:=h.slice ht hc (fun x:BA=>[Value.string x]) (fun x=>x.size <= maxLen) (fun cs hcs=>hcs.string hn);rw [Zgw] at h2;exact ⟨A,c,l,h1,h2,h3,h4,h6⟩
theorem Rd.slotT (T:SlTy P t tn tl tf tb ts tu) (h:Rd enc P w t cs):∃ s:SlM,cs = slc s /\ SlR w s:=by
 obtain ⟨f0,f1,f2,f3,hu,o0,o1,o2,o3,rfl,rfl,rfl,e3⟩:=T.u;obtain ⟨hl,hf⟩:=h.struct hu;rw [T.c] at hl
 match cs,hl with
 | [a,b,c,d,e,f,g,i],_=>
  have q0:=hf 0 f0 rfl;have q1:=hf 1 f1 rfl;have q2:=hf 2 f2 rfl;have q3:=hf 3 f3 rfl;rw [o0,T.cn] at q0;rw [o1,T.cl] at q1;rw [o2,T.f.c] at q2;rw [o3,e3,T.f.c] at q3;obtain ⟨nm,e0,hnm⟩:=q0.string T.un;obtain ⟨A,cA,l,e1,h1,h2,h3,h4⟩:=q1.strsT T.ul T.un T.cn;obtain ⟨x,e2,hx,x1,x2⟩:=q2.fracT T.f;obtain ⟨y,e3,hy,y1,y2⟩:=q3.fracT T.f;simp at e0 e1 e2 e3;obtain ⟨rfl,rfl,rfl⟩:=e2;obtain ⟨rfl,rfl,rfl⟩:=e3;subst e0 e1;exact ⟨⟨nm,A,cA,l,x,y⟩,rfl,⟨h1,h2,h3,hnm,h4,hx,hy,x1,x2,y1,y2⟩⟩
theorem Rd.eventT (T:EvTy P t tk tn tf ti tb ts tu) (h:Rd enc P w t cs):∃ E:EvM,cs = evc E /\ EvR w E:=by
 obtain ⟨f0,f1,f2,f3,hu,o0,o1,o2,o3,rfl,rfl,rfl,rfl⟩:=T.u;obtain ⟨hl,hf⟩:=h.struct hu;rw [T.c] at hl
 match cs,hl with
 | [a,b,c,d,e,f],_=>
  have q0:=hf 0 f0 rfl;have q1:=hf 1 f1 rfl;have q2:=hf 2 f2 rfl;have q3:=hf 3 f3 rfl;rw [o0,T.ck] at q0;rw [o1,T.cn] at q1;rw [o2,T.f.c] at q2;rw [o3,T.ci] at q3;obtain ⟨n,e0,hn⟩:=q0.int T.uk;obtain ⟨s,e1,hs⟩:=q1.string T.un;obtain ⟨x,e2,hx,x1,x2⟩:=q2.fracT T.f;obtain ⟨t,e3,ht⟩:=q3.int T.ui;simp at e0 e1 e2 e3;obtain ⟨rfl,rfl,rfl⟩:=e2;subst e0 e1 e3;exact ⟨⟨n,s,x,t⟩,rfl,⟨hn,hs,hx,x1,x2,ht⟩⟩
theorem Zf3 (T:PlTy P t tq tS ti tn tl tf tb ts tu) (hv:Value.okWide P w r b0 t v) (h:DataW.Trod enc P w 0 (fun _=>true) true t v d p) :
  ∃ A c Ss pat prm need,v = .agg #[.slice A (Ss:List SlM).length c,.int .i64 pat,.int .i64 prm,.int .i64 need] /\ PlR w A Ss /\ (A = none -> c = 0 /\ Ss = []) /\ Ss.length <= 9223372036854775807 /\
   (-9223372036854775808 <= pat /\ pat <= 9223372036854775807) /\ (-9223372036854775808 <= prm /\ prm <= 9223372036854775807) /\ (-9223372036854775808 <= need /\ need <= 9223372036854775807):=by
 obtain ⟨f0,f1,f2,f3,hu,o0,o1,o2,o3,rfl,rfl,e2',e3'⟩:=T.u;obtain ⟨cs,rfl,hl,hf⟩:=Zew hu T.c hv h
 match cs,hl with
 | [a,b,c,d],_=>
  have q0:=hf 0 f0 rfl;have q1:=hf 1 f1 rfl;have q2:=hf 2 f2 rfl;have q3:=hf 3 f3 rfl;rw [o0,T.cq] at q0;rw [o1,T.ci] at q1;rw [o2,e2',T.ci] at q2;rw [o3,e3',T.ci] at q3;obtain ⟨A,c',Ss,e0,h1,h2,h3,h4,h5⟩:=q0.slice T.uq T.s.c slc (SlR w) (fun cs hcs=>hcs.slotT T.s);obtain ⟨n1,e1,g1⟩:=q1.int T.ui;obtain ⟨n2,e2,g2⟩:=q2.int T.ui;obtain ⟨n3,e3,g3⟩:=q3.int T.ui;simp at e0 e1 e2 e3;subst e0 e1 e2 e3;exact ⟨A,c',Ss,n1,n2,n3,rfl,⟨h1,h5⟩,h2,h3,g1,g2,g3⟩
theorem Zdz (ht:P.underlying t = some (.slice tS)) (T:EvTy P tS tk tn tf ti tb ts tu) (hv:Value.okWide P w r b0 t v) (h:DataW.Trod enc P w 0 (fun _=>true) true t v d p) :
  ∃ A c,∃ L:List EvM,v = .slice A L.length c /\ EvL w A L /\ (A = none -> c = 0 /\ L = []) /\ L.length <= 9223372036854775807:=by
 obtain ⟨A',n',c',rfl⟩:=okWide_slice ht hv;obtain ⟨A,c,L,h1,h2,h3,h4,h5,h6⟩:=(Rd.of h).slice ht T.c evc (EvR w) (fun cs hcs=>hcs.eventT T);simp [Value.cells] at h1;obtain ⟨rfl,rfl,rfl⟩:=h1;exact ⟨A',c',L,rfl,⟨h2,h6⟩,h3,h4⟩
end
theorem Zjq:FrTy Tryz.prog 28 4 26 173:=⟨⟨_,_,_,Tryz.underlying28,rfl,rfl,rfl,rfl,rfl,rfl⟩,by kernel_rfl,Tryz.underlying4,by kernel_rfl,Tryz.underlying26,by kernel_rfl,Tryz.underlying173,by kernel_rfl⟩
theorem Zjt:SlTy Tryz.prog 79 9 74 28 4 26 173:=⟨⟨_,_,_,_,Tryz.underlying79,rfl,rfl,rfl,rfl,rfl,rfl,rfl,rfl⟩,by kernel_rfl,Tryz.underlying9,by kernel_rfl,Tryz.underlying74,by kernel_rfl,Zjq⟩
theorem Zjy:EvTy Tryz.prog 61 59 9 28 3 4 26 173:=⟨⟨_,_,_,_,Tryz.underlying61,rfl,rfl,rfl,rfl,rfl,rfl,rfl,rfl⟩,by kernel_rfl,Tryz.underlying59,by kernel_rfl,Tryz.underlying9,by kernel_rfl,Tryz.underlying3,by kernel_rfl,Zjq⟩
theorem Zjv:PlTy Tryz.prog 48 46 79 3 9 74 28 4 26 173:=⟨⟨_,_,_,_,Tryz.underlying48,rfl,rfl,rfl,rfl,rfl,rfl,rfl,rfl⟩,by kernel_rfl,Tryz.underlying46,by kernel_rfl,Tryz.underlying3,by kernel_rfl,Zjt⟩
end Go.Proofs.YtcjicjfbippmnaaGreat
namespace Go.Proofs.YtcjicjfbippmnaaGreat
open Go.RowKit Ear

theorem Zcj {α:Type} {p : α -> Bool} {l:List α} {k:Nat} (hk:k < l.length) (h:p l[k] = false):l.all p = false:=by
 rw [WeE];exact ⟨_,gM hk,by rw [h];decide⟩
theorem Qe {α:Type} {p : α -> Bool} {l:List α} {k:Nat} (hk:k < l.length) (h:(l.take k).all p = true) (h2:p l[k] = true):(l.take (k + 1)).all p = true:=by
 rw [Wo hk,List.all_append,h];simp [h2]
def XK (x:Fr):Bool:=decide (x.N.length <= 4) && decide (x.D.length <= 4)
theorem Q7 {x:Fr} (h:XK x = true):Few x 90000:=by
 unfold XK at h;rw [Wy,WaR,WaR] at h;exact ⟨tR h.1 (by decide),tR h.2 (by decide)⟩
theorem Vz (x:Fr) (w:World) (h1:x.N.length <= 9223372036854775807) (h2:x.D.length <= 9223372036854775807) (r:Bool) (hr:Hid (XK x = r)):Calls Tryz.prog 73 #[x.val] w (Qp r w):=by
 obtain ⟨W0,hW0⟩:∃ W0:World,W0 = w.alloc (.cells #[.bool x.neg,.slice x.A x.N.length x.c,.slice x.B x.D.length x.d] 28):=⟨_,rfl⟩;have HB0:Hid (Below w.heap.size w W0):=zH (by rw [hW0];exact bR.alloc nR _);have HX0:Hid (Fb W0 w.heap.size x):=zH (by rw [hW0];exact Fb.new w x);obtain ⟨c0,c1,c2,-,-,-⟩:=HX0.out.facts;go_enter Tryz.func73,Tryz.ntmps73;go_upto_region 1 with fail;rw [<- hW0];clear hW0;by_cases h3:x.N.length <= 4
 ·have hz:r = decide (x.D.length <= 4):=by rw [<- hr.out];unfold XK;rw [Wi h3,WcR]
  subst hz;clear hr;go_wp2_with fail;go_ret;exact ⟨by simp <;> omega,HB0.out⟩
 ·have hz:r = false:=by rw [<- hr.out];unfold XK;rw [dF h3,WcY]
  subst hz;clear hr;go_wp2_with fail;go_ret;exact ⟨rfl,HB0.out⟩
theorem Zck (L:List EvM):(Zh9 L).length = L.length * 6:=by
 induction L with
 | nil=>rfl
 | cons x l ih=>simp only [Zh9,List.flatMap_cons,List.length_append] at ih ⊢;rw [ih];simp [evc];omega
theorem ZcS:∀ (L:List EvM) {k:Nat} (hk:k < L.length) (j:Nat),j < 6 -> (Zh9 L)[k * 6 + j]? = (evc L[k])[j]?
 | s :: l,0,_,j,hj=>by
  simp only [Zh9,List.flatMap_cons,Nat.zero_mul,Nat.zero_add,List.getElem_cons_zero];exact WdA (by simp [evc];exact hj)
 | s :: l,k + 1,hk,j,hj=>by
  have ih:=ZcS l (k:=k) (by simpa using hk) j hj;simp only [Zh9,List.flatMap_cons,List.getElem_cons_succ] at ih ⊢;rw [WaL (by simp [evc];omega),<- ih];congr 1;simp [evc];omega
theorem EvL.at_ {w:World} {A:Option Addr} {L:List EvM} (h:EvL w A L) {k:Nat} (hk:k < L.length):∃ b off,A = some ⟨b,off,none⟩ /\ b < w.heap.size /\ ∀ (j:Nat) (v:Value),(evc L[k])[j]? = some v -> w.cell? ⟨b,off + k * 6 + j,none⟩ = some v:=by
 obtain ⟨b,off,e,hb,hc⟩:=h.lies (by rw [Zck];omega);refine ⟨b,off,e,hb,fun j v hv=>?_⟩;rw [WbJ];refine hc _ _ ?_;have hj:j < 6:=by have:=(Wl.1 hv).1;simpa [evc] using this
 rw [ZcS L hk j hj];exact hv
theorem EvR.below {w w':World} {E:EvM} (h:EvR w E) (hb:Below w.heap.size w w'):EvR w' E:=⟨h.kind,h.size,h.W.below hb,h.W1,h.W2,h.at_⟩
theorem EvL.below {w w':World} {A:Option Addr} {L:List EvM} (h:EvL w A L) (hb:Below w.heap.size w w'):EvL w' A L:=⟨h.lies.below hb,fun E hE=>(h.ok E hE).below hb⟩
def YO (E:EvM):Bool:=XK E.W && decide (E.val.size <= 60)
def U6 (L:List EvM):Bool:=(L.take 31).all YO && decide (L.length <= 30)
theorem ZeV (A:Option Addr) (c:Nat) (L:List EvM) (w:World) (h:EvL w A L) (hn:L.length <= 9223372036854775807) (r:Bool) (hr:Hid (U6 L = r)):Calls Tryz.prog 28 #[.slice A L.length c] w (Qp r w):=by
 have H:=zH h;clear h;go_enter Tryz.func28,Tryz.ntmps28;go_wp2_with fail;go_loopw [3] (fun i wr=>∃ k:Nat,k <= L.length /\ k <= 31 /\ i = .int .i64 k /\ Hid ((L.take k).all YO = true) /\ Hid (Below w.heap.size w wr)) (fun i _=>L.length - (intOf i).toNat)
 case atStart=>exact ⟨0,by omega,by omega,rfl,zH rfl,zH bR⟩
 case round=>
  obtain ⟨k,hk,hk31,rfl,HP,HB⟩:=hrel;by_cases hlt:k < L.length
  ·by_cases h30:k <= 30
   ·obtain ⟨bk,off,rfl,hbk,hc⟩:=(H.out.below HB.out).at_ hlt;have q1:=hc 1 _ rfl;have q2:=hc 2 _ rfl;have q3:=hc 3 _ rfl;have q4:=hc 4 _ rfl;clear hc;have HR:=zH (H.out.ok _ (gM hlt));have HY:Hid (YO L[k] = true -> (L.take (k + 1)).all YO = true):=zH (fun he=>Qe hlt HP.out he);have HZ:Hid (YO L[k] = false -> r = false):=zH (fun he=>by
     rw [<- hr.out];unfold U6;rw [Zcj (l:=L.take 31) (k:=k) (p:=YO) (by rw [WaT];omega) (by rw [List.getElem_take];exact he),WcY])
    clear HP;generalize L[k] = E at *
    have hsz:=HR.out.size;unfold maxLen at hsz;cases hl:XK E.W with
    | false=>
     have hz:=HZ.out (by unfold YO;rw [hl];rfl);subst hz;have C1:=zH (Vz E.W wr HR.out.W1 HR.out.W2 false (zH hl));clear hl HY HZ hr;go_wp2_with fail;refine C1.out.mono ?_;rintro e w1 ⟨rfl,hb1⟩;go_wp2_with fail;go_ret;exact ⟨rfl,HB.out.trans (hb1.mono HB.out.size)⟩
    | true=>
     have C1:=zH (Vz E.W wr HR.out.W1 HR.out.W2 true (zH hl));by_cases h6:E.val.size <= 60
     ·have HK:=zH (HY.out (by unfold YO;rw [hl,Wi h6];rfl));clear hl HY HZ;go_wp2_with fail;refine C1.out.mono ?_;rintro e w1 ⟨rfl,hb1⟩;have q1':=(hb1.cell (p:=⟨bk,off + k * 6 + 1,none⟩) hbk).trans q1;have HB1:=zH (HB.out.trans (hb1.mono HB.out.size));clear q1 q2 q3 q4 hb1 C1;go_wp2_with fail;exact ⟨⟨k + 1,by omega,by omega,by go_num,HK,HB1⟩,by simp [intOf];omega⟩
     ·have hz:=HZ.out (by unfold YO;rw [hl,dF h6];rfl);subst hz;clear hl HY HZ hr;go_wp2_with fail;refine C1.out.mono ?_;rintro e w1 ⟨rfl,hb1⟩;have q1':=(hb1.cell (p:=⟨bk,off + k * 6 + 1,none⟩) hbk).trans q1;have HB1:=zH (HB.out.trans (hb1.mono HB.out.size));clear q1 q2 q3 q4 hb1 C1;go_wp2_with fail;go_ret;exact ⟨rfl,HB1.out⟩
   ·have hz:r = false:=(by rw [<- hr.out];unfold U6;rw [dF (by omega),WdC]);subst hz;clear hr HP;go_wp2_with fail;go_ret;exact ⟨by simp <;> omega,HB.out⟩
  ·have hz:r = decide (L.length <= 30):=by
    rw [<- hr.out];unfold U6;obtain rfl:k = L.length:=(by omega);rw [Wm (by omega)];rw [Wm (by omega)] at HP;rw [HP.out,WcR]
   subst hz;clear hr HP;go_wp2_with fail;go_ret;exact ⟨by simp <;> omega,HB.out⟩
theorem SlR.below {w w':World} {s:SlM} (h:SlR w s) (hb:Below w.heap.size w w'):SlR w' s:=⟨h.lies.below hb,h.nil,h.len,h.size,h.sizes,h.L.below hb,h.S.below hb,h.L1,h.L2,h.S1,h.S2⟩
theorem PlR.below {w w':World} {A:Option Addr} {Ss:List SlM} (h:PlR w A Ss) (hb:Below w.heap.size w w'):PlR w' A Ss:=⟨h.lies.below hb,fun s hs=>(h.ok s hs).below hb⟩
theorem PlR.at_ {w:World} {A:Option Addr} {Ss:List SlM} (h:PlR w A Ss) {k:Nat} (hk:k < Ss.length):∃ b off,A = some ⟨b,off,none⟩ /\ b < w.heap.size /\ ∀ (j:Nat) (v:Value),(slc Ss[k])[j]? = some v -> w.cell? ⟨b,off + k * 8 + j,none⟩ = some v:=by
 obtain ⟨b,off,e,hb,hc⟩:=h.lies (by rw [XN];omega);refine ⟨b,off,e,hb,fun j v hv=>?_⟩;rw [WbJ];refine hc _ _ ?_;have hj:j < 8:=by have:=(Wl.1 hv).1;simpa [slc] using this
 rw [Uy Ss hk j hj];exact hv
def SlM.pure (s:SlM):PSl:=⟨s.nm,s.vs,fq s.L.neg (vl s.L.N).toNat (vl s.L.D).toNat,fq s.S.neg (vl s.S.N).toNat (vl s.S.D).toNat⟩
def Zdi (v:BA):Bool:=decide (v.size <= 60)
def VW (s:SlM):Bool:=decide (s.vs.length <= 60) && (decide (s.nm.size <= 60) && (XK s.L && (XK s.S && s.vs.all Zdi)))
def Zbb (Ss:List SlM):Bool:=decide (Ss.length <= 30) && Ss.all VW
theorem Zba {Ss:List SlM}:Zbb Ss = true ↔ Ss.length <= 30 /\ ∀ s ∈ Ss,s.vs.length <= 60 /\ s.nm.size <= 60 /\ XK s.L = true /\ XK s.S = true /\ ∀ v ∈ s.vs,v.size <= 60:=by
 unfold Zbb VW Zdi;simp only [Bool.and_eq_true,decide_eq_true_eq,List.all_eq_true]
theorem PlR.plm {w:World} {A:Option Addr} {Ss:List SlM} (h:PlR w A Ss) (ht:Zbb Ss = true):PlM w A Ss (Ss.map SlM.pure):=
 ⟨h.lies,by simp,fun k s p hs hp=>by
  rw [WL,hs] at hp;injection hp with hp
  subst hp;have hm:=WO hs;obtain ⟨-,-,l1,l2,-⟩:=(Zba.1 ht).2 s hm;have r:=h.ok s hm;exact ⟨rfl,rfl,r.lies,fun e=>(r.nil e).1,⟨r.L.n,r.L.d,rfl⟩,⟨r.S.n,r.S.d,rfl⟩,Q7 l1,Q7 l2⟩⟩
theorem ZfD (A:Option Addr) (c:Nat) (Ss:List SlM) (pat prm need:Int) (w:World) (h:PlR w A Ss) (hn:Ss.length <= 9223372036854775807) (r:Bool) (hr:Hid (Zbb Ss = r)) :
  Calls Tryz.prog 27 #[.agg #[.slice A Ss.length c,.int .i64 pat,.int .i64 prm,.int .i64 need]] w (Qp r w):=by
 obtain ⟨W0,hW0⟩:∃ W0:World,W0 = w.alloc (.cells #[.slice A Ss.length c,.int .i64 pat,.int .i64 prm,.int .i64 need] 48):=⟨_,rfl⟩;have HB0:Hid (Below w.heap.size w W0):=zH (by rw [hW0];exact bR.alloc nR _);have HX0:Hid (W0.heap[w.heap.size]? = some (.cells #[.slice A Ss.length c,.int .i64 pat,.int .i64 prm,.int .i64 need] 48 (0,0))):=zH (by rw [hW0];exact Wg w _);have HP:=zH (h.below HB0.out);have hws:w.heap.size < W0.heap.size:=(aE HX0.out).1;have c0:W0.cell? ⟨w.heap.size,0,none⟩ = some (.slice A Ss.length c):=(cR 0 HX0.out).trans rfl;clear h;go_enter Tryz.func27,Tryz.ntmps27;go_upto_region 1 with fail;rw [<- hW0];clear hW0;by_cases h30:Ss.length <= 30
 ·go_wp2_with fail;go_loopw [3,4,5] (fun i _ _ wr=>∃ k:Nat,k <= Ss.length /\ i = .int .i64 k /\ Hid ((Ss.take k).all VW = true) /\ Hid (Below W0.heap.size W0 wr)) (fun i _ _ _=>Ss.length - (intOf i).toNat)
  case atStart=>exact ⟨0,by omega,rfl,zH rfl,zH bR⟩
  case round=>
   obtain ⟨k,hk,rfl,HA,HB⟩:=hrel;have c1:wr.cell? ⟨w.heap.size,0,none⟩ = some (.slice A Ss.length c):=(HB.out.cell (p:=⟨w.heap.size,0,none⟩) hws).trans c0;by_cases hlt:k < Ss.length
   ·have HR:=zH (HP.out.ok _ (gM hlt));have HY:Hid (VW Ss[k] = true -> (Ss.take (k + 1)).all VW = true):=zH (fun he=>Qe hlt HA.out he);have HZ:Hid (VW Ss[k] = false -> r = false):=zH (fun he=>by
     rw [<- hr.out];unfold Zbb;rw [Zcj hlt he,WdC])
    obtain ⟨bk,off,rfl,hbk,hc⟩:=(HP.out.below HB.out).at_ hlt;have q0:=hc 0 _ rfl;have q1:=hc 1 _ rfl;have q2:=hc 2 _ rfl;have q3:=hc 3 _ rfl;have q4:=hc 4 _ rfl;have q5:=hc 5 _ rfl;have q6:=hc 6 _ rfl;have q7:=hc 7 _ rfl;rw [WaV] at q0;clear hc HA;generalize Ss[k] = s at *
    obtain ⟨W1,hW1⟩:∃ W1:World,W1 = wr.alloc (.cells #[.string s.nm,.slice s.A s.vs.length s.c,.bool s.L.neg,.slice s.L.A s.L.N.length s.L.c,.slice s.L.B s.L.D.length s.L.d,.bool s.S.neg,.slice s.S.A s.S.N.length s.S.c,.slice s.S.B s.S.D.length s.S.d] 79):=⟨_,rfl⟩;have hb1:Below wr.heap.size wr W1:=(by rw [hW1];exact bR.alloc nR _);have HX1:Hid (W1.heap[wr.heap.size]? = some (.cells #[.string s.nm,.slice s.A s.vs.length s.c,.bool s.L.neg,.slice s.L.A s.L.N.length s.L.c,.slice s.L.B s.L.D.length s.L.d,.bool s.S.neg,.slice s.S.A s.S.N.length s.S.c,.slice s.S.B s.S.D.length s.S.d] 79 (0,0))):=zH (by rw [hW1];exact Wg wr _);have HB1:=zH (HB.out.trans (hb1.mono HB.out.size));have hwr1:wr.heap.size < W1.heap.size:=(aE HX1.out).1;have hsz:=HR.out.size;unfold maxLen at hsz;have hvl:=HR.out.len;go_upto_region 7 with fail;rw [<- hW1];clear q0 q1 q2 q3 q4 q5 q6 q7 hW1 hb1;have HCC:Hid (∀ u,Below W1.heap.size W1 u -> u.cell? ⟨wr.heap.size,0,none⟩ = some (.string s.nm) /\ u.cell? ⟨wr.heap.size,1,none⟩ = some (.slice s.A s.vs.length s.c) /\ u.cell? ⟨wr.heap.size,2,none⟩ = some (.bool s.L.neg) /\ u.cell? ⟨wr.heap.size,3,none⟩ = some (.slice s.L.A s.L.N.length s.L.c) /\ u.cell? ⟨wr.heap.size,4,none⟩ = some (.slice s.L.B s.L.D.length s.L.d) /\
     u.cell? ⟨wr.heap.size,5,none⟩ = some (.bool s.S.neg) /\ u.cell? ⟨wr.heap.size,6,none⟩ = some (.slice s.S.A s.S.N.length s.S.c) /\ u.cell? ⟨wr.heap.size,7,none⟩ = some (.slice s.S.B s.S.D.length s.S.d)):=zH (fun u hu=>by
     have hh:=(hu.block _ hwr1).trans HX1.out;exact ⟨(cR 0 hh).trans rfl,(cR 1 hh).trans rfl,(cR 2 hh).trans rfl,(cR 3 hh).trans rfl,(cR 4 hh).trans rfl,(cR 5 hh).trans rfl,(cR 6 hh).trans rfl,(cR 7 hh).trans rfl⟩)
    have HBW:=zH (HB0.out.trans (HB1.out.mono HB0.out.size));have HL1:Hid (∀ (u:World) (q:Bool),XK s.L = q -> Calls Tryz.prog 73 #[s.L.val] u (Qp q u)):=zH (fun u q hq=>Vz s.L u HR.out.L1 HR.out.L2 q (zH hq));have HS1:Hid (∀ (u:World) (q:Bool),XK s.S = q -> Calls Tryz.prog 73 #[s.S.val] u (Qp q u)):=zH (fun u q hq=>Vz s.S u HR.out.S1 HR.out.S2 q (zH hq));obtain ⟨p0,p1,p2,p3,p4,p5,p6,p7⟩:=HCC.out W1 bR;by_cases g1:s.vs.length <= 60
    ·by_cases g2:s.nm.size <= 60
     ·cases g3:XK s.L with
      | false=>
       have hz:=HZ.out (by unfold VW;rw [g3];simp);subst hz;have C1:=zH (HL1.out W1 false g3);clear g3 hr HY HZ;go_wp2_with fail;refine C1.out.mono ?_;rintro e w1 ⟨rfl,hb1⟩;have hbb:=HBW.out.trans (hb1.mono HBW.out.size);clear hb1;go_wp2_with fail;go_ret;exact ⟨rfl,hbb⟩
      | true=>
       have C1:=zH (HL1.out W1 true g3);cases g4:XK s.S with
       | false=>
        have hz:=HZ.out (by unfold VW;rw [g4];simp);subst hz;clear g3 hr HY HZ;have C2:=zH (fun u=>HS1.out u false g4);clear g4;go_wp2_with fail;refine C1.out.mono ?_;rintro e w1 ⟨rfl,hb1⟩;obtain ⟨r0,r1,r2,r3,r4,r5,r6,r7⟩:=HCC.out w1 hb1;have HB2:=zH (HBW.out.trans (hb1.mono HBW.out.size));clear hb1 p0 p1 p2 p3 p4 p5 p6 p7;go_wp2_with fail;refine (C2.out w1).mono ?_;rintro e w2 ⟨rfl,hb2⟩;have hbb:=HB2.out.trans (hb2.mono HB2.out.size);clear hb2;go_wp2_with fail;go_ret;exact ⟨rfl,hbb⟩
       | true=>
        have C2:=zH (fun u=>HS1.out u true g4);have HYV:Hid (s.vs.all Zdi = true -> (Ss.take (k + 1)).all VW = true):=zH (fun he=>HY.out (by unfold VW;rw [g3,g4,Wi g1,Wi g2,he];rfl));have HZV:Hid (s.vs.all Zdi = false -> r = false):=zH (fun he=>HZ.out (by unfold VW;rw [he];simp));clear g3 g4 HY HZ;go_wp2_with fail;refine C1.out.mono ?_;rintro e w1 ⟨rfl,hb1⟩;obtain ⟨r0,r1,r2,r3,r4,r5,r6,r7⟩:=HCC.out w1 hb1;have HB2:=zH hb1;clear hb1 p0 p1 p2 p3 p4 p5 p6 p7;go_wp2_with fail;refine (C2.out w1).mono ?_;rintro e w2 ⟨rfl,hb2⟩;have HB3:=zH (HB2.out.trans (hb2.mono HB2.out.size));obtain ⟨t0,t1,-,-,-,-,-,-⟩:=HCC.out w2 HB3.out;have HBX:=zH (HB1.out.trans (HB3.out.mono HB1.out.size));have HVS:=zH (HR.out.lies.below HBX.out);have HSZ:=zH HR.out.sizes;have h52:wr.heap.size < w2.heap.size:=Wk hwr1 HB3.out.size;clear hb2 C1 C2 HB2 HB3 HBW HCC HL1 HS1 HR HX1 HB r0 r1 r2 r3 r4 r5 r6 r7;go_wp2_with fail;obtain ⟨W5,rfl⟩:∃ x,x = wr:=⟨_,rfl⟩;go_loopw [5] (fun i wi=>∃ j:Nat,j <= s.vs.length /\ i = .int .i64 j /\ Hid ((s.vs.take j).all Zdi = true) /\ Hid (Below w2.heap.size w2 wi)) (fun i _=>s.vs.length - (intOf i).toNat)
        case atStart=>exact ⟨0,by omega,rfl,zH rfl,zH bR⟩
        case round=>
         obtain ⟨j,hj,rfl,HJ,HBJ⟩:=hrel;have u0:=(HBJ.out.cell (p:=⟨W5.heap.size,0,none⟩) h52).trans t0;have u1:=(HBJ.out.cell (p:=⟨W5.heap.size,1,none⟩) h52).trans t1;have HBO:=zH (HBX.out.trans (HBJ.out.mono HBX.out.size));by_cases hjl:j < s.vs.length
         ·obtain ⟨bv,ov,ev,hbv,hcv⟩:=(HVS.out.below HBJ.out) (by simp;omega);have uv:=hcv j (.string s.vs[j]) (by simp [gE hjl]);rw [ev] at u1;have hvz:=HSZ.out _ (gM hjl);unfold maxLen at hvz;have HYJ:Hid (s.vs[j].size <= 60 -> (s.vs.take (j + 1)).all Zdi = true):=zH (fun he=>Qe hjl HJ.out (Wi he));have HZJ:Hid (¬ s.vs[j].size <= 60 -> r = false):=zH (fun he=>HZV.out (Zcj hjl (dF he)));clear hcv ev HJ t0 t1;generalize s.vs[j] = x at *
          by_cases hx:x.size <= 60
          ·have HK:=zH (HYJ.out hx);go_wp2_with fail;exact ⟨⟨j + 1,by omega,by go_num,HK,HBJ⟩,by simp [intOf];omega⟩
          ·have hz:=HZJ.out hx;subst hz;clear hr;go_wp2_with fail;go_ret;exact ⟨rfl,HB0.out.trans (HBO.out.mono HB0.out.size)⟩
         ·obtain rfl:j = s.vs.length:=(by omega);have HK:=zH (HYV.out (by rw [<- Wm (l:=s.vs) (i:=s.vs.length) (by omega)];exact HJ.out));clear HJ HYV HZV t0 t1;go_wp2_with fail;exact ⟨⟨k + 1,by omega,by go_num,HK,HBO⟩,by simp [intOf];omega⟩
     ·have hz:=HZ.out (by unfold VW;rw [dF g2];simp);subst hz;clear hr HY HZ;go_wp2_with fail;go_ret;exact ⟨rfl,HBW.out⟩
    ·have hz:=HZ.out (by unfold VW;rw [dF g1];simp);subst hz;clear hr HY HZ;go_wp2_with fail;go_ret;exact ⟨rfl,HBW.out⟩
   ·obtain rfl:k = Ss.length:=(by omega);have hz:r = true:=by
     rw [<- hr.out];unfold Zbb;rw [Wi h30,WcR,<- Wm (l:=Ss) (i:=Ss.length) (by omega)];exact HA.out
    subst hz;clear hr HA;go_wp2_with fail;go_ret;exact ⟨rfl,HB0.out.trans (HB.out.mono HB0.out.size)⟩
 ·have hz:r = false:=by rw [<- hr.out];unfold Zbb;rw [dF h30,WcY]
  subst hz;clear hr;go_wp2_with fail;go_ret;exact ⟨rfl,HB0.out⟩
end Go.Proofs.YtcjicjfbippmnaaGreat
namespace Ear
open Go.Proofs.YtcjicjfbippmnaaGreat
def Yz (seen:List BA):List BA -> Option (List BA)
 | []=>some seen
 | v :: l=>if Xd v = true /\ v ∉ seen /\ v ≠ Yy /\ v ≠ noB then Yz (seen ++ [v]) l else none
def Zat (names:List BA) (s:PSl):Prop:=Xd s.nm = true /\ s.nm ∉ names /\ 1 <= s.vs.length /\ s.vs.length <= 50 /\ Xp s.le = true /\ Xp s.su = true /\ ¬ 0 < XH (s.le + -s.su)
instance (names:List BA) (s:PSl):Decidable (Zat names s):=by unfold Zat;infer_instance
def Uu (names values:List BA):List PSl -> Bool
 | []=>decide (Yy ∉ names) && decide (noB ∉ names)
 | s :: l=>decide (Zat names s) && (match Yz values s.vs with | none=>false | some v=>Uu (names ++ [s.nm]) v l)
theorem ZD (names values:List BA) (s:PSl) (l:List PSl):Uu names values (s :: l) = (decide (Zat names s) && (match Yz values s.vs with | none=>false | some v=>Uu (names ++ [s.nm]) v l)):=rfl
theorem Zes {names values:List BA} {s:PSl} {l:List PSl} (h:¬ Zat names s):Uu names values (s :: l) = false:=by rw [ZD,dF h];rfl
theorem Zdu {names values:List BA} {s:PSl} {l:List PSl} (h:Yz values s.vs = none):Uu names values (s :: l) = false:=by rw [ZD,h];simp
theorem Zdv {names values v:List BA} {s:PSl} {l:List PSl} (h:Zat names s) (hv:Yz values s.vs = some v):Uu names values (s :: l) = Uu (names ++ [s.nm]) v l:=by rw [ZD,Wi h,hv];rfl
theorem Za5 {seen:List BA} {l:List BA} {j:Nat} {seen':List BA} (h:Yz seen (l.take j) = some seen'):Yz seen l = Yz seen' (l.drop j):=by
 induction l generalizing seen j with
 | nil=>simp [Yz] at h ⊢;rw [h]
 | cons v l ih=>
  cases j with
  | zero=>simp [Yz] at h;rw [h];rfl
  | succ j=>
   simp only [List.take_succ_cons,List.drop_succ_cons] at h ⊢;have e:∀ r,Yz seen (v :: r) = if Xd v = true /\ v ∉ seen /\ v ≠ Yy /\ v ≠ noB then Yz (seen ++ [v]) r else none:=fun _=>rfl;rw [e] at h ⊢;by_cases hc:Xd v = true /\ v ∉ seen /\ v ≠ Yy /\ v ≠ noB
   ·rw [WA hc] at h ⊢;exact ih h
   ·rw [Ww hc] at h;cases h
theorem Zdc {seen:List BA} {l:List BA} {j:Nat} {seen':List BA} (h:Yz seen (l.take j) = some seen') (hj:j < l.length):Yz seen (l.take (j + 1)) = if Xd l[j] = true /\ l[j] ∉ seen' /\ l[j] ≠ Yy /\ l[j] ≠ noB then some (seen' ++ [l[j]]) else none:=by
 have h1:=Za5 (l:=l.take (j + 1)) (j:=j) (by rw [List.take_take,WbO (by omega)];exact h);rw [h1,List.drop_take,show j + 1 - j = 1 by omega,Wv hj];rfl
theorem Zd0 {seen:List BA} {l:List BA} {j:Nat} {seen':List BA} (h:Yz seen (l.take j) = some seen') (hj:j < l.length) (hb:¬ (Xd l[j] = true /\ l[j] ∉ seen' /\ l[j] ≠ Yy /\ l[j] ≠ noB)):Yz seen l = none:=by
 rw [Za5 h,Wv hj];show (if _ then _ else none) = none;rw [Ww hb]
theorem ZfA:∀ (l seen:List BA),J0 (Yy :: noB :: seen) l = (Yz seen l).map (fun r=>Yy :: noB :: r):=by
 intro l
 induction l with
 | nil=>intro seen;rfl
 | cons v l ih=>
  intro seen;show (if Xd v = true /\ v ∉ Yy :: noB :: seen then J0 (Yy :: noB :: seen ++ [v]) l else none) = (if Xd v = true /\ v ∉ seen /\ v ≠ Yy /\ v ≠ noB then Yz (seen ++ [v]) l else none).map _;by_cases hc:Xd v = true /\ v ∉ seen /\ v ≠ Yy /\ v ≠ noB
  ·rw [WA hc,WA ⟨hc.1,by simp only [List.mem_cons,not_or];exact ⟨hc.2.2.1,hc.2.2.2,hc.2.1⟩⟩];exact ih (seen ++ [v])
  ·rw [Ww hc,Ww (fun h=>hc (by
    obtain ⟨h1,h2⟩:=h;simp only [List.mem_cons,not_or] at h2;exact ⟨h1,h2.2.2,h2.1,h2.2.1⟩))]
   rfl
theorem ZfX:∀ (S:List PSl) (names values:List BA),Uu names values S = (YK names (Yy :: noB :: values) S && (decide (Yy ∉ names) && decide (noB ∉ names))):=by
 intro S
 induction S with
 | nil=>intro names values;rfl
 | cons s l ih=>
  intro names values;rw [ZD,XQ,ZfA];cases hv:Yz values s.vs with
  | none=>simp
  | some v=>
   simp only [Option.map_some];rw [ih];by_cases hs:Zat names s
   ·rw [Wi hs,WcR];have key:Zbg names s = (decide (s.nm ≠ Yy) && decide (s.nm ≠ noB)):=by
     by_cases h1:s.nm ≠ Yy
     ·by_cases h2:s.nm ≠ noB
      ·rw [Wi h1,Wi h2];obtain ⟨a1,a2,a3,a4,a5,a6,a7⟩:=hs;exact Zo.2 ⟨a1,a2,h1,h2,a3,a4,a5,a6,a7⟩
      ·rw [J7 (fun h=>h2 h.2.2.2.1),dF h2,WdC]
     ·rw [J7 (fun h=>h1 h.2.2.1),dF h1,WcY]
    rw [key];have ey:decide (Yy ∉ names ++ [s.nm]) = (decide (Yy ∉ names) && decide (s.nm ≠ Yy)):=by
     by_cases h1:Yy ∈ names
     ·rw [dF (by simp [h1]),dF (by simpa using h1)];rfl
     ·by_cases h2:s.nm = Yy
      ·rw [dF (by simp [h2]),dF (p:=s.nm ≠ Yy) (by simpa using h2),WdC]
      ·rw [Wi (by simp only [List.mem_append,List.mem_singleton,not_or];exact ⟨h1,fun e=>h2 e.symm⟩),Wi h1,Wi h2];rfl
    have en:decide (noB ∉ names ++ [s.nm]) = (decide (noB ∉ names) && decide (s.nm ≠ noB)):=by
     by_cases h1:noB ∈ names
     ·rw [dF (by simp [h1]),dF (by simpa using h1)];rfl
     ·by_cases h2:s.nm = noB
      ·rw [dF (by simp [h2]),dF (p:=s.nm ≠ noB) (by simpa using h2),WdC]
      ·rw [Wi (by simp only [List.mem_append,List.mem_singleton,not_or];exact ⟨h1,fun e=>h2 e.symm⟩),Wi h1,Wi h2];rfl
    rw [ey,en];cases decide (s.nm ≠ Yy) <;> cases decide (s.nm ≠ noB) <;> cases decide (Yy ∉ names) <;> cases decide (noB ∉ names) <;> simp
   ·rw [dF hs,WcY];rw [J7 (fun h=>hs ⟨h.1,h.2.1,h.2.2.2.2.1,h.2.2.2.2.2.1,h.2.2.2.2.2.2.1,h.2.2.2.2.2.2.2.1,h.2.2.2.2.2.2.2.2⟩)];simp
theorem Zhq (pat prm need:Int) (S:List PSl):Zq pat prm need S = (decide (XC S.length pat prm need) && Uu [] [] S):=by
 unfold Zq;rw [ZfX];simp
end Ear
namespace Go.Proofs.YtcjicjfbippmnaaGreat
open Go.RowKit Ear

structure TwoS (base:Nat) (NA VA:Option Addr) (nc vc:Nat) (N V:List BA) (W:World):Prop where
 n:W.ownsRow base 9 1 (.slice NA N.length nc) N.length (sbs N)
 v:W.ownsRow base 9 1 (.slice VA V.length vc) V.length (sbs V)
 ap:∀ k,blk NA = some k -> blk VA ≠ some k
theorem TwoS.below {base:Nat} {NA VA:Option Addr} {nc vc:Nat} {N V:List BA} {W W':World} (h:TwoS base NA VA nc vc N V W) (hb:Below W.heap.size W W'):TwoS base NA VA nc vc N V W':=⟨Jh h.n hb,Jh h.v hb,h.ap⟩
theorem TwoS.addN {base:Nat} {NA VA NA':Option Addr} {nc vc nc':Nat} {N V:List BA} {x:BA} {W W':World} (h:TwoS base NA VA nc vc N V W) (ho:W'.ownsRow base 9 1 (.slice NA' (N.length + 1) nc') (N.length + 1) (sbs N ++ [.string x]))
  (hg:W.grownBy W' (blk NA)) (hn:blk NA' = blk NA ∨ blk NA' = some W.heap.size):TwoS base NA' VA nc' vc (N ++ [x]) V W':=by
 refine ⟨by simpa using ho,Jr h.v hg (fun k hk e=>h.ap k e (by rw [Jm] at hk;exact hk)),fun k hk e=>?_⟩;rcases hn with hn | hn
 ·exact h.ap k (hn ▸ hk) e
 ·rw [hn] at hk;injection hk with hk
  have:=(h.v.lt k (by rw [Jm];exact e)).2;omega
theorem TwoS.addV {base:Nat} {NA VA VA':Option Addr} {nc vc vc':Nat} {N V:List BA} {x:BA} {W W':World} (h:TwoS base NA VA nc vc N V W) (ho:W'.ownsRow base 9 1 (.slice VA' (V.length + 1) vc') (V.length + 1) (sbs V ++ [.string x]))
  (hg:W.grownBy W' (blk VA)) (hn:blk VA' = blk VA ∨ blk VA' = some W.heap.size):TwoS base NA VA' nc vc' N (V ++ [x]) W':=by
 refine ⟨Jr h.n hg (fun k hk e=>h.ap k (by rw [Jm] at hk;exact hk) e),by simpa using ho,fun k hk e=>?_⟩;rcases hn with hn | hn
 ·exact h.ap k hk (hn ▸ e)
 ·rw [hn] at e;injection e with e
  have:=(h.n.lt k (by rw [Jm];exact hk)).2;omega
theorem TwoS.keepN {base:Nat} {NA VA:Option Addr} {nc vc:Nat} {N V:List BA} {W W':World} (h:TwoS base NA VA nc vc N V W) (hg:W.grownBy W' (blk NA)) {b:Nat} {cs:Array Value} {t:TypeId} (hb:W.heap[b]? = some (.cells cs t (0,0))) (ht:t ≠ 9):W'.heap[b]? = some (.cells cs t (0,0)):=
 (hg.block b (aE hb).1 (fun e=>(BT.of_own h.n (b:=b) (by rw [Jm];exact e.symm)).ne ⟨cs,(0,0),hb⟩ (fun e=>ht e.symm) rfl)).trans hb
theorem TwoS.keepV {base:Nat} {NA VA:Option Addr} {nc vc:Nat} {N V:List BA} {W W':World} (h:TwoS base NA VA nc vc N V W) (hg:W.grownBy W' (blk VA)) {b:Nat} {cs:Array Value} {t:TypeId} (hb:W.heap[b]? = some (.cells cs t (0,0))) (ht:t ≠ 9):W'.heap[b]? = some (.cells cs t (0,0)):=
 (hg.block b (aE hb).1 (fun e=>(BT.of_own h.v (b:=b) (by rw [Jm];exact e.symm)).ne ⟨cs,(0,0),hb⟩ (fun e=>ht e.symm) rfl)).trans hb
theorem Zdh (A:Option Addr) (c:Nat) (Ss:List SlM) (pat prm need:Int) (w:World) (hn6:Ss.length <= 9223372036854775807) (hh:¬ XC Ss.length pat prm need) :
  Calls Tryz.prog 30 #[.agg #[.slice A Ss.length c,.int .i64 pat,.int .i64 prm,.int .i64 need]] w (Qp false w):=by
 obtain ⟨W0,hW0⟩:∃ W0:World,W0 = w.alloc (.cells #[.slice A Ss.length c,.int .i64 pat,.int .i64 prm,.int .i64 need] 48):=⟨_,rfl⟩;have HB0:Hid (Below w.heap.size w W0):=zH (by rw [hW0];exact bR.alloc nR _);have HX0:Hid (W0.heap[w.heap.size]? = some (.cells #[.slice A Ss.length c,.int .i64 pat,.int .i64 prm,.int .i64 need] 48 (0,0))):=zH (by rw [hW0];exact Wg w _);have hws:w.heap.size < W0.heap.size:=(aE HX0.out).1;have c0:W0.cell? ⟨w.heap.size,0,none⟩ = some (.slice A Ss.length c):=(cR 0 HX0.out).trans rfl;have c1:W0.cell? ⟨w.heap.size,1,none⟩ = some (.int .i64 pat):=(cR 1 HX0.out).trans rfl;have c2:W0.cell? ⟨w.heap.size,2,none⟩ = some (.int .i64 prm):=(cR 2 HX0.out).trans rfl;have c3:W0.cell? ⟨w.heap.size,3,none⟩ = some (.int .i64 need):=(cR 3 HX0.out).trans rfl;go_enter Tryz.func30,Tryz.ntmps30;go_upto_region 1 with fail;rw [<- hW0];clear hW0;have hh':(Ss.length:Int) < 1 ∨ (1 <= (Ss.length:Int) /\ 20 < (Ss.length:Int)) ∨ (1 <= (Ss.length:Int) /\ (Ss.length:Int) <= 20 /\ pat < 0) ∨ (1 <= (Ss.length:Int) /\ (Ss.length:Int) <= 20 /\ 0 <= pat /\ 100 < pat) ∨ (1 <= (Ss.length:Int) /\ (Ss.length:Int) <= 20 /\ 0 <= pat /\ pat <= 100 /\ prm < 0) ∨ (1 <= (Ss.length:Int) /\ (Ss.length:Int) <= 20 /\ 0 <= pat /\ pat <= 100 /\ 0 <= prm /\ 10000 < prm) ∨
   (1 <= (Ss.length:Int) /\ (Ss.length:Int) <= 20 /\ 0 <= pat /\ pat <= 100 /\ 0 <= prm /\ prm <= 10000 /\ need < 0) ∨ (1 <= (Ss.length:Int) /\ (Ss.length:Int) <= 20 /\ 0 <= pat /\ pat <= 100 /\ 0 <= prm /\ prm <= 10000 /\ 0 <= need /\ prm < need):=by
  unfold XC at hh;omega
 clear hh;rcases hh' with h1 | ⟨h1,h2⟩ | ⟨h1,h2,h3⟩ | ⟨h1,h2,h3,h4⟩ | ⟨h1,h2,h3,h4,h5⟩ | ⟨h1,h2,h3,h4,h5,h6⟩ | ⟨h1,h2,h3,h4,h5,h6,h7⟩ | ⟨h1,h2,h3,h4,h5,h6,h7,h8⟩
 all_goals
  go_wp2_with fail;go_ret;exact ⟨rfl,HB0.out⟩
end Go.Proofs.YtcjicjfbippmnaaGreat
