/- TopLearned -/
import Derived.Test.YtlgdlenoohkipaaGreatMTearn37
set_option maxRecDepth 100000
set_option maxHeartbeats 32000000
namespace Go.Proofs.YtlgdlenoohkipaaGreat
open Go.RowKit Go.Maps Ear

section
variable {P:Program} {md:Mode} {ops:Array Oper} {Q:Exit -> Act -> World -> Prop}
theorem YC {o:Oper} (w:World) {t0:Array Value} {df:List Deferred} {K:Act -> World -> Prop} (d:Nat) (hd:o.dst = some d) (s x:Operand) (t:TypeId)
  (ho:o.op = .call { callee:=.builtin .append,args:=#[s,x],argTypes:=#[t,t] }) (v xv:Value) (hs:Act.eval ⟨t0,df⟩ s = v) (hx:Act.eval ⟨t0,df⟩ x = xv) {v':Value} {w':World} (hr:(Builtin.append_ #[t,t] o.type #[v,xv]).run P w = .ok v' w')
  (h:K ⟨t0.setIfInBounds d v',df⟩ w'):o.wp P ⟨t0,df⟩ w K Q:=by
 unfold Oper.wp execOp;simp only [ho,resolve,invoke,builtin,Sem.run_bind,Sem.run_pure,Result.andThen_ok,List.map_toArray,List.map_cons,List.map_nil,hs,hx,hr];show K ((⟨t0,df⟩:Act).put o.dst v') w';rw [hd];exact h
end
theorem Yw {u Z:World} {B:Nat} {e:TypeId} {sz n:Nat} {v:Value} {xs:List Value} (h:u.ownsRow B e sz v n xs) (hs:∀ g,v.ownBlock = some g -> Z.heap[g]? = u.heap[g]?):Z.ownsRow B e sz v n xs:=by
 obtain ⟨h1,h2⟩:=h;refine ⟨h1,?_⟩;rcases h2 with h2 | ⟨g,cap,cur,rfl,a,b,c⟩
 ·exact .inl h2
 ·exact .inr ⟨g,cap,cur,rfl,a,(hs g rfl).trans b,c⟩
theorem KpC.only {w u Z:World} (h:KpC w u) (hz:u.heap.size <= Z.heap.size) (hs:∀ b,b < w.heap.size -> Z.heap[b]? = u.heap[b]?):KpC w Z:=
 ⟨tR h.size hz,fun b cs t fr e=>(hs b (aE e).1).trans (h.row b cs t fr e)⟩
theorem ZaR (u:World) (base:Nat) (A:Option Addr) (c k:Nat) (l:List Int) (x:Int) (hl:l.length = k) (hrow:u.ownsRow base 3 1 (.slice A k c) k (ics l)) (hall:∀ g,(Value.slice A k c).ownBlock = some g -> AllC Za u g) (hb:base <= u.heap.size) (hk:k <= 100000) :
  ∃ A' c' u',(Builtin.append_ #[35,35] 35 #[.slice A k c,.slice (some ⟨u.heap.size,0,none⟩) 1 1]).run Tryz.prog (u.alloc (.cells #[.int .i64 x] 3)) = .ok (.slice A' (k + 1) c') u' /\ u'.ownsRow base 3 1 (.slice A' (k + 1) c') (k + 1) (ics (l ++ [x])) /\ (∀ g,(Value.slice A' (k + 1) c').ownBlock = some g -> AllC Za u' g) /\ KU u u' /\ (∀ b,b < u.heap.size -> (Value.slice A k c).ownBlock ≠ some b -> u'.heap[b]? = u.heap[b]?) /\ u.heap.size <= u'.heap.size /\ Below base u u':=by
 obtain ⟨i0,hi0,hz0,hz1,hz2⟩:=info_parts Yz;have hn9:∀ j y,[Value.int .i64 x][j]? = some y -> (u.alloc (.cells #[.int .i64 x] 3)).cell? ((⟨u.heap.size,0,none⟩:Addr).add j) = some y:=fun j y hy=>by
  rw [Addr.add_lit,Nat.zero_add,cell_of_row _ _ j _ _ _ (heap_alloc_new u (.cells #[.int .i64 x] 3))];simpa using hy
 have hal:∀ g,(Value.slice A k c).ownBlock = some g -> AllC Za (u.alloc (.cells #[.int .i64 x] 3)) g:=fun g hg=>(hall g hg).block (Below.heap_alloc _ _ _ (hrow.lt g hg).2);obtain ⟨v9,w9,hrun,hown9,hgr9,-⟩:=run_append_own (P:=Tryz.prog) (u.alloc (.cells #[.int .i64 x] 3)) base 35 35 3 i0 _ 1 8 Tryz.underlying35 hi0 hz0 hz1 hz2 rfl (by omega) (.slice A k c) k (ics l) (hrow.alloc _) ⟨u.heap.size,0,none⟩ 1 1 [.int .i64 x] rfl hn9 (by simp [Value.oneCell']) (by unfold maxLen;omega) (by omega) (by simp;omega);have hall9:=ZdO (p:=Za) (u.alloc (.cells #[.int .i64 x] 3)) base 35 35 3 i0 _ 1 8 Tryz.underlying35 hi0 hz0 hz1 hz2 rfl (by omega) (.slice A k c) k (ics l) (hrow.alloc _) ⟨u.heap.size,0,none⟩ 1 1 [.int .i64 x] rfl hn9 (by simp [Value.oneCell']) (by unfold maxLen;omega) (by omega) (by omega) hal (by simp [Za,Value.cells]) (by simp [Za]) (fun y hy=>by
  obtain ⟨z,_,rfl⟩:=List.mem_map.1 hy;simp [Za]) hrun
 obtain ⟨A10,c10,rfl⟩:=Yg hown9;have hb9:Below base u (u.alloc (.cells #[.int .i64 x] 3)):=bR.alloc hb _;refine ⟨A10,c10,w9,hrun,?_,hall9,?_,?_,?_,?_⟩
 ·have e:ics (l ++ [x]) = ics l ++ [.int .i64 x]:=by simp [ics]
  rw [e];exact hown9
 ·have h1:KU u (u.alloc (.cells #[.int .i64 x] 3)):=KU.below (bR.alloc nR _);refine h1.trans ?_;cases hA:(Value.slice A k c).ownBlock with
  | none=>
   rw [hA] at hgr9;exact fun A' l' h hl'=>by
    obtain ⟨b,off,e,hb',hc⟩:=h hl';exact ⟨b,off,e,Nat.lt_of_lt_of_le hb' hgr9.size,fun j y hy=>(World.cell?_of_block (a:=⟨b,off + j,none⟩) (hgr9.block b hb' (by simp))).trans (hc j y hy)⟩
  | some g=>
   rw [hA] at hgr9;exact KU.all (hal g hA) hgr9
 ·intro b hb1 hb2;exact (hgr9.block b (by simp;omega) (fun e=>hb2 e.symm)).trans (Below.heap_alloc _ _ _ hb1)
 ·have:=hgr9.size;simp at this;omega
 ·exact hb9.grown hgr9 (by simp;omega) (fun b e=>(hrow.lt b e).1)
theorem GrI.keep {w u Z:World} {p:GrP} {base gb rb fb fn:Nat} (h:GrI u p base gb rb fb fn) (ho:GrOk w p) (hk:KpC w Z) (hu:KU u Z) (hV : 2 <= p.V) (S:Nat -> Prop) (hs:∀ b,b < u.heap.size -> ¬ S b -> Z.heap[b]? = u.heap[b]?)
  (hS:∀ b,S b -> b ≠ gb /\ ∃ cs t,u.heap[b]? = some (.cells cs t (0,0)) /\ (t ≠ 31 ∨ cs.size = 3)):GrI Z p base gb rb fb fn:=by
 obtain ⟨ms,m1,m2⟩:=h.map;refine ⟨(hs gb (aE h.box).1 (fun q=>(hS gb q).1 rfl)).trans h.box,⟨ms,m1.same (hs rb ?_ (fun q=>?_)),fun e' he=>(m2 e' he).ku (hs _ (m2 e' he).lt.2 (fun q=>?_)) hu⟩,ho.kpc hk,h.le⟩
 ·obtain ⟨es,cl,q,_⟩:=m1.block;exact (aE q).1
 ·obtain ⟨es,cl,q',_⟩:=m1.block;obtain ⟨_,cs,t,hc,_⟩:=hS rb q;rw [hc] at q';cases q'
 ·obtain ⟨_,cs,t,hc,ht⟩:=hS _ q;obtain ⟨_,_,cs',hc'⟩:=(m2 e' he).cells;rw [hc] at hc';injection hc' with hc'
  injection hc' with h1 h2 _
  rcases ht with ht | ht
  ·exact ht h2
  ·obtain ⟨r0,_,y0,y1,y2⟩:=(m2 e' he).get (i:=1) (by omega);rw [cell_of_row _ _ _ _ _ _ hc,Array.getElem?_eq_none (by omega)] at y0;cases y0
abbrev rtC (PA:Option Addr) (pn pc:Nat) (WA:Option Addr) (n wc:Nat) (r:Fr):Array Value:=#[.slice PA pn pc,.slice WA n wc,.bool r.neg,.slice r.A r.N.length r.c,.slice r.B r.D.length r.d]
structure RtS (U:World) (p:GrP) (base gb rb fb fn k5 k6:Nat) (PA:Option Addr) (pn pc:Nat) (t:Int) (h:K4) (ws:List Int) (WA:Option Addr) (wc:Nat) (r:Fr) (q:Rat) (u:World):Prop where
 gi:GrI u p base gb rb fb fn
 kp:KpC U u
 bl:Below base U u
 rt:u.heap[k5]? = some (.cells (rtC PA pn pc WA ws.length wc r) 60 (0,0))
 fq:Fq u r q
 own:u.ownsRow U.heap.size 3 1 (.slice WA ws.length wc) ws.length (ics ws)
 all:∀ g,(Value.slice WA ws.length wc).ownBlock = some g -> AllC Za u g
 sp:u.heap[k6]? = some (.cells (Zg3 t h) 129 (0,0))
 le:base <= U.heap.size /\ U.heap.size <= k5 /\ U.heap.size <= k6 /\ gb < U.heap.size
 ok:GrOk U p
section
variable {U u u':World} {p:GrP} {base gb rb fb fn k5 k6:Nat} {PA:Option Addr} {pn pc:Nat} {t:Int} {h:K4} {ws:List Int} {WA:Option Addr} {wc:Nat} {r:Fr} {q:Rat}
theorem RtS.say (s:RtS U p base gb rb fb fn k5 k6 PA pn pc t h ws WA wc r q u) (h1:GrI u' p base gb rb fb fn) (h2:KpC u u') (h3:Below base u u'):RtS U p base gb rb fb fn k5 k6 PA pn pc t h ws WA wc r q u':=
 ⟨h1,s.kp.trans h2,s.bl.trans h3,h2.row _ _ _ _ s.rt,s.fq.kpc h2,Yw s.own (fun g hg=>by
  obtain ⟨cs,e,hc,_⟩:=s.all g hg;exact (h2.row _ _ _ _ hc).trans hc.symm),fun g hg=>(s.all g hg).block (by
  obtain ⟨cs,e,hc,_⟩:=s.all g hg;exact (h2.row _ _ _ _ hc).trans hc.symm),h2.row _ _ _ _ s.sp,s.le,s.ok⟩
theorem RtS.size (s:RtS U p base gb rb fb fn k5 k6 PA pn pc t h ws WA wc r q u):base <= u.heap.size:=by have:=s.kp.size;have:=s.le.1;omega
theorem RtS.below (s:RtS U p base gb rb fb fn k5 k6 PA pn pc t h ws WA wc r q u) (hb:Below u.heap.size u u'):RtS U p base gb rb fb fn k5 k6 PA pn pc t h ws WA wc r q u':=s.say (s.gi.below hb) (KpC.below hb) (hb.mono s.size)
theorem RtS.two (s:RtS U p base gb rb fb fn k5 k6 PA pn pc t h ws WA wc r q u) : 2 <= p.V:=s.ok.hV.1
theorem RtS.row {g:Nat} (s:RtS U p base gb rb fb fn k5 k6 PA pn pc t h ws WA wc r q u) (hg:(Value.slice WA ws.length wc).ownBlock = some g):U.heap.size <= g /\ g < u.heap.size /\ BT u g 3:=⟨(s.own.lt g hg).1,(s.own.lt g hg).2,BT.of_own s.own hg⟩
theorem RtS.ne56 (s:RtS U p base gb rb fb fn k5 k6 PA pn pc t h ws WA wc r q u):k5 ≠ k6:=fun e=>by
 have h1:=s.rt;rw [e,s.sp] at h1;injection h1 with h1
 injection h1 with _ h1 _
 exact absurd h1 (by decide)
theorem RtS.spot (s:RtS U p base gb rb fb fn k5 k6 PA pn pc t h ws WA wc r q u) (t':Int) (h':K4):RtS U p base gb rb fb fn k5 k6 PA pn pc t' h' ws WA wc r q (Zby u k6 (.int .i64 t') (.int .i64 h'.1) (.int .i64 h'.2.1) (.int .i64 h'.2.2.1) (.int .i64 h'.2.2.2)):=by
 obtain ⟨Z,hZ⟩:∃ Z,Z = Zby u k6 (.int .i64 t') (.int .i64 h'.1) (.int .i64 h'.2.1) (.int .i64 h'.2.2.1) (.int .i64 h'.2.2.2):=⟨_,rfl⟩;have hs:∀ b,b ≠ k6 -> Z.heap[b]? = u.heap[b]?:=fun b hb=>by rw [hZ];exact YM hb _ _ _ _ _
 have hz:u.heap.size <= Z.heap.size:=by rw [hZ,ZW];exact Nat.le_refl _
 have hu:KU u Z:=by rw [hZ];exact ZbT s.sp _ _ _ _ _
 have hl:=s.le;have hK:KpC U Z:=s.kp.only hz (fun b hb=>hs b (by omega));have hrow:∀ g,(Value.slice WA ws.length wc).ownBlock = some g -> Z.heap[g]? = u.heap[g]?:=fun g hg=>hs g ((s.row hg).2.2.ne ⟨_,_,s.sp⟩ (by decide));have hsp:Z.heap[k6]? = some (.cells (Zg3 t' h') 129 (0,0)):=by rw [hZ];exact Q7 s.sp _ _ _ _ _
 have hbl:Below base U Z:=by rw [hZ];exact VH s.bl (by omega) _ _ _ _ _
 rw [<- hZ];exact ⟨s.gi.keep s.ok hK hu s.two (fun b=>b = k6) (fun b _ hb=>hs b hb) (fun b hb=>by
  subst hb;exact ⟨by omega,_,_,s.sp,.inl (by decide)⟩),hK,hbl,(hs _ s.ne56).trans s.rt,s.fq.ku hu,Yw s.own hrow,fun g hg=>(s.all g hg).block (hrow g hg),hsp,s.le,s.ok⟩
theorem RtS.box {k9:Nat} {x y:Fr} (s:RtS U p base gb rb fb fn k5 k6 PA pn pc t h ws WA wc r q u) (hx:Fb u k9 x) (h9:U.heap.size <= k9):RtS U p base gb rb fb fn k5 k6 PA pn pc t h ws WA wc r q (((u.setCell ⟨k9,0,none⟩ (.bool y.neg)).setCell ⟨k9,1,none⟩ (.slice y.A y.N.length y.c)).setCell ⟨k9,2,none⟩ (.slice y.B y.D.length y.d)):=by
 obtain ⟨Z,hZ⟩:∃ Z,Z = ((u.setCell ⟨k9,0,none⟩ (.bool y.neg)).setCell ⟨k9,1,none⟩ (.slice y.A y.N.length y.c)).setCell ⟨k9,2,none⟩ (.slice y.B y.D.length y.d):=⟨_,rfl⟩;have hs:∀ b,b ≠ k9 -> Z.heap[b]? = u.heap[b]?:=fun b hb=>by rw [hZ];exact JR hb _ _ _
 have hz:u.heap.size <= Z.heap.size:=by rw [hZ];simp [World.setCell]
 have hl:=s.le;have hbt:BT u k9 31:=⟨_,_,hx⟩;have hu:KU u Z:=by
  rw [hZ];obtain ⟨q0,q1,q2,-,-,-⟩:=hx.facts;refine ((KU.set q0 (by simp [Za]) _).trans (KU.set (v0:=.slice x.A x.N.length x.c) ?_ (by simp [Za]) _)).trans (KU.set (v0:=.slice x.B x.D.length x.d) ?_ (by simp [Za]) _)
  ·rw [World.cell?_setCell_other _ _ _ _ (by simp)];exact q1
  ·rw [World.cell?_setCell_other _ _ _ _ (by simp),World.cell?_setCell_other _ _ _ _ (by simp)];exact q2
 have hK:KpC U Z:=s.kp.only hz (fun b hb=>hs b (by omega));have hrow:∀ g,(Value.slice WA ws.length wc).ownBlock = some g -> Z.heap[g]? = u.heap[g]?:=fun g hg=>hs g ((s.row hg).2.2.ne hbt (by decide));have hbl:Below base U Z:=by rw [hZ];exact Jf s.bl (by omega) _ _ _
 rw [<- hZ];exact ⟨s.gi.keep s.ok hK hu s.two (fun b=>b = k9) (fun b _ hb=>hs b hb) (fun b hb=>by
  subst hb;exact ⟨by omega,_,_,hx,.inr rfl⟩),hK,hbl,(hs _ (BT.ne (e:=60) ⟨_,_,s.rt⟩ hbt (by decide))).trans s.rt,s.fq.ku hu,Yw s.own hrow,fun g hg=>(s.all g hg).block (hrow g hg),(hs _ (BT.ne (e:=129) ⟨_,_,s.sp⟩ hbt (by decide))).trans s.sp,s.le,s.ok⟩
theorem RtS.frac {y:Fr} {q':Rat} (s:RtS U p base gb rb fb fn k5 k6 PA pn pc t h ws WA wc r q u) (hy:Fq u y q'):RtS U p base gb rb fb fn k5 k6 PA pn pc t h ws WA wc y q' (((u.setCell ⟨k5,2,none⟩ (.bool y.neg)).setCell ⟨k5,3,none⟩ (.slice y.A y.N.length y.c)).setCell ⟨k5,4,none⟩ (.slice y.B y.D.length y.d)):=by
 obtain ⟨Z,hZ⟩:∃ Z,Z = ((u.setCell ⟨k5,2,none⟩ (.bool y.neg)).setCell ⟨k5,3,none⟩ (.slice y.A y.N.length y.c)).setCell ⟨k5,4,none⟩ (.slice y.B y.D.length y.d):=⟨_,rfl⟩;have hs:∀ b,b ≠ k5 -> Z.heap[b]? = u.heap[b]?:=fun b hb=>by rw [hZ,Below.heap_setCell _ _ _ _ hb,Below.heap_setCell _ _ _ _ hb,Below.heap_setCell _ _ _ _ hb]
 have hz:u.heap.size <= Z.heap.size:=by rw [hZ];simp [World.setCell]
 have hl:=s.le;have hbt:BT u k5 60:=⟨_,_,s.rt⟩;have hu:KU u Z:=by
  rw [hZ];obtain ⟨-,-,q0,q1,q2⟩:=Ym s.rt;refine ((KU.set q0 (by simp [Za]) _).trans (KU.set (v0:=.slice r.A r.N.length r.c) ?_ (by simp [Za]) _)).trans (KU.set (v0:=.slice r.B r.D.length r.d) ?_ (by simp [Za]) _)
  ·rw [World.cell?_setCell_other _ _ _ _ (by simp)];exact q1
  ·rw [World.cell?_setCell_other _ _ _ _ (by simp),World.cell?_setCell_other _ _ _ _ (by simp)];exact q2
 have hK:KpC U Z:=s.kp.only hz (fun b hb=>hs b (by omega));have hrow:∀ g,(Value.slice WA ws.length wc).ownBlock = some g -> Z.heap[g]? = u.heap[g]?:=fun g hg=>hs g ((s.row hg).2.2.ne hbt (by decide));have hrt:Z.heap[k5]? = some (.cells (rtC PA pn pc WA ws.length wc y) 60 (0,0)):=by rw [hZ];exact (JT (JT (JT s.rt 2 _) 3 _) 4 _).trans rfl
 have hbl:Below base U Z:=by rw [hZ];exact ((s.bl.setCell (by simp;omega) _).setCell (by simp;omega) _).setCell (by simp;omega) _
 rw [<- hZ];exact ⟨s.gi.keep s.ok hK hu s.two (fun b=>b = k5) (fun b _ hb=>hs b hb) (fun b hb=>by
  subst hb;exact ⟨by omega,_,_,s.rt,.inl (by decide)⟩),hK,hbl,hrt,hy.ku hu,Yw s.own hrow,fun g hg=>(s.all g hg).block (hrow g hg),(hs _ (Ne.symm s.ne56)).trans s.sp,s.le,s.ok⟩
theorem RtS.word (s:RtS U p base gb rb fb fn k5 k6 PA pn pc t h ws WA wc r q u) (x:Int) (hn:ws.length <= 100000) :
  ∃ A' c' u',(Builtin.append_ #[35,35] 35 #[.slice WA ws.length wc,.slice (some ⟨u.heap.size,0,none⟩) 1 1]).run Tryz.prog (u.alloc (.cells #[.int .i64 x] 3)) = .ok (.slice A' (ws.length + 1) c') u' /\ u'.frozen? ⟨k5,1,none⟩ = false /\ u'.cell? ⟨k5,1,none⟩ = some (.slice WA ws.length wc) /\ KpC U u' /\
   RtS U p base gb rb fb fn k5 k6 PA pn pc t h (ws ++ [x]) A' c' r q (u'.setCell ⟨k5,1,none⟩ (.slice A' (ws.length + 1) c')):=by
 have hl:=s.le;have hks:=s.kp.size;obtain ⟨A',c',u',h1,h2,h3,h4,h5,h6,h7⟩:=ZaR u U.heap.size WA wc ws.length ws x rfl s.own s.all (by omega) hn;have n5:(Value.slice WA ws.length wc).ownBlock ≠ some k5:=fun e=>(s.row e).2.2.ne ⟨_,_,s.rt⟩ (by decide) rfl;have n6:(Value.slice WA ws.length wc).ownBlock ≠ some k6:=fun e=>(s.row e).2.2.ne ⟨_,_,s.sp⟩ (by decide) rfl;have l5:k5 < u.heap.size:=(aE s.rt).1;have l6:k6 < u.heap.size:=(aE s.sp).1;have r5:=(h5 k5 l5 n5).trans s.rt;have r6:=(h5 k6 l6 n6).trans s.sp;refine ⟨A',c',u',h1,Jl r5 1,(cR 1 r5).trans rfl,s.kp.only h6 (fun b hb=>h5 b (by omega) (fun e=>by have:=(s.row e).1;omega)),?_⟩;obtain ⟨Z,hZ⟩:∃ Z,Z = u'.setCell ⟨k5,1,none⟩ (.slice A' (ws.length + 1) c'):=⟨_,rfl⟩;have hs:∀ b,b ≠ k5 -> Z.heap[b]? = u'.heap[b]?:=fun b hb=>by rw [hZ,Below.heap_setCell _ _ _ _ hb]
 have hz:u'.heap.size <= Z.heap.size:=by rw [hZ];simp [World.setCell]
 have hu:KU u Z:=by
  rw [hZ];exact h4.trans (KU.set (v0:=.slice WA ws.length wc) ((cR 1 r5).trans rfl) (by simp [Za]) _)
 have hsu:∀ b,b < u.heap.size -> ¬ (b = k5 ∨ (Value.slice WA ws.length wc).ownBlock = some b) -> Z.heap[b]? = u.heap[b]?:=fun b hb hn'=>(hs b (fun e=>hn' (.inl e))).trans (h5 b hb (fun e=>hn' (.inr e)));have hK:KpC U Z:=s.kp.only (tR h6 hz) (fun b hb=>hsu b (by omega) (by
  rintro (e | e)
  ·omega
  ·have:=(s.row e).1;omega))
 have hrow:∀ g,(Value.slice A' (ws.length + 1) c').ownBlock = some g -> Z.heap[g]? = u'.heap[g]?:=fun g hg=>hs g ((BT.of_own h2 hg).ne ⟨_,_,r5⟩ (by decide));have hrt:Z.heap[k5]? = some (.cells (rtC PA pn pc A' (ws.length + 1) c' r) 60 (0,0)):=by rw [hZ];exact (JT r5 1 _).trans rfl
 have hbl:Below base U Z:=by rw [hZ];exact (s.bl.trans (h7.mono hl.1)).setCell (by simp;omega) _
 have e9:(ws ++ [x]).length = ws.length + 1:=by simp
 rw [<- hZ];refine ⟨s.gi.keep s.ok hK hu s.two _ hsu (fun b hb=>?_),hK,hbl,by rw [e9];exact hrt,s.fq.ku hu,by rw [e9];exact Yw h2 hrow,fun g hg=>?_,(hs _ (Ne.symm s.ne56)).trans r6,s.le,s.ok⟩
 ·rcases hb with rfl | hb
  ·exact ⟨by omega,_,_,s.rt,.inl (by decide)⟩
  ·have y1:=(s.row hb).1;rcases s.own.2 with ⟨e,_⟩ | ⟨g,cap,cur,e,_,hc,_⟩
   ·rw [e] at hb;cases hb
   ·rw [e] at hb;injection hb with hb
    subst hb;exact ⟨by omega,cur,_,hc,.inl (by decide)⟩
 ·rw [e9] at hg;exact (h3 g hg).block (hrow g hg)
theorem RtS.ret {w:World} {k4:Nat} {r0:Fr} (s:RtS U p base gb rb fb fn k5 k6 PA pn pc t h ws WA wc r q u) (h4:u.heap[k4]? = some (.cells (rtC none 0 0 none 0 0 r0) 60 (0,0))) (ho:GrOk w p) (hw:KpC w U) (hb:Below base w U) (hl:w.heap.size <= k4 /\ gb < w.heap.size /\ base <= w.heap.size) {Z:World} (hZ:Z = Zby u k4 (.slice PA pn pc) (.slice WA ws.length wc) (.bool r.neg) (.slice r.A r.N.length r.c) (.slice r.B r.D.length r.d)) :
  Z.heap[k4]? = some (.cells (rtC PA pn pc WA ws.length wc r) 60 (0,0)) /\ GrI Z p base gb rb fb fn /\ KpC w Z /\ Below base w Z /\ Fq Z r q /\ Lies Z WA (ics ws):=by
 have hs:∀ b,b ≠ k4 -> Z.heap[b]? = u.heap[b]?:=fun b hb=>by rw [hZ];exact YM hb _ _ _ _ _
 have hz:u.heap.size <= Z.heap.size:=by rw [hZ,ZW];exact Nat.le_refl _
 have hbt:BT u k4 60:=⟨_,_,h4⟩;have hu:KU u Z:=by
  rw [hZ];obtain ⟨q0,q1,q2,q3,q4⟩:=Ym h4;unfold Zby;refine ((((KU.set q0 (by simp [Za]) _).trans (KU.set (v0:=.slice none 0 0) ?_ (by simp [Za]) _)).trans (KU.set (v0:=.bool r0.neg) ?_ (by simp [Za]) _)).trans (KU.set (v0:=.slice r0.A r0.N.length r0.c) ?_ (by simp [Za]) _)).trans (KU.set (v0:=.slice r0.B r0.D.length r0.d) ?_ (by simp [Za]) _)
  ·rw [World.cell?_setCell_other _ _ _ _ (by simp)];exact q1
  ·rw [World.cell?_setCell_other _ _ _ _ (by simp),World.cell?_setCell_other _ _ _ _ (by simp)];exact q2
  ·rw [World.cell?_setCell_other _ _ _ _ (by simp),World.cell?_setCell_other _ _ _ _ (by simp),World.cell?_setCell_other _ _ _ _ (by simp)];exact q3
  ·rw [World.cell?_setCell_other _ _ _ _ (by simp),World.cell?_setCell_other _ _ _ _ (by simp),World.cell?_setCell_other _ _ _ _ (by simp),World.cell?_setCell_other _ _ _ _ (by simp)];exact q4
 have hK:KpC w Z:=(hw.trans s.kp).only hz (fun b hb=>hs b (by omega));have hrow:∀ g,(Value.slice WA ws.length wc).ownBlock = some g -> Z.heap[g]? = u.heap[g]?:=fun g hg=>hs g ((s.row hg).2.2.ne hbt (by decide));refine ⟨by rw [hZ];exact Q7 h4 _ _ _ _ _,s.gi.keep ho hK hu s.two (fun b=>b = k4) (fun b _ hb=>hs b hb) (fun b hb=>?_),hK,by rw [hZ];exact VH (hb.trans s.bl) (by omega) _ _ _ _ _,s.fq.ku hu,Lies.of_own (Yw s.own hrow)⟩;subst hb;exact ⟨by omega,_,_,h4,.inl (by decide)⟩
end
end Go.Proofs.YtlgdlenoohkipaaGreat
