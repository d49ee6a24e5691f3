/- TopLearned -/
import Derived.Test.YtlgdlenoohkipaaGreatMTearn18
import Derived.Maps.OwnIn
set_option maxRecDepth 100000
set_option maxHeartbeats 32000000
namespace Go.Proofs.YtlgdlenoohkipaaGreat
open Go.RowKit Ear
attribute [local go_sem] Oper.semAt_some

structure KpC (W W':World):Prop where
 size:W.heap.size <= W'.heap.size
 row:∀ (b:Nat) (cs:Array Value) (t:TypeId) (fr:Nat × Nat),W.heap[b]? = some (Obj.cells cs t fr) -> W'.heap[b]? = some (Obj.cells cs t fr)
theorem KpC.refl (W:World):KpC W W:=⟨Nat.le_refl _,fun _ _ _ _ h=>h⟩
theorem KpC.trans {A B C:World} (h:KpC A B) (k:KpC B C):KpC A C:=⟨tR h.size k.size,fun b cs t fr e=>k.row b cs t fr (h.row b cs t fr e)⟩
theorem KpC.below {W W':World} (h:Below W.heap.size W W'):KpC W W':=⟨h.size,fun b _ _ _ e=>(h.block b (aE e).1).trans e⟩
set_option linter.unusedVariables false in
theorem KpC.put (W:World) (l:Nat) (o o':Obj) (hl:W.heap[l]? = some o) (hc:∀ (cs:Array Value) (t:TypeId) (fr:Nat × Nat),o ≠ Obj.cells cs t fr):KpC W (W.putObj l o'):=
 ⟨by simp,fun b cs t fr e=>(World.putObj_heap_other (by rintro rfl;rw [hl] at e;cases e;exact hc _ _ _ rfl)).trans e⟩
theorem QM {W:World} {b o:Nat} {v:Value} (h:W.cell? ⟨b,o,none⟩ = some v):∃ cs t fr,W.heap[b]? = some (Obj.cells cs t fr):=by
 unfold World.cell? at h;split at h
 ·rename_i e;exact ⟨_,_,_,e⟩
 ·cases h
theorem JW {W:World} {b o:Nat} {v:Value} (h:W.cell? ⟨b,o,none⟩ = some v):b < W.heap.size:=by
 obtain ⟨cs,t,fr,e⟩:=QM h;exact (aE e).1
theorem KpC.cell {W W':World} (h:KpC W W') {b o:Nat} {v:Value} (hv:W.cell? ⟨b,o,none⟩ = some v):W'.cell? ⟨b,o,none⟩ = some v:=by
 obtain ⟨cs,t,fr,e⟩:=QM hv;rw [<- hv];exact World.cell?_of_block (a:=⟨b,o,none⟩) ((h.row b cs t fr e).trans e.symm)
theorem KpC.lies {W W':World} (h:KpC W W') {A:Option Addr} {xs:List Value} (hl:Lies W A xs):Lies W' A xs:=fun h0=>by
 obtain ⟨b,off,e,hlt,hc⟩:=hl h0;exact ⟨b,off,e,Nat.lt_of_lt_of_le hlt h.size,fun k u hu=>h.cell (hc k u hu)⟩
def GmX (o:Nat) (s:List Int) (k:Nat) (v:Value) (W:World):Prop:=∃ A,v = .slice A o o /\ Lies W A (ics (Jt o s k))
theorem Zf7 (g n c f t:Nat) (h1:f < t) (h2:t <= c) (w:World) :
  (Instr.slice 35 (.slice (some ⟨g,0,none⟩) n c) (some (.int .i64 f)) (some (.int .i64 t)) (some (.int .i64 t))).run Tryz.prog w = .ok (.slice (some ⟨g,f,none⟩) (t - f) (t - f)) w:=by
 have e1:(f:Int) <= (t:Int):=by omega
 have e2:(t:Int) <= (c:Int):=by omega
 have e0:Tryz.prog.elem 35 = 3:=by kernel_rfl
 rw [run_slice_lhm (t:=35) (a:=some ⟨g,0,none⟩) (len:=n) (cap:=c) (ht:=by rw [e0];exact Tryz.underlying35) (kl:=.i64) (kh:=.i64) (km:=.i64) (l:=f) (h:=t) (m:=t) (h0:=by omega) (h1:=e1) (h2:=Int.le_refl _) (h3:=e2),e0];have hs:(sizeOf 3).run Tryz.prog w = .ok 1 w:=by kernel_rfl
 rw [hs];have h4:¬ t = f:=by omega
 by_cases h5:f = 0
 ·subst h5;simp [Result.andThen,sliced,Addr.add,h4]
 ·simp [Result.andThen,sliced,Addr.add,h4,h5]
theorem Lies.cut3 {w:World} {g:Nat} {l:List Int} {f o:Nat} (h:Lies w (some ⟨g,0,none⟩) (ics l)) (h1:f + o <= l.length):Lies w (some ⟨g,f,none⟩) (ics ((l.drop f).take o)):=fun h0=>by
 simp only [List.length_map,List.length_take,List.length_drop] at h0;obtain ⟨b,off,e,hb,hc⟩:=h (by simp;omega);cases e;refine ⟨g,f,rfl,hb,fun k u hu=>?_⟩;have:=hc (f + k) u (by
  simp only [ics,List.getElem?_map,List.getElem?_take,List.getElem?_drop] at hu ⊢;split at hu
  ·exact hu
  ·simp at hu)
 simpa using this
theorem Zfe (o:Int) (A:Option Addr) (n c:Nat) (w:World) :
  Calls Tryz.prog 88 #[.int .i64 o,.slice A n c] w fun e w'=>e = .returned (.func (.func 140) #[] #[.pointer (some ⟨w.heap.size,0,none⟩),.pointer (some ⟨w.heap.size + 1,0,none⟩)]) /\ w' = (w.alloc (.cells #[.int .i64 o] 3)).alloc (.cells #[.slice A n c] 35):=by
 go_enter Tryz.func88,Tryz.ntmps88;go_wp2_with fail;go_ret;exact ⟨rfl,rfl⟩
theorem Zff (l bO bS:Nat) (A:Option Addr) (c:Nat) (s:List Int) (o:Nat) (ho1 : 1 <= o) (ho2:o <= 4) (hs:s.length <= 500) (hn:A = none -> c = 0)
  (J:Nat -> World -> Prop) (hJb:∀ k W W',J k W -> Below W.heap.size W W' -> J k W')
  (hY:Hid (∀ k v W,J k W -> GmX o s k v W -> k < s.length + 1 -> YieldAt Fence.wide 7 Tryz.prog l #[v] W (fun e W'=>e = .returned (.bool true) /\ J (k + 1) W' /\ KpC W W')))
  (W:World) (cO:W.cell? ⟨bO,0,none⟩ = some (.int .i64 o)) (cS:W.cell? ⟨bS,0,none⟩ = some (.slice A s.length c)) (hL:Lies W A (ics s)) (h0:J 0 W) :
  CallsIn Fence.wide 8 Tryz.prog 140 #[.func (.yield l) #[] #[],.pointer (some ⟨bO,0,none⟩),.pointer (some ⟨bS,0,none⟩)] W (fun e W'=>(∃ v,e = .returned v) /\ J (s.length + 1) W'):=by
 obtain ⟨i0,hi0,hz0,hz1,hz2⟩:=info_parts Yz;have TI:=zH hi0;have TZ0:=zH hz0;have TZ1:=zH hz1;have TZ2:=zH hz2;clear hi0 hz0 hz1 hz2;have HL:=zH hL;have HJB:=zH hJb;have HJD:Hid (J 0 W.drew):=zH (hJb 0 W _ h0 ⟨rfl,rfl,rfl,Nat.le_refl _,fun _ _=>rfl⟩);have hbO:bO < W.heap.size:=JW cO;have hbS:bS < W.heap.size:=JW cS;clear hL h0 hJb;obtain ⟨p,hp⟩:∃ p,p = o - 1:=⟨_,rfl⟩;have p1:IntKind.i64.wrap ((o:Int) - 1) = (p:Int):=by rw [IntWalk.i64_in _ (by omega)];omega
 have HP:=zH hp;have hp4:p <= 3:=by omega
 clear hp;obtain ⟨w1,hmk,ho1',hb1⟩:=Za4 W.drew p (by omega) W.heap.size nR;refine callsIn_of_wp Tryz.func140 rfl trivial ?_ rfl;simp only [Tryz.ntmps140,List.size_toArray,List.length_cons,List.length_nil,Nat.reduceAdd,Nat.reduceSub,Array.replicate_succ,Array.replicate_zero,List.push_toArray,List.append_toArray,List.nil_append,List.cons_append]
 gi_wp2
 have SA:Hid (W.drew.cell? ⟨bO,0,none⟩ = some (.int .i64 o) /\ W.drew.cell? ⟨bS,0,none⟩ = some (.slice A s.length c)):=zH ⟨cO,cS⟩;have SB:Hid (w1.cell? ⟨bO,0,none⟩ = some (.int .i64 o) /\ w1.cell? ⟨bS,0,none⟩ = some (.slice A s.length c)):=zH ⟨(hb1.cell (p:=⟨bO,0,none⟩) hbO).trans cO,(hb1.cell (p:=⟨bS,0,none⟩) hbS).trans cS⟩;have HO1:=zH ho1';have HB1:=zH hb1;have HL1:Hid (Lies w1 A (ics s)):=zH (HL.out.below (JF hb1));clear ho1' hb1;refine wpIn_wide.2 ?_;go_region_held3 (fun w'=>w'.cell? ⟨bO,0,none⟩ = some (.int .i64 o) /\ w'.cell? ⟨bS,0,none⟩ = some (.slice A s.length c))
  (first | exact SA.out | exact SB.out | exact SC.out)
  (first | (refine Ux _ (by rfl) (.tmp 8) (.tmp 9) _ (by rfl) W.heap.size 3 i0 _ 1 8 Tryz.underlying35 TI.out TZ0.out TZ1.out TZ2.out rfl (by omega) (.slice (some ⟨W.drew.heap.size,0,none⟩) p p) p (ics (List.replicate p 0)) (by rfl) HO1.out A s.length c (ics s) (by rfl) hn HL1.out (by simp) (UO _) (by unfold maxLen;omega) (by omega) HB1.out.size (p + s.length) rfl ?_;intro Ab cb wb hob hgb hat;have BB:=zH (HB1.out.grown hgb HB1.out.size (fun k hk=>(HO1.out.lt k hk).1));have SC:Hid (wb.cell? ⟨bO,0,none⟩ = some (.int .i64 o) /\ wb.cell? ⟨bS,0,none⟩ = some (.slice A s.length c)):=zH ⟨(BB.out.cell (p:=⟨bO,0,none⟩) hbO).trans cO,(BB.out.cell (p:=⟨bS,0,none⟩) hbS).trans cS⟩))
 have HOB:Hid (wb.ownsRow W.heap.size 3 1 (.slice Ab (p + s.length) cb) (p + s.length) (ics (List.replicate p 0 ++ s))):=zH (by rw [YP];exact hob);clear hob hgb hat SB SA HL1 HO1 hmk;have hWb:W.heap.size <= wb.heap.size:=BB.out.size
 gi_wp2_with (gi_at_builtin;refine wpListIn_append_own_at _ rfl (.tmp 11) (.tmp 12) _ rfl W.heap.size 3 i0 _ 1 8 Tryz.underlying35 TI.out TZ0.out TZ1.out TZ2.out rfl (by omega) (.slice Ab (p + s.length) cb) (p + s.length) (ics (List.replicate p 0 ++ s)) rfl (HOB.out.alloc _) ⟨wb.heap.size,0,none⟩ 1 1 [.int .i64 0] rfl (by simp) (cell_one_new _ _ _) (by simp [Value.oneCell']) (by unfold maxLen;omega) (by omega) (by simp;omega) ?_;intro v' w4 ho4 hg4 _ _;obtain ⟨A4,c4,rfl⟩:=Yg ho4)
 have HO4:Hid (w4.ownsRow W.heap.size 3 1 (.slice A4 (p + s.length + 1) c4) (p + s.length + 1) (ics (YE o s))):=zH (by
  have e:YE o s = (List.replicate p 0 ++ s) ++ [0]:=by unfold YE;rw [HP.out]
  rw [e,YP];exact ho4)
 have B4:Hid (Below W.heap.size W w4):=zH (JF (((BB.out.alloc BB.out.size _).grown hg4 (by simp;omega) (fun k hk=>((HOB.out.alloc (.cells #[.int .i64 0] 3)).lt k hk).1))));obtain ⟨g,cap,hv',hgg,hglt⟩:=HO4.out.form (by omega);obtain rfl:A4 = some ⟨g,0,none⟩:=by injection hv'
 clear hv' cap ho4 hg4 HOB BB;have HFL:Hid ((YE o s).length = p + s.length + 1):=zH (by rw [Zc ho1];have:=HP.out;omega);have HLA:Hid (Lies w4 (some ⟨g,0,none⟩) (ics (YE o s))):=zH (Lies.of_own HO4.out);have HCAP:Hid (p + s.length + 1 <= c4):=zH (Zaa HO4.out);have HJ4:Hid (J 0 w4):=zH (HJB.out 0 W w4 (HJB.out 0 W.drew W HJD.out ⟨rfl,rfl,rfl,Nat.le_refl _,fun _ _=>rfl⟩) B4.out);have c4O:=(B4.out.cell (p:=⟨bO,0,none⟩) hbO).trans cO;have hoI:(1:Int) <= (o:Int):=by omega
 clear cO cS;have HpO:Hid (p + 1 = o):=zH (by have:=HP.out;omega)
 gi_loopw [5] (fun i wr=>∃ k:Nat,i = .int .i64 k /\ k <= s.length + 1 /\ Hid (J k wr) /\ Hid (KpC w4 wr)) (fun i _=>s.length + 1 - (intOf i).toNat)
 case atStart=>exact ⟨0,rfl,by omega,HJ4,zH (KpC.refl _)⟩
 case round=>
  obtain ⟨k,rfl,hk,hJ,hK⟩:=hrel;clear HJ4;have wO:=hK.out.cell c4O;have hpo:=HpO.out;by_cases hlt:k < s.length + 1
  ·have h1:(k:Int) + (o:Int) <= (p:Int) + (s.length:Int) + 1:=by omega
   have h2:(k:Int) + (o:Int) <= 9223372036854775807:=(by omega);have HLk:Hid (Lies wr (some ⟨g,k,none⟩) (ics (Jt o s k))):=zH (by
    unfold Jt;exact (hK.out.lies HLA.out).cut3 (by rw [HFL.out];omega))
   have hcut:∀ W,(Instr.slice 35 (.slice (some ⟨g,0,none⟩) (p + s.length + 1) c4) (some (.int .i64 (k:Int))) (some (.int .i64 ((k:Int) + (o:Int)))) (some (.int .i64 ((k:Int) + (o:Int))))).run Tryz.prog W = .ok (.slice (some ⟨g,k,none⟩) o o) W:=fun W=>by
    have:=Zf7 g (p + s.length + 1) c4 k (k + o) (by omega) (by have:=HCAP.out;omega) W;rw [Int.natCast_add] at this;rw [this];simp
   obtain ⟨fn,tmps,assign,body,hy,hR⟩:=hY.out k _ wr hJ.out ⟨some ⟨g,k,none⟩,rfl,HLk.out⟩ hlt;have HR:=zH hR;clear hR hpo
   gi_wp2
   refine HR.out.mono ?_;rintro e W3 ⟨rfl,hJ3,hk3⟩;have K3:=zH (hK.out.trans hk3);have HJ3:=zH hJ3;clear HR hJ3 hk3 hy
   gi_wp2
   go_roundw
   case rel=>exact ⟨k + 1,by go_num,by omega,HJ3,K3⟩
   case measure=>simp [intOf];omega
  ·obtain rfl:k = s.length + 1:=by omega
   have h1:¬ ((s.length:Int) + 1 + (o:Int) <= (p:Int) + (s.length:Int) + 1):=(by omega);clear hpo
   gi_wp2
   go_end0
   exact ⟨⟨_,rfl⟩,hJ.out⟩
end Go.Proofs.YtlgdlenoohkipaaGreat
namespace Go
section
variable {P:Program} {ops:Array Oper} {Q:Exit -> Act -> World -> Prop}
structure Sl2 (ops:Array Oper) (a:Act) (G:Nat -> Array Value -> World -> Prop) (listed:Array Bool) (b:Act) (u:World):Prop where
 size:b.tmps.size = a.tmps.size
 defers:b.defers = a.defers
 lsize:listed.size = ops.size
 closed:∀ j o,ops[j]? = some o -> listed.getD j false = true -> ∀ k,o.waits k = true -> listed.getD k false = true
 same:∀ k,(∀ j o,ops[j]? = some o -> o.dst = some k -> listed.getD j false = false) -> b.tmps.getD k undef = a.tmps.getD k undef
 slot:∀ j o,ops[j]? = some o -> listed.getD j false = true -> G j b.tmps u
def Region.refB (ops:Array Oper) (R:Nat -> List Nat):Bool:=(List.range ops.size).all fun j=>(R j).all fun k=>(List.range ops.size).all fun i=>match ops[i]?,ops[j]? with
 | some o,some o'=>o.dst != some k || i == j || o'.waits i
 | _,_=>true
theorem ZiS {R:Nat -> List Nat} (hR:Region.refB ops R = true) {j i k:Nat} {o' o:Oper} (ho':ops[j]? = some o') (hk:k ∈ R j) (ho:ops[i]? = some o) (hd:o.dst = some k):i = j ∨ o'.waits i = true:=by
 have h1:=List.all_eq_true.1 hR j (List.mem_range.2 (Array.getElem?_eq_some_iff.1 ho').1);have h2:=List.all_eq_true.1 h1 k hk;have h3:=List.all_eq_true.1 h2 i (List.mem_range.2 (Array.getElem?_eq_some_iff.1 ho).1);simp only [ho,ho',hd,Bool.or_eq_true,bne_self_eq_false,beq_iff_eq] at h3;rcases h3 with (h | h) | h
 ·cases h
 ·exact .inl h
 ·exact .inr h
def ZfG (P:Program) (ops:Array Oper) (Q:Exit -> Act -> World -> Prop) (a:Act) (S:World -> Prop) (T:Nat -> World -> World -> Prop) (G:Nat -> Array Value -> World -> Prop) (i:Nat) (o:Oper):Prop:=
 ∀ (b:Act) (u:World),b.tmps.size = a.tmps.size -> S u -> (∀ j o',ops[j]? = some o' -> o.waits j = true -> G j b.tmps u) -> (∀ k,Region.keptB ops i k = true -> b.tmps.getD k undef = a.tmps.getD k undef) ->
  ∀ K:Act -> World -> Prop,(∀ v u',S u' -> T i u u' -> G i (b.put o.dst v).tmps u' -> K (b.put o.dst v) u') -> if Region.wanted o (yielded ops b.tmps) = true then o.wp P b u K Q else K (b.put o.dst undef) u
def YS (P:Program) (ops:Array Oper) (Q:Exit -> Act -> World -> Prop) (a:Act) (S:World -> Prop) (T:Nat -> World -> World -> Prop) (G:Nat -> Array Value -> World -> Prop):List Oper -> Nat -> Prop
 | [],_=>True
 | o :: l,i=>ZfG P ops Q a S T G i o /\ YS P ops Q a S T G l (i + 1)
theorem Zdk {a:Act} {S:World -> Prop} {T:Nat -> World -> World -> Prop} {G:Nat -> Array Value -> World -> Prop}:∀ (l:List Oper) (i:Nat),YS P ops Q a S T G l i -> ∀ k o,l[k]? = some o -> ZfG P ops Q a S T G (i + k) o:=by
 intro l
 induction l with
 | nil=>intro i _ k o h;simp at h
 | cons x l ih=>
  intro i h k o hk;cases k with
  | zero=>simp at hk;subst hk;exact h.1
  | succ k=>
   have:=ih (i + 1) h.2 k o (by simpa using hk)
   rwa [show i + 1 + k = i + (k + 1) by omega] at this
theorem ZaJ {a:Act} (N:Nat) (hN:a.tmps.size = N) (hB:Region.backB ops = true) (hD:Region.dstB ops N = true) (S:World -> Prop) (T:Nat -> World -> World -> Prop) (G:Nat -> Array Value -> World -> Prop)
  (R:Nat -> List Nat) (hR:Region.refB ops R = true) (hG:∀ i j t t' w w',i ≠ j -> (∀ k ∈ R j,t'.getD k undef = t.getD k undef) -> T i w w' -> G j t w -> G j t' w') (hs:YS P ops Q a S T G ops.toList 0)
  (hend:∀ b u,b.tmps.size = N -> b.defers = a.defers -> S u -> (∀ j o,ops[j]? = some o -> G j b.tmps u) -> (∀ k,Region.freeB ops k = true -> b.tmps.getD k undef = a.tmps.getD k undef) -> Q .normal b u) :
  ∀ (f:Nat) (listed:Array Bool) (b:Act) (u:World),S u -> Sl2 ops a G listed b u -> (f = 0 -> Region.ready .any ops listed = []) -> (listed.toList.countP (· == false) <= f) -> wpAny P .any ops Q f listed b u:=by
 have fin:∀ (listed:Array Bool) (b:Act) (u:World),S u -> Sl2 ops a G listed b u -> Region.ready .any ops listed = [] -> Q .normal b u:=by
  intro listed b u hS hSl hr;have hall:=Xt hB hSl.lsize hr;refine hend b u (hSl.size.trans hN) hSl.defers hS (fun j o ho=>hSl.slot j o ho (hall j (Array.getElem?_eq_some_iff.1 ho).1)) (fun k hk=>hSl.same k fun j o ho hd=>absurd hd (Region.freeB_of hk j o ho))
 intro f
 induction f with
 | zero=>intro listed b u hS hSl h0 _;exact ⟨h0 rfl,fin listed b u hS hSl (h0 rfl)⟩
 | succ f ih=>
  intro listed b u hS hSl _ hc;refine ⟨fin listed b u hS hSl,fun i hi=>?_⟩;have hlt:i < ops.size:=by
   unfold Region.ready at hi;exact List.mem_range.1 (List.mem_filter.1 hi).1
  have ho:ops[i]? = some ops[i]:=Array.getElem?_eq_getElem hlt;generalize ops[i] = o at ho;obtain ⟨_,hun,dp⟩:=(ZS ho).1 hi;have hli:i < listed.size:=by rw [hSl.lsize];exact hlt
  have hunf:listed.getD i false = false:=by
   rw [Array.getD_eq_getD_getElem?,Array.getElem?_eq_getElem hli] at hun ⊢;simpa using hun
  have dp':∀ j,o.waits j = true -> listed.getD j false = true:=by
   intro j hj;obtain ⟨e,he,hb⟩:=Array.any_eq_true'.1 hj;simp only [Bool.and_eq_true,beq_iff_eq] at hb;rw [<- hb.2];exact dp e he hb.1
  have step:=Zdk _ _ hs i o (by rw [Array.getElem?_toList];exact ho);rw [Nat.zero_add] at step;refine wpOp_step ho (fun K hK=>?_);refine step b u hSl.size hS (fun j o' ho' hw=>hSl.slot j o' ho' (dp' j hw)) (fun k hk=>hSl.same k fun j o' ho' hd'=>?_) K (fun v u' hS' hT' hG'=>?_)
  ·have h:=List.all_eq_true.1 hk j (List.mem_range.2 (Array.getElem?_eq_some_iff.1 ho').1);simp only [ho',hd',Bool.or_eq_true] at h;rcases h with h | h
   ·simp at h
   ·cases hlj:listed.getD j false with
    | false=>rfl
    | true=>have:=hSl.closed j o' ho' hlj i h;rw [hunf] at this;cases this
  ·refine hK _ _ (ih _ _ _ hS' ?_ ?_ ?_)
   ·have hput:∀ d,o.dst = some d -> d < b.tmps.size:=fun d hd=>by rw [hSl.size,hN];exact (QJ hD ho hd).1
    refine ⟨?_,?_,by simp [hSl.lsize],?_,?_,?_⟩
    ·unfold Act.put;cases o.dst <;> simp [hSl.size]
    ·unfold Act.put;cases o.dst <;> simp [hSl.defers]
    ·intro j o' ho' hl k hw;rw [Xb] at hl ⊢;rcases hl with ⟨rfl,_⟩ | hl
     ·rw [ho] at ho';cases ho';exact .inr (dp' k hw)
     ·exact .inr (hSl.closed j o' ho' hl k hw)
    ·intro k hk;have h1:listed.getD i false = false:=hunf;have hne:o.dst ≠ some k:=fun hd=>by
      have:=hk i o ho hd;have h2:(listed.setIfInBounds i true).getD i false = true:=Xb.2 (.inl ⟨rfl,hli⟩);rw [h2] at this;cases this
     have h3:=hSl.same k fun j o' ho' hd'=>by
      have:=hk j o' ho' hd';cases hlj:listed.getD j false with
      | false=>rfl
      | true=>rw [Xb.2 (.inr hlj)] at this;cases this
     rw [<- h3];unfold Act.put;cases hdd:o.dst with
     | none=>rfl
     | some d=>
      simp only;rw [J0 (hput d hdd),if_neg (fun e=>hne (by rw [hdd,e]))]
    ·intro j o' ho' hl;rw [Xb] at hl;by_cases hji:j = i
     ·subst hji;exact hG'
     ·have hl':listed.getD j false = true:=by
       rcases hl with ⟨e,_⟩ | hl
       ·exact absurd e hji
       ·exact hl
      refine hG i j _ _ _ _ (fun e=>hji e.symm) (fun k hk=>?_) hT' (hSl.slot j o' ho' hl');unfold Act.put;cases hdd:o.dst with
      | none=>rfl
      | some d=>
       simp only;rw [J0 (hput d hdd),if_neg];intro e2;subst e2;rcases ZiS hR ho' hk ho hdd with e | e
       ·exact hji e.symm
       ·have:=hSl.closed j o' ho' hl' i e;rw [hunf] at this;cases this
   ·intro hf;subst hf;have hz:(listed.setIfInBounds i true).toList.countP (· == false) = 0:=by
     have:=Xf listed.toList i (hx0 hli hunf);rw [Array.toList_setIfInBounds];omega
    rw [List.countP_eq_zero] at hz;unfold Region.ready;rw [List.filter_eq_nil_iff];intro j hj;rw [List.mem_range] at hj;have hjl:j < (listed.setIfInBounds i true).size:=(by simp [hSl.lsize];exact hj);have:=hz ((listed.setIfInBounds i true)[j]) (Array.mem_toList_iff.2 (Array.getElem_mem hjl));rw [Array.getD_eq_getD_getElem?,Array.getElem?_eq_getElem hjl];simp only [Option.getD_some];cases hv:(listed.setIfInBounds i true)[j] with
    | true=>simp
    | false=>rw [hv] at this;exact absurd rfl this
   ·have:=Xf listed.toList i (hx0 hli hunf);rw [Array.toList_setIfInBounds];omega
theorem V8 {id:Nat} {a:Act} {w:World} (N:Nat) (hN:a.tmps.size = N) (hm:P.follows .mixedOrders = true) (hB:Region.backB ops = true) (hD:Region.dstB ops N = true) (S:World -> Prop) (T:Nat -> World -> World -> Prop) (G:Nat -> Array Value -> World -> Prop)
  (R:Nat -> List Nat) (hR:Region.refB ops R = true) (hG:∀ i j t t' w w',i ≠ j -> (∀ k ∈ R j,t'.getD k undef = t.getD k undef) -> T i w w' -> G j t w -> G j t' w') (hS:S w.drew) (hs:YS P ops Q a S T G ops.toList 0)
  (hend:∀ b u,b.tmps.size = N -> b.defers = a.defers -> S u -> (∀ j o,ops[j]? = some o -> G j b.tmps u) -> (∀ k,Region.freeB ops k = true -> b.tmps.getD k undef = a.tmps.getD k undef) -> Q .normal b u):(Code.region id ops true).wp P Q a w:=by
 refine wp_region_any hm ?_;refine ZaJ N hN hB hD S T G R hR hG hs hend _ _ _ _ hS ⟨rfl,rfl,by simp,?_,fun _ _=>rfl,?_⟩ ?_ ?_
 ·intro j o ho hl;rw [Array.getD_eq_getD_getElem?,Array.getElem?_replicate] at hl;split at hl <;> simp at hl
 ·intro j o ho hl;rw [Array.getD_eq_getD_getElem?,Array.getElem?_replicate] at hl;split at hl <;> simp at hl
 ·intro h0;unfold Region.ready;rw [h0];rfl
 ·simp only [Array.toList_replicate,List.countP_replicate];split <;> omega
def ZfF (P:Program) (ops:Array Oper) (Q:Exit -> Act -> World -> Prop) (a:Act) (S:World -> Prop) (TS:World -> World -> Prop) (G:Nat -> Value -> World -> Prop) (E:Array Value -> World -> Prop) (i:Nat) (o:Oper):Prop:=
 ∀ (b:Act) (u:World),S u -> (∀ j o',ops[j]? = some o' -> o.waits j = true -> G j (o'.left b) u) -> (∀ k,Region.keptB ops i k = true -> b.tmps.getD k undef = a.tmps.getD k undef) ->
  ∀ K:Act -> World -> Prop,(∀ v u',S u' -> TS u u' -> E b.tmps u' -> K (b.put o.dst v) u') -> if Region.wanted o (yielded ops b.tmps) = true then o.wp P b u K Q else K (b.put o.dst undef) u
def VT (P:Program) (ops:Array Oper) (Q:Exit -> Act -> World -> Prop) (a:Act) (S:World -> Prop) (T TS:World -> World -> Prop) (G:Nat -> Value -> World -> Prop) (E:Array Value -> World -> Prop):List Oper -> Nat -> Nat -> Prop
 | [],_,_=>True
 | o :: l,i,0=>ZfF P ops Q a S TS G E i o /\ Jj P ops Q a S T G l (i + 1)
 | o :: l,i,s + 1=>Zbs P ops Q a S T G i o /\ VT P ops Q a S T TS G E l (i + 1) s
theorem Zdl {a:Act} {S:World -> Prop} {T TS:World -> World -> Prop} {G:Nat -> Value -> World -> Prop} {E:Array Value -> World -> Prop}:∀ (l:List Oper) (i s:Nat),VT P ops Q a S T TS G E l i s -> ∀ k o,l[k]? = some o -> if k = s then ZfF P ops Q a S TS G E (i + k) o else Zbs P ops Q a S T G (i + k) o:=by
 intro l
 induction l with
 | nil=>intro i s _ k o h;simp at h
 | cons x l ih=>
  intro i s h k o hk;cases s with
  | zero=>
   cases k with
   | zero=>simp at hk;subst hk;exact h.1
   | succ k=>
    have:=ZaQ _ _ h.2 k o (by simpa using hk);rw [if_neg (by omega)]
    rwa [show i + 1 + k = i + (k + 1) by omega] at this
  | succ s=>
   cases k with
   | zero=>simp at hk;subst hk;exact h.1
   | succ k=>
    have:=ih (i + 1) s h.2 k o (by simpa using hk);rw [show i + 1 + k = i + (k + 1) by omega] at this;by_cases e:k = s
    ·rw [if_pos e] at this;rw [if_pos (by omega)];exact this
    ·rw [if_neg e] at this;rw [if_neg (by omega)];exact this
def Qu (ops:Array Oper) (j:Nat) (t:Array Value):Value:=match ops[j]? with
 | some o=>(match o.dst with | some d=>t.getD d undef | none=>undef)
 | none=>undef
def ZgN (ops:Array Oper) (j:Nat):List Nat:=match ops[j]? with
 | some o=>(match o.dst with | some d=>[d] | none=>[])
 | none=>[]
theorem ZD {j:Nat} {o:Oper} (ho:ops[j]? = some o) (b:Act):Qu ops j b.tmps = o.left b:=by
 unfold Qu Oper.left;simp only [ho];cases o.dst <;> rfl
theorem ZbP {j:Nat} {t t':Array Value} (h:∀ k ∈ ZgN ops j,t'.getD k undef = t.getD k undef):Qu ops j t' = Qu ops j t:=by
 unfold Qu ZgN at *
 cases ho:ops[j]? with
 | none=>rfl
 | some o=>
  simp only [ho] at h ⊢;cases hd:o.dst with
  | none=>rfl
  | some d=>simp only [hd] at h ⊢;exact h d (List.mem_singleton.2 rfl)
theorem Un {id:Nat} {a:Act} {w:World} (N s:Nat) (rs:List Nat) (hN:a.tmps.size = N) (hm:P.follows .mixedOrders = true) (hB:Region.backB ops = true) (hD:Region.dstB ops N = true)
  (hR:Region.refB ops (fun j=>if j = s then rs else ZgN ops j) = true) (hsd:(ops[s]?.map (fun o=>o.dst.isNone)).getD false = true) (S:World -> Prop) (T TS:World -> World -> Prop) (G:Nat -> Value -> World -> Prop) (E:Array Value -> World -> Prop)
  (hG:∀ j v w w',G j v w -> T w w' -> G j v w') (hG2:∀ j v w w',j ≠ s -> G j v w -> TS w w' -> G j v w') (hE:∀ t t' w w',(∀ k ∈ rs,t'.getD k undef = t.getD k undef) -> T w w' -> E t w -> E t' w')
  (hS:S w.drew) (hs:VT P ops Q a S T TS G E ops.toList 0 s) (hGs:∀ v u,G s v u)
  (hend:∀ b u,b.tmps.size = N -> b.defers = a.defers -> S u -> (∀ j o,ops[j]? = some o -> G j (o.left b) u) -> E b.tmps u -> (∀ k,Region.freeB ops k = true -> b.tmps.getD k undef = a.tmps.getD k undef) -> Q .normal b u):(Code.region id ops true).wp P Q a w:=by
 have hss:∃ o,ops[s]? = some o /\ o.dst = none:=by
  cases h:ops[s]? with
  | none=>rw [h] at hsd;simp at hsd
  | some o=>rw [h] at hsd;exact ⟨o,rfl,by simpa using hsd⟩
 have key:∀ (l:List Oper) (i:Nat),(∀ k o,l[k]? = some o -> if i + k = s then ZfF P ops Q a S TS G E (i + k) o else Zbs P ops Q a S T G (i + k) o) -> (∀ k o,l[k]? = some o -> ops[i + k]? = some o) ->
   YS P ops Q a S (fun i u u'=>if i = s then TS u u' else T u u') (fun j t u=>if j = s then E t u else G j (Qu ops j t) u) l i:=by
  intro l
  induction l with
  | nil=>intro i _ _;trivial
  | cons o l ih=>
   intro i h ho;refine ⟨?_,ih (i + 1) (fun k o' hk=>by have:=h (k + 1) o' (by simpa using hk);rwa [show i + (k + 1) = i + 1 + k by omega] at this) (fun k o' hk=>by have:=ho (k + 1) o' (by simpa using hk);rwa [show i + (k + 1) = i + 1 + k by omega] at this)⟩;have h0:=h 0 o rfl;have ho0:=ho 0 o rfl;rw [Nat.add_zero] at h0 ho0;intro b u hsz su dp kp K hK;have dp':∀ j o',ops[j]? = some o' -> o.waits j = true -> G j (o'.left b) u:=fun j o' hj hw=>by
    have:=dp j o' hj hw;by_cases e:j = s
    ·subst e;exact hGs _ _
    ·simp only [if_neg e] at this;rwa [ZD hj] at this
   by_cases e:i = s
   ·rw [if_pos e] at h0;obtain ⟨os,hos,hod⟩:=hss;rw [e] at ho0;rw [hos] at ho0;cases ho0;refine h0 b u su dp' kp K (fun v u' h1 h2 h3=>hK v u' h1 (by simp only [if_pos e];exact h2) ?_);simp only [if_pos e,hod];exact h3
   ·rw [if_neg e] at h0;refine h0 b u su dp' kp K (fun v u' h1 h2 h3=>hK v u' h1 (by simp only [if_neg e];exact h2) ?_);simp only [if_neg e];rw [ZD ho0];unfold Oper.left Act.put;cases hdd:o.dst with
    | none=>rw [hdd] at h3;simpa using h3
    | some d=>
     rw [hdd] at h3;simp only;rw [J0 (by rw [hsz,hN];exact (QJ hD ho0 hdd).1),if_pos rfl];simpa using h3
 refine V8 N hN hm hB hD S _ _ (fun j=>if j = s then rs else ZgN ops j) hR ?_ hS (key _ 0 (fun k o hk=>by
  rw [Nat.zero_add];have:=Zdl _ 0 s hs k o hk
  rwa [Nat.zero_add] at this) (fun k o hk=>by rw [Nat.zero_add,<- Array.getElem?_toList];exact hk)) (fun b u h1 h2 h3 h4 h5=>?_)
 ·intro i j t t' u u' hne hk hT hg;by_cases ej:j = s
  ·have ei:¬ i = s:=fun e=>hne (e.trans ej.symm);simp only [if_pos ej] at hk hg ⊢;simp only [if_neg ei] at hT;exact hE t t' u u' hk hT hg
  ·simp only [if_neg ej] at hk hg ⊢;rw [ZbP hk];by_cases ei:i = s
   ·simp only [if_pos ei] at hT;exact hG2 j _ u u' ej hg hT
   ·simp only [if_neg ei] at hT;exact hG j _ u u' hg hT
 ·obtain ⟨os,hos,_⟩:=hss;refine hend b u h1 h2 h3 (fun j o ho=>?_) ?_ h5
  ·have:=h4 j o ho;by_cases e:j = s
   ·subst e;exact hGs _ _
   ·simp only [if_neg e] at this;rwa [ZD ho] at this
  ·have:=h4 s os hos;simpa using this
end
end Go
