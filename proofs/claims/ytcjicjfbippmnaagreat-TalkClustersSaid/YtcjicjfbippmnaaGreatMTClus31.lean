/- TalkClusters -/
import Derived.Test.YtcjicjfbippmnaaGreatMTClus30
import Derived.Maps.OwnIn
import Derived.Shelf.RegionOpen
import Derived.LoopNIn
import Derived.LoopIn
set_option maxRecDepth 100000
set_option maxHeartbeats 32000000
namespace Go.Proofs.YtcjicjfbippmnaaGreat
open Go.RowKit Ear
attribute [local go_sem] Oper.semAt_some

structure KpC (W W':World):Prop where
 size:W.heap.size <= W'.heap.size
 row:∀ (b:Nat) (cs:Array Value) (t:TypeId) (fr:Nat × Nat),W.heap[b]? = some (Obj.cells cs t fr) -> W'.heap[b]? = some (Obj.cells cs t fr)
theorem KpC.refl (W:World):KpC W W:=⟨Nat.le_refl _,fun _ _ _ _ h=>h⟩
theorem KpC.trans {A B C:World} (h:KpC A B) (k:KpC B C):KpC A C:=⟨tR h.size k.size,fun b cs t fr e=>k.row b cs t fr (h.row b cs t fr e)⟩
set_option linter.unusedVariables false in
theorem KpC.put (W:World) (l:Nat) (o o':Obj) (hl:W.heap[l]? = some o) (hc:∀ (cs:Array Value) (t:TypeId) (fr:Nat × Nat),o ≠ Obj.cells cs t fr):KpC W (W.putObj l o'):=
 ⟨by simp,fun b cs t fr e=>(World.putObj_heap_other (by rintro rfl;rw [hl] at e;cases e;exact hc _ _ _ rfl)).trans e⟩
theorem QL {W:World} {b o:Nat} {v:Value} (h:W.cell? ⟨b,o,none⟩ = some v):∃ cs t fr,W.heap[b]? = some (Obj.cells cs t fr):=by
 unfold World.cell? at h;split at h
 ·rename_i e;exact ⟨_,_,_,e⟩
 ·cases h
theorem YB {W:World} {b o:Nat} {v:Value} (h:W.cell? ⟨b,o,none⟩ = some v):b < W.heap.size:=by
 obtain ⟨cs,t,fr,e⟩:=QL h;exact (aE e).1
theorem KpC.cell {W W':World} (h:KpC W W') {b o:Nat} {v:Value} (hv:W.cell? ⟨b,o,none⟩ = some v):W'.cell? ⟨b,o,none⟩ = some v:=by
 obtain ⟨cs,t,fr,e⟩:=QL hv;rw [<- hv];exact World.cell?_of_block (a:=⟨b,o,none⟩) ((h.row b cs t fr e).trans e.symm)
theorem KpC.lies {W W':World} (h:KpC W W') {A:Option Addr} {xs:List Value} (hl:Lies W A xs):Lies W' A xs:=fun h0=>by
 obtain ⟨b,off,e,hlt,hc⟩:=hl h0;exact ⟨b,off,e,Nat.lt_of_lt_of_le hlt h.size,fun k u hu=>h.cell (hc k u hu)⟩
def GmX (o:Nat) (s:List Int) (k:Nat) (v:Value) (W:World):Prop:=∃ A,v = .slice A o o /\ Lies W A (ics (JP o s k))
theorem Zfh (g n c f t:Nat) (h1:f < t) (h2:t <= c) (w:World) :
  (Instr.slice 40 (.slice (some ⟨g,0,none⟩) n c) (some (.int .i64 f)) (some (.int .i64 t)) (some (.int .i64 t))).run Tryz.prog w = .ok (.slice (some ⟨g,f,none⟩) (t - f) (t - f)) w:=by
 have e1:(f:Int) <= (t:Int):=by omega
 have e2:(t:Int) <= (c:Int):=by omega
 have e0:Tryz.prog.elem 40 = 3:=by kernel_rfl
 rw [run_slice_lhm (t:=40) (a:=some ⟨g,0,none⟩) (len:=n) (cap:=c) (ht:=by rw [e0];exact Tryz.underlying40) (kl:=.i64) (kh:=.i64) (km:=.i64) (l:=f) (h:=t) (m:=t) (h0:=by omega) (h1:=e1) (h2:=Int.le_refl _) (h3:=e2),e0];have hs:(sizeOf 3).run Tryz.prog w = .ok 1 w:=by kernel_rfl
 rw [hs];have h4:¬ t = f:=by omega
 by_cases h5:f = 0
 ·subst h5;simp [Result.andThen,sliced,Addr.add,h4]
 ·simp [Result.andThen,sliced,Addr.add,h4,h5]
theorem Lies.cut3 {w:World} {g:Nat} {l:List Int} {f o:Nat} (h:Lies w (some ⟨g,0,none⟩) (ics l)) (h1:f + o <= l.length):Lies w (some ⟨g,f,none⟩) (ics ((l.drop f).take o)):=fun h0=>by
 simp only [List.length_map,List.length_take,List.length_drop] at h0;obtain ⟨b,off,e,hb,hc⟩:=h (by simp;omega);cases e;refine ⟨g,f,rfl,hb,fun k u hu=>?_⟩;have:=hc (f + k) u (by
  simp only [ics,List.getElem?_map,List.getElem?_take,List.getElem?_drop] at hu ⊢;split at hu
  ·exact hu
  ·simp at hu)
 simpa using this
theorem Zej (o:Int) (A:Option Addr) (n c:Nat) (w:World) :
  Calls Tryz.prog 156 #[.int .i64 o,.slice A n c] w fun e w'=>e = .returned (.func (.func 184) #[] #[.pointer (some ⟨w.heap.size,0,none⟩),.pointer (some ⟨w.heap.size + 1,0,none⟩)]) /\ w' = (w.alloc (.cells #[.int .i64 o] 3)).alloc (.cells #[.slice A n c] 40):=by
 go_enter Tryz.func156,Tryz.ntmps156;go_wp2_with fail;go_ret;exact ⟨rfl,rfl⟩
theorem Zek (l bO bS:Nat) (A:Option Addr) (c:Nat) (s:List Int) (o:Nat) (ho1 : 1 <= o) (ho2:o <= 4) (hs:s.length <= 500) (hn:A = none -> c = 0)
  (J:Nat -> World -> Prop) (hJb:∀ k W W',J k W -> Below W.heap.size W W' -> J k W')
  (hY:Hid (∀ k v W,J k W -> GmX o s k v W -> k < s.length + 1 -> YieldAt Fence.wide 7 Tryz.prog l #[v] W (fun e W'=>e = .returned (.bool true) /\ J (k + 1) W' /\ KpC W W')))
  (W:World) (cO:W.cell? ⟨bO,0,none⟩ = some (.int .i64 o)) (cS:W.cell? ⟨bS,0,none⟩ = some (.slice A s.length c)) (hL:Lies W A (ics s)) (h0:J 0 W) :
  CallsIn Fence.wide 8 Tryz.prog 184 #[.func (.yield l) #[] #[],.pointer (some ⟨bO,0,none⟩),.pointer (some ⟨bS,0,none⟩)] W (fun e W'=>(∃ v,e = .returned v) /\ J (s.length + 1) W'):=by
 obtain ⟨i0,hi0,hz0,hz1,hz2⟩:=info_parts Yz;have TI:=zH hi0;have TZ0:=zH hz0;have TZ1:=zH hz1;have TZ2:=zH hz2;clear hi0 hz0 hz1 hz2;have HL:=zH hL;have HJB:=zH hJb;have HJD:Hid (J 0 W.drew):=zH (hJb 0 W _ h0 ⟨rfl,rfl,rfl,Nat.le_refl _,fun _ _=>rfl⟩);have hbO:bO < W.heap.size:=YB cO;have hbS:bS < W.heap.size:=YB cS;clear hL h0 hJb;obtain ⟨p,hp⟩:∃ p,p = o - 1:=⟨_,rfl⟩;have p1:IntKind.i64.wrap ((o:Int) - 1) = (p:Int):=by rw [IntWalk.i64_in _ (by omega)];omega
 have HP:=zH hp;have hp4:p <= 3:=by omega
 clear hp;obtain ⟨w1,hmk,ho1',hb1⟩:=Zh W.drew p (by omega) W.heap.size nR;refine callsIn_of_wp Tryz.func184 rfl trivial ?_ rfl;simp only [Tryz.ntmps184,List.size_toArray,List.length_cons,List.length_nil,Nat.reduceAdd,Nat.reduceSub,Array.replicate_succ,Array.replicate_zero,List.push_toArray,List.append_toArray,List.nil_append,List.cons_append]
 gi_wp2
 have SA:Hid (W.drew.cell? ⟨bO,0,none⟩ = some (.int .i64 o) /\ W.drew.cell? ⟨bS,0,none⟩ = some (.slice A s.length c)):=zH ⟨cO,cS⟩;have SB:Hid (w1.cell? ⟨bO,0,none⟩ = some (.int .i64 o) /\ w1.cell? ⟨bS,0,none⟩ = some (.slice A s.length c)):=zH ⟨(hb1.cell (p:=⟨bO,0,none⟩) hbO).trans cO,(hb1.cell (p:=⟨bS,0,none⟩) hbS).trans cS⟩;have HO1:=zH ho1';have HB1:=zH hb1;have HL1:Hid (Lies w1 A (ics s)):=zH (HL.out.below (JK hb1));clear ho1' hb1;refine wpIn_wide.2 ?_;go_region_held3 (fun w'=>w'.cell? ⟨bO,0,none⟩ = some (.int .i64 o) /\ w'.cell? ⟨bS,0,none⟩ = some (.slice A s.length c))
  (first | exact SA.out | exact SB.out | exact SC.out)
  (first | (refine Us _ (by rfl) (.tmp 8) (.tmp 9) _ (by rfl) W.heap.size 3 i0 _ 1 8 Tryz.underlying40 TI.out TZ0.out TZ1.out TZ2.out rfl (by omega) (.slice (some ⟨W.drew.heap.size,0,none⟩) p p) p (ics (List.replicate p 0)) (by rfl) HO1.out A s.length c (ics s) (by rfl) hn HL1.out (by simp) (YX _) (by unfold maxLen;omega) (by omega) HB1.out.size (p + s.length) rfl ?_;intro Ab cb wb hob hgb hat;have BB:=zH (HB1.out.grown hgb HB1.out.size (fun k hk=>(HO1.out.lt k hk).1));have SC:Hid (wb.cell? ⟨bO,0,none⟩ = some (.int .i64 o) /\ wb.cell? ⟨bS,0,none⟩ = some (.slice A s.length c)):=zH ⟨(BB.out.cell (p:=⟨bO,0,none⟩) hbO).trans cO,(BB.out.cell (p:=⟨bS,0,none⟩) hbS).trans cS⟩))
 have HOB:Hid (wb.ownsRow W.heap.size 3 1 (.slice Ab (p + s.length) cb) (p + s.length) (ics (List.replicate p 0 ++ s))):=zH (by rw [YL];exact hob);clear hob hgb hat SB SA HL1 HO1 hmk;have hWb:W.heap.size <= wb.heap.size:=BB.out.size
 gi_wp2_with (gi_at_builtin;refine wpListIn_append_own_at _ rfl (.tmp 11) (.tmp 12) _ rfl W.heap.size 3 i0 _ 1 8 Tryz.underlying40 TI.out TZ0.out TZ1.out TZ2.out rfl (by omega) (.slice Ab (p + s.length) cb) (p + s.length) (ics (List.replicate p 0 ++ s)) rfl (HOB.out.alloc _) ⟨wb.heap.size,0,none⟩ 1 1 [.int .i64 0] rfl (by simp) (cell_one_new _ _ _) (by simp [Value.oneCell']) (by unfold maxLen;omega) (by omega) (by simp;omega) ?_;intro v' w4 ho4 hg4 _ _;obtain ⟨A4,c4,rfl⟩:=J5 ho4)
 have HO4:Hid (w4.ownsRow W.heap.size 3 1 (.slice A4 (p + s.length + 1) c4) (p + s.length + 1) (ics (Vk o s))):=zH (by
  have e:Vk o s = (List.replicate p 0 ++ s) ++ [0]:=by unfold Vk;rw [HP.out]
  rw [e,YL];exact ho4)
 have B4:Hid (Below W.heap.size W w4):=zH (JK (((BB.out.alloc BB.out.size _).grown hg4 (by simp;omega) (fun k hk=>((HOB.out.alloc (.cells #[.int .i64 0] 3)).lt k hk).1))));obtain ⟨g,cap,hv',hgg,hglt⟩:=HO4.out.form (by omega);obtain rfl:A4 = some ⟨g,0,none⟩:=by injection hv'
 clear hv' cap ho4 hg4 HOB BB;have HFL:Hid ((Vk o s).length = p + s.length + 1):=zH (by rw [Zk ho1];have:=HP.out;omega);have HLA:Hid (Lies w4 (some ⟨g,0,none⟩) (ics (Vk o s))):=zH (Lies.of_own HO4.out);have HCAP:Hid (p + s.length + 1 <= c4):=zH (VB HO4.out);have HJ4:Hid (J 0 w4):=zH (HJB.out 0 W w4 (HJB.out 0 W.drew W HJD.out ⟨rfl,rfl,rfl,Nat.le_refl _,fun _ _=>rfl⟩) B4.out);have c4O:=(B4.out.cell (p:=⟨bO,0,none⟩) hbO).trans cO;have hoI:(1:Int) <= (o:Int):=by omega
 clear cO cS;have HpO:Hid (p + 1 = o):=zH (by have:=HP.out;omega)
 gi_loopw [5] (fun i wr=>∃ k:Nat,i = .int .i64 k /\ k <= s.length + 1 /\ Hid (J k wr) /\ Hid (KpC w4 wr)) (fun i _=>s.length + 1 - (intOf i).toNat)
 case atStart=>exact ⟨0,rfl,by omega,HJ4,zH (KpC.refl _)⟩
 case round=>
  obtain ⟨k,rfl,hk,hJ,hK⟩:=hrel;clear HJ4;have wO:=hK.out.cell c4O;have hpo:=HpO.out;by_cases hlt:k < s.length + 1
  ·have h1:(k:Int) + (o:Int) <= (p:Int) + (s.length:Int) + 1:=by omega
   have h2:(k:Int) + (o:Int) <= 9223372036854775807:=(by omega);have HLk:Hid (Lies wr (some ⟨g,k,none⟩) (ics (JP o s k))):=zH (by
    unfold JP;exact (hK.out.lies HLA.out).cut3 (by rw [HFL.out];omega))
   have hcut:∀ W,(Instr.slice 40 (.slice (some ⟨g,0,none⟩) (p + s.length + 1) c4) (some (.int .i64 (k:Int))) (some (.int .i64 ((k:Int) + (o:Int)))) (some (.int .i64 ((k:Int) + (o:Int))))).run Tryz.prog W = .ok (.slice (some ⟨g,k,none⟩) o o) W:=fun W=>by
    have:=Zfh g (p + s.length + 1) c4 k (k + o) (by omega) (by have:=HCAP.out;omega) W;rw [Int.natCast_add] at this;rw [this];simp
   obtain ⟨fn,tmps,assign,body,hy,hR⟩:=hY.out k _ wr hJ.out ⟨some ⟨g,k,none⟩,rfl,HLk.out⟩ hlt;have HR:=zH hR;clear hR hpo
   gi_wp2
   refine HR.out.mono ?_;rintro e W3 ⟨rfl,hJ3,hk3⟩;have K3:=zH (hK.out.trans hk3);have HJ3:=zH hJ3;clear HR hJ3 hk3 hy
   gi_wp2
   go_roundw
   case rel=>exact ⟨k + 1,by go_num,by omega,HJ3,K3⟩
   case measure=>simp [intOf];omega
  ·obtain rfl:k = s.length + 1:=by omega
   have h1:¬ ((s.length:Int) + 1 + (o:Int) <= (p:Int) + (s.length:Int) + 1):=(by omega);clear hpo
   gi_wp2
   go_end0
   exact ⟨⟨_,rfl⟩,hJ.out⟩
end Go.Proofs.YtcjicjfbippmnaaGreat
namespace Go
section
variable {F:Fence} {n:Nat} {P:Program} {ops:Array Oper} {Q:Exit -> Act -> World -> Prop}
structure SlL (ops:Array Oper) (L:Nat) (a:Act) (G:Nat -> Value -> World -> Prop) (listed:Array Bool) (b:Act) (u:World):Prop where
 size:b.tmps.size = a.tmps.size
 defers:b.defers = a.defers
 lsize:listed.size = ops.size
 closed:∀ j o,ops[j]? = some o -> listed.getD j false = true -> ∀ k,o.waits k = true -> listed.getD k false = true
 last:listed.getD L false = false
 same:∀ k,(∀ j o,ops[j]? = some o -> j < L -> o.dst = some k -> listed.getD j false = false) -> b.tmps.getD k undef = a.tmps.getD k undef
 slot:∀ j o,ops[j]? = some o -> j < L -> listed.getD j false = true -> G j (o.left b) u
def Region.lastB (ops:Array Oper) (L:Nat):Bool:=(List.range L).all fun j=>match ops[L]? with
 | some o=>o.waits j || (List.range L).any fun m=>o.waits m && (match ops[m]? with | some om=>om.waits j | none=>false)
 | none=>false
theorem Zc3 {L:Nat} (h:Region.lastB ops L = true) {o:Oper} (ho:ops[L]? = some o) {j:Nat} (hj:j < L):o.waits j = true ∨ ∃ m om,o.waits m = true /\ ops[m]? = some om /\ om.waits j = true:=by
 have:=List.all_eq_true.1 h j (List.mem_range.2 hj);simp only [ho,Bool.or_eq_true] at this;rcases this with h | h
 ·exact .inl h
 ·obtain ⟨m,_,hm⟩:=List.any_eq_true.1 h;simp only [Bool.and_eq_true] at hm;obtain ⟨h1,h2⟩:=hm;cases hom:ops[m]? with
  | none=>rw [hom] at h2;cases h2
  | some om=>rw [hom] at h2;exact .inr ⟨m,om,h1,rfl.trans hom,h2⟩
theorem ZcH (hB:Region.backB ops = true) {i j:Nat} {o:Oper} (ho:ops[i]? = some o) (hw:o.waits j = true):j < i:=by
 have:=List.all_eq_true.1 hB i (List.mem_range.2 (Array.getElem?_eq_some_iff.1 ho).1);simp only [ho,Array.all_eq_true'] at this;obtain ⟨e,he,hb⟩:=Array.any_eq_true'.1 hw;simp only [Bool.and_eq_true,beq_iff_eq] at hb;have h1:=this e he;rw [hb.1,hb.2] at h1;simpa using h1
def Zgz (F:Fence) (n:Nat) (P:Program) (ops:Array Oper) (Q:Exit -> Act -> World -> Prop) (a:Act) (S:World -> Prop) (T:World -> World -> Prop) (G:Nat -> Value -> World -> Prop) (i:Nat) (o:Oper):Prop:=
 ∀ (b:Act) (u:World),S u -> (∀ j o',ops[j]? = some o' -> o.waits j = true -> G j (o'.left b) u) -> (∀ k,Region.keptB ops i k = true -> b.tmps.getD k undef = a.tmps.getD k undef) ->
  ∀ K:Act -> World -> Prop,(∀ v u',S u' -> T u u' -> G i (if o.dst.isSome then v else undef) u' -> K (b.put o.dst v) u') -> if Region.wanted o (yielded ops b.tmps) = true then Oper.wpIn F n P o b u K Q else (∀ f,o.about P u b.eval = some f -> F.fn f) /\ K (b.put o.dst undef) u
def Zal (F:Fence) (n:Nat) (P:Program) (ops:Array Oper) (Q:Exit -> Act -> World -> Prop) (a:Act) (S:World -> Prop) (T:World -> World -> Prop) (G:Nat -> Value -> World -> Prop):List Oper -> Nat -> Prop
 | [],_=>True
 | o :: l,i=>Zgz F n P ops Q a S T G i o /\ Zal F n P ops Q a S T G l (i + 1)
theorem ZbA {a:Act} {S:World -> Prop} {T:World -> World -> Prop} {G:Nat -> Value -> World -> Prop}:∀ (l:List Oper) (i:Nat),Zal F n P ops Q a S T G l i -> ∀ k o,l[k]? = some o -> Zgz F n P ops Q a S T G (i + k) o:=by
 intro l
 induction l with
 | nil=>intro i _ k o h;simp at h
 | cons x l ih=>
  intro i h k o hk;cases k with
  | zero=>simp at hk;subst hk;exact h.1
  | succ k=>
   have:=ih (i + 1) h.2 k o (by simpa using hk)
   rwa [show i + 1 + k = i + (k + 1) by omega] at this
theorem QV {a:Act} (N:Nat) (hN:a.tmps.size = N) (L:Nat) (hL:ops.size = L + 1) (hB:Region.backB ops = true) (hD:Region.dstB ops N = true) (hP:Region.lastB ops L = true) (S:World -> Prop) (T:World -> World -> Prop) (G:Nat -> Value -> World -> Prop)
  (hG:∀ j v w w',G j v w -> T w w' -> G j v w') (hs:Zal F n P ops Q a S T G (ops.toList.take L) 0)
  (hlast:∀ (o:Oper) (b:Act) (u:World),ops[L]? = some o -> b.tmps.size = N -> b.defers = a.defers -> S u -> (∀ j o,ops[j]? = some o -> j < L -> G j (o.left b) u) -> (∀ k,(∀ j o,ops[j]? = some o -> j < L -> o.dst ≠ some k) -> b.tmps.getD k undef = a.tmps.getD k undef) ->
   ∀ K:Act -> World -> Prop,(∀ b' u',Q .normal b' u' -> K b' u') -> if Region.wanted o (yielded ops b.tmps) = true then Oper.wpIn F n P o b u K Q else (∀ f,o.about P u b.eval = some f -> F.fn f) /\ K (b.put o.dst undef) u) :
  ∀ (f:Nat) (listed:Array Bool) (b:Act) (u:World),S u -> SlL ops L a G listed b u -> (listed.toList.countP (· == false) <= f) -> wpAnyIn F n P .any ops Q f listed b u:=by
 have nofin:∀ (listed:Array Bool) (b:Act) (u:World),SlL ops L a G listed b u -> Region.ready .any ops listed ≠ []:=by
  intro listed b u hSl hr;have hall:=Xi hB hSl.lsize hr L (by omega);rw [hSl.last] at hall;cases hall
 intro f
 induction f with
 | zero=>
  intro listed b u hS hSl hc;exfalso;have hz:listed.toList.countP (· == false) = 0:=by omega
  rw [List.countP_eq_zero] at hz;have hjl:L < listed.size:=by rw [hSl.lsize];omega
  have h1:=hz (listed[L]) (Array.mem_toList_iff.2 (Array.getElem_mem hjl));have h2:=hSl.last;rw [Array.getD_eq_getD_getElem?,Array.getElem?_eq_getElem hjl] at h2;simp only [Option.getD_some] at h2;rw [h2] at h1;exact h1 rfl
 | succ f ih=>
  intro listed b u hS hSl hc;refine ⟨fun hr=>absurd hr (nofin listed b u hSl),fun i hi=>?_⟩;have hlt:i < ops.size:=by
   unfold Region.ready at hi;exact List.mem_range.1 (List.mem_filter.1 hi).1
  have ho:ops[i]? = some ops[i]:=Array.getElem?_eq_getElem hlt;generalize ops[i] = o at ho;obtain ⟨_,hun,dp⟩:=(ZX ho).1 hi;have hli:i < listed.size:=by rw [hSl.lsize];exact hlt
  have hunf:listed.getD i false = false:=by
   rw [Array.getD_eq_getD_getElem?,Array.getElem?_eq_getElem hli] at hun ⊢;simpa using hun
  have dp':∀ j,o.waits j = true -> listed.getD j false = true:=by
   intro j hj;obtain ⟨e,he,hb⟩:=Array.any_eq_true'.1 hj;simp only [Bool.and_eq_true,beq_iff_eq] at hb;rw [<- hb.2];exact dp e he hb.1
  by_cases hiL:i = L
  ·subst hiL;have hdepL:∀ j,j < i -> listed.getD j false = true:=fun j hj=>by
    rcases Zc3 hP ho hj with h | ⟨m,om,h1,h2,h3⟩
    ·exact dp' j h
    ·exact hSl.closed m om h2 (dp' m h1) j h3
   refine wpOpIn_step ho (fun K hK=>?_);refine hlast o b u ho (hSl.size.trans hN) hSl.defers hS (fun j o' ho' hj=>hSl.slot j o' ho' hj (hdepL j hj)) (fun k hk=>hSl.same k fun j o' ho' hj hd'=>absurd hd' (hk j o' ho' hj)) K (fun b' u' hq=>hK _ _ ?_);have hready:Region.ready .any ops (listed.setIfInBounds i true) = []:=by
    unfold Region.ready;rw [List.filter_eq_nil_iff];intro j hj;rw [List.mem_range] at hj;have h1:(listed.setIfInBounds i true).getD j false = true:=by
     rw [J2];by_cases e:j = i
     ·exact .inl ⟨e,hli⟩
     ·exact .inr (hdepL j (by omega))
    have hjl:j < (listed.setIfInBounds i true).size:=(by simp [hSl.lsize];exact hj);rw [Array.getD_eq_getD_getElem?,Array.getElem?_eq_getElem hjl] at h1 ⊢;simp only [Option.getD_some] at h1 ⊢;rw [h1];simp
   cases f with
   | zero=>exact ⟨hready,hq⟩
   | succ f=>exact ⟨fun _=>hq,fun j hj=>by rw [hready] at hj;cases hj⟩
  have hiL':i < L:=by omega
  have step:=ZbA _ _ hs i o (by rw [List.getElem?_take_of_lt hiL',Array.getElem?_toList];exact ho);rw [Nat.zero_add] at step;refine wpOpIn_step ho (fun K hK=>?_);refine step b u hS (fun j o' ho' hw=>hSl.slot j o' ho' (by have:=ZcH hB ho hw;omega) (dp' j hw)) (fun k hk=>hSl.same k fun j o' ho' hjL hd'=>?_) K (fun v u' hS' hT' hG'=>?_)
  ·have h:=List.all_eq_true.1 hk j (List.mem_range.2 (Array.getElem?_eq_some_iff.1 ho').1);simp only [ho',hd',Bool.or_eq_true] at h;rcases h with h | h
   ·simp at h
   ·cases hlj:listed.getD j false with
    | false=>rfl
    | true=>have:=hSl.closed j o' ho' hlj i h;rw [hunf] at this;cases this
  ·refine hK _ _ (ih _ _ _ hS' ?_ ?_)
   ·have hput:∀ d,o.dst = some d -> d < b.tmps.size:=fun d hd=>by rw [hSl.size,hN];exact (QH hD ho hd).1
    refine ⟨?_,?_,by simp [hSl.lsize],?_,?_,?_,?_⟩
    ·unfold Act.put;cases o.dst <;> simp [hSl.size]
    ·unfold Act.put;cases o.dst <;> simp [hSl.defers]
    ·intro j o' ho' hl k hw;rw [J2] at hl ⊢;rcases hl with ⟨rfl,_⟩ | hl
     ·rw [ho] at ho';cases ho';exact .inr (dp' k hw)
     ·exact .inr (hSl.closed j o' ho' hl k hw)
    ·have:¬ (L = i):=fun e=>hiL e.symm;have h9:=hSl.last;cases hv:(listed.setIfInBounds i true).getD L false with
     | false=>rfl
     | true=>
      rw [J2] at hv;rcases hv with ⟨e,_⟩ | hv
      ·exact absurd e this
      ·rw [hv] at h9;cases h9
    ·intro k hk;have h1:listed.getD i false = false:=hunf;have hne:o.dst ≠ some k:=fun hd=>by
      have:=hk i o ho hiL' hd;have h2:(listed.setIfInBounds i true).getD i false = true:=J2.2 (.inl ⟨rfl,hli⟩);rw [h2] at this;cases this
     have h3:=hSl.same k fun j o' ho' hjL hd'=>by
      have:=hk j o' ho' hjL hd';cases hlj:listed.getD j false with
      | false=>rfl
      | true=>rw [J2.2 (.inr hlj)] at this;cases this
     rw [<- h3];unfold Act.put;cases hdd:o.dst with
     | none=>rfl
     | some d=>
      simp only;rw [JU (hput d hdd),if_neg (fun e=>hne (by rw [hdd,e]))]
    ·intro j o' ho' hjL hl;rw [J2] at hl;by_cases hji:j = i
     ·subst hji;rw [ho] at ho';cases ho';unfold Oper.left Act.put;cases hdd:o.dst with
      | none=>rw [hdd] at hG';simpa using hG'
      | some d=>
       rw [hdd] at hG';simp only;rw [JU (hput d hdd),if_pos rfl];simpa using hG'
     ·have hl':listed.getD j false = true:=by
       rcases hl with ⟨e,_⟩ | hl
       ·exact absurd e hji
       ·exact hl
      have hold:=hG _ _ _ _ (hSl.slot j o' ho' hjL hl') hT';have e:o'.left (b.put o.dst v) = o'.left b:=by
       unfold Oper.left Act.put;cases hdd':o'.dst with
       | none=>rfl
       | some d'=>
        cases hdd:o.dst with
        | none=>rfl
        | some d=>
         simp only;rw [JU (hput d hdd),if_neg];intro e2;subst e2;exact hji ((QH hD ho hdd).2 j o' ho' hdd')
      rw [e];exact hold
   ·have:=J6 listed.toList i (hx0 hli hunf);rw [Array.toList_setIfInBounds];omega
theorem XO {id:Nat} {a:Act} {w:World} (L N:Nat) (hL:ops.size = L + 1) (hN:a.tmps.size = N) (hm:P.follows .mixedOrders = true) (hB:Region.backB ops = true) (hD:Region.dstB ops N = true) (hP:Region.lastB ops L = true) (S:World -> Prop) (T:World -> World -> Prop) (G:Nat -> Value -> World -> Prop)
  (hG:∀ j v w w',G j v w -> T w w' -> G j v w') (hS:S w.drew) (hs:Zal F n P ops Q a S T G (ops.toList.take L) 0)
  (hlast:∀ (o:Oper) (b:Act) (u:World),ops[L]? = some o -> b.tmps.size = N -> b.defers = a.defers -> S u -> (∀ j o,ops[j]? = some o -> j < L -> G j (o.left b) u) -> (∀ k,(∀ j o,ops[j]? = some o -> j < L -> o.dst ≠ some k) -> b.tmps.getD k undef = a.tmps.getD k undef) ->
   ∀ K:Act -> World -> Prop,(∀ b' u',Q .normal b' u' -> K b' u') -> if Region.wanted o (yielded ops b.tmps) = true then Oper.wpIn F n P o b u K Q else (∀ f,o.about P u b.eval = some f -> F.fn f) /\ K (b.put o.dst undef) u) :
  (Code.region id ops true).wpIn F n P Q a w:=by
 refine wpIn_region_any hm ?_;refine QV N hN L hL hB hD hP S T G hG hs hlast _ _ _ _ hS ⟨rfl,rfl,by simp,?_,?_,fun _ _=>rfl,?_⟩ ?_
 ·intro j o ho hl;rw [Array.getD_eq_getD_getElem?,Array.getElem?_replicate] at hl;split at hl <;> simp at hl
 ·rw [Array.getD_eq_getD_getElem?,Array.getElem?_replicate];split <;> rfl
 ·intro j o ho _ hl;rw [Array.getD_eq_getD_getElem?,Array.getElem?_replicate] at hl;split at hl <;> simp at hl
 ·simp only [Array.toList_replicate,List.countP_replicate];split <;> omega
end
end Go
