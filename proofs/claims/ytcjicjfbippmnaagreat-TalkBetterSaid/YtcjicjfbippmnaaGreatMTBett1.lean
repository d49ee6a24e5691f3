/- TalkBetter -/
import Derived.Test.YtcjicjfbippmnaaGreatMTBett0
import Derived.Laws.AppendOwnNone
set_option maxRecDepth 100000
set_option maxHeartbeats 32000000
namespace Go.Proofs.YtcjicjfbippmnaaGreat
open Go.RowKit Ear

theorem Qq {a b:List Int} {k:Nat} (hk:k < a.length) (hk':k < b.length) (h:a.take k = b.take k) (hx:a[k] = b[k]):a.take (k + 1) = b.take (k + 1):=by
 rw [List.take_succ_eq_append_getElem hk,List.take_succ_eq_append_getElem hk',h,hx]

theorem ZK (w:World) (a b:Nat):∃ n,(w.drewN a).drewN b = w.drewN n:=⟨a + b,World.drewN_drewN ..⟩

def Zi4 (b:Bool) (w:World) (e:Ending) (w':World):Prop:=e = .returned (.bool b) /\ ∃ n,w' = w.drewN n

theorem Zhp (A B:Option Addr) (c d:Nat) (a b:List Int) (w:World) (ha:Lies w A (ics a)) (hb:Lies w B (ics b)) (hna:a.length <= 9223372036854775807) (hnb:b.length <= 9223372036854775807) (r:Bool) (hr:Hid (decide (a = b) = r)) :
  Calls Tryz.prog 25 #[.slice A a.length c,.slice B b.length d] w (Zi4 r w):=by
 by_cases hl:a.length = b.length
 ·have H1:((a.length:Int) != (b.length:Int)) = false:=by simp [hl]
  have HL:=zH hl;clear hl;go_enter Tryz.func25,Tryz.ntmps25;go_wp2;go_loopw [5] (fun i wr=>∃ k:Nat,k <= a.length /\ i = .int .i64 k /\ Hid (a.take k = b.take k) /\ ∃ n,wr = w.drewN n) (fun i _=>a.length - (intOf i).toNat)
  case atStart=>exact ⟨0,Nat.zero_le _,rfl,rfl,0,rfl⟩
  case round=>
   obtain ⟨k,hk,rfl,hp,n,rfl⟩:=hrel;by_cases hlt:k < a.length
   ·have hlt':k < b.length:=(by have:=HL.out;omega);obtain ⟨b1,o1,rfl,hba,hca⟩:=ha.at_ hlt;obtain ⟨b2,o2,rfl,hbb,hcb⟩:=hb.at_ hlt';go_wp2;go_quiet (fail);by_cases hx:a[k] = b[k]
    ·have H2:(a[k] != b[k]) = false:=(by simp [hx]);have HX:=zH hx;clear hx;go_wp2;go_roundw
     case rel=>exact ⟨k + 1,by omega,by go_num,Qq hlt hlt' hp.out HX.out,_,rfl⟩
     case measure=>simp [intOf];omega
    ·have H2:(a[k] != b[k]) = true:=(by simp [hx]);go_wp2;go_ret;refine ⟨Jn ?_,ZK _ _ _⟩;rw [<- hr.out];have:¬ a = b:=fun h=>hx (by subst h;rfl);simp [this]
   ·go_wp2;go_ret;refine ⟨Jn ?_,_,rfl⟩;have:=hp.out;rw [List.take_of_length_le (by omega),List.take_of_length_le (by have:=HL.out;omega)] at this;rw [<- hr.out];simp [this]
 ·have H1:((a.length:Int) != (b.length:Int)) = true:=by simp;omega
  go_enter Tryz.func25,Tryz.ntmps25;go_wp2;go_ret;refine ⟨Jn ?_,0,rfl⟩;rw [<- hr.out];have:¬ a = b:=fun h=>hl (by rw [h]);simp [this]
theorem YQ:(Tryz.prog.info? 3).map (fun i=>(i.zero,i.size,i.bytes)) = some (some (.int .i64 0),1,8):=by kernel_rfl

end Go.Proofs.YtcjicjfbippmnaaGreat
namespace Go

def PopQ (P:Program) (ops:Array Oper) (n:Nat) (Q:Exit -> Act -> World -> Prop):Exit -> Act -> World -> Prop
 | .normal,a,w=>wpOp P ops Q n (fun a w=>Q .normal a w) a w
 | e,a,w=>Q e a w

theorem PopQ.other {P:Program} {ops:Array Oper} {n:Nat} {Q:Exit -> Act -> World -> Prop} {e:Exit} {a:Act} {w:World} (he:e ≠ .normal) (h:PopQ P ops n Q e a w):Q e a w:=by
 cases e <;> first | exact h | exact absurd rfl he

theorem Oper.wp_other {P:Program} {o:Oper} {a:Act} {w:World} {K:Act -> World -> Prop} {Q Q':Exit -> Act -> World -> Prop} (h:∀ e a w,e ≠ Exit.normal -> Q' e a w -> Q e a w) (hh:o.wp P a w K Q'):o.wp P a w K Q:=by
 unfold Oper.wp at *
 generalize (execOp a.eval o).run P w = r at *
 cases r with
 | ok n w'=>
  cases n <;> simp only [Oper.upon] at hh ⊢ <;>
   first
    | exact hh
    | exact Calls.mono hh (fun e w'' he=>by
      cases e with
      | returned v=>exact he
      | panicked c=>exact h _ _ _ (by simp) he
      | outgrown=>obtain ⟨a,w,hq⟩:=he;exact ⟨a,w,h _ _ _ (by simp) hq⟩)
 | halt x w'=>cases x <;> simp only [Oper.upon] at hh ⊢ <;> first | exact hh | exact h _ _ _ (by simp) hh

def Region.popB (md:Region.Mode) (ops:Array Oper) (n:Nat):Bool:=
 (ops.size == n + 1) &&
 (List.range (n + 1)).all (fun i=>match ops[i]? with
  | some o=>o.after.all (fun e=>decide (e.on < i)) && (match o.guard with | some (j,_)=>decide (j < i) | none=>true)
  | none=>false) &&
 (List.range n).all (fun i=>match ops[n]? with
  | some o=>o.after.any (fun e=>Region.binds md e && (e.on == i || (match ops[e.on]? with | some m=>m.after.any (fun f=>Region.binds md f && f.on == i) | none=>false)))
  | none=>false)

section
variable {P:Program} {ops:Array Oper} {Q:Exit -> Act -> World -> Prop} {md:Region.Mode} {n:Nat}

theorem Region.popB_size (h:Region.popB md ops n = true):ops.size = n + 1:=by
 simp only [Region.popB,Bool.and_eq_true,beq_iff_eq] at h;exact h.1.1
theorem Region.popB_back (h:Region.popB md ops n = true) {i:Nat} {o:Oper} (ho:ops[i]? = some o):(∀ e ∈ o.after,e.on < i) /\ ∀ j b,o.guard = some (j,b) -> j < i:=by
 have hs:=Region.popB_size h;simp only [Region.popB,Bool.and_eq_true] at h;have hi:i < n + 1:=by rw [<- hs];exact (Array.getElem?_eq_some_iff.1 ho).1
 have h1:=List.all_eq_true.1 h.1.2 i (List.mem_range.2 hi);simp only [ho,Bool.and_eq_true] at h1;refine ⟨fun e he=>by simpa using Array.all_eq_true'.1 h1.1 e he,fun j b hg=>?_⟩;have:=h1.2;simp only [hg] at this;simpa using this
theorem Region.popB_last (h:Region.popB md ops n = true) {i:Nat} (hi:i < n) {o:Oper} (ho:ops[n]? = some o):∃ e ∈ o.after,Region.binds md e = true /\ (e.on = i ∨ ∃ m,ops[e.on]? = some m /\ ∃ f ∈ m.after,Region.binds md f = true /\ f.on = i):=by
 simp only [Region.popB,Bool.and_eq_true] at h;have h1:=List.all_eq_true.1 h.2 i (List.mem_range.2 hi);simp only [ho] at h1;obtain ⟨e,he,hb⟩:=Array.any_eq_true'.1 h1;simp only [Bool.and_eq_true,Bool.or_eq_true,beq_iff_eq] at hb;refine ⟨e,he,hb.1,?_⟩;rcases hb.2 with h2 | h2
 ·exact .inl h2
 ·cases hm:ops[e.on]? with
  | none=>rw [hm] at h2;cases h2
  | some m=>
   rw [hm] at h2;obtain ⟨f,hf,hb2⟩:=Array.any_eq_true'.1 h2;simp only [Bool.and_eq_true,beq_iff_eq] at hb2;exact .inr ⟨m,rfl,f,hf,hb2.1,hb2.2⟩

def ClosedL (md:Region.Mode) (ops:Array Oper) (l:Array Bool):Prop:=∀ (j:Nat) (o:Oper),ops[j]? = some o -> l.getD j false = true -> ∀ e ∈ o.after,Region.binds md e = true -> l.getD e.on false = true
theorem ClosedL.start (k:Nat):ClosedL md ops (Array.replicate k false):=fun j o ho hl=>by
 rw [Array.getD_eq_getD_getElem?,Array.getElem?_replicate] at hl;split at hl <;> simp at hl
theorem ClosedL.start' (k:Nat):ClosedL md ops ((Array.replicate k false).push false):=by rw [<- Array.replicate_succ];exact ClosedL.start _
theorem Vw {l:Array Bool} {i j:Nat} (h:l.getD j false = true):(l.setIfInBounds i true).getD j false = true:=by
 rw [Array.getD_eq_getD_getElem?] at h ⊢;rw [Array.getElem?_setIfInBounds];split
 ·split
  ·rfl
  ·rename_i e h1;subst e;rw [Array.getElem?_eq_none (by omega)] at h;cases h
 ·exact h
theorem ClosedL.set {l:Array Bool} {i:Nat} (hc:ClosedL md ops l) (hr:i ∈ Region.ready md ops l):ClosedL md ops (l.setIfInBounds i true):=by
 intro j o ho hl e he hb;obtain ⟨_,oi,hoi,hall⟩:=mem_ready.1 hr;by_cases hji:j = i
 ·subst hji;rw [hoi] at ho;cases ho;exact Vw (hall e he hb)
 ·refine Vw (hc j o ho ?_ e he hb);rw [Array.getD_eq_getD_getElem?] at hl ⊢
  rwa [Array.getElem?_setIfInBounds,if_neg (fun e=>hji e.symm)] at hl

theorem Zcb {i:Nat} (hs:ops.size = n + 1) (hi:i < n):ops.pop[i]? = ops[i]?:=by
 rw [Array.getElem?_pop];split
 ·rfl
 ·omega
theorem XB {l:Array Bool} {i:Nat} {d:Bool} (hl:l.size = n) (hi:i < n):(l.push false).getD i d = l.getD i d:=by
 simp only [Array.getD_eq_getD_getElem?];rw [Array.getElem?_push,if_neg (by omega)]
theorem ZR {l:Array Bool} {d:Bool} (hl:l.size = n):(l.push false).getD n d = false:=by
 simp only [Array.getD_eq_getD_getElem?];rw [Array.getElem?_push,if_pos (by omega)];rfl

theorem Vr (h:Region.popB md ops n = true) {l:Array Bool} (hl:l.size = n) {i:Nat} (hi:i < n):i ∈ Region.ready md ops (l.push false) ↔ i ∈ Region.ready md ops.pop l:=by
 have hs:=Region.popB_size h;rw [mem_ready,mem_ready,XB hl hi,Zcb hs hi];constructor
 ·rintro ⟨h1,o,ho,h2⟩;refine ⟨h1,o,ho,fun e he hb=>?_⟩;have:=h2 e he hb
  rwa [XB hl (by have:=(Region.popB_back h ho).1 e he;omega)] at this
 ·rintro ⟨h1,o,ho,h2⟩;refine ⟨h1,o,ho,fun e he hb=>?_⟩;rw [XB hl (by have:=(Region.popB_back h ho).1 e he;omega)];exact h2 e he hb

theorem Zbw {l:Array Bool} {i:Nat} (h:¬ l.getD i false = true) (hi:i < l.size):l.getD i true = false:=by
 simp only [Array.getD_eq_getD_getElem?,Array.getElem?_eq_getElem hi,Option.getD_some] at *
 simpa using h

theorem YX (h:Region.popB md ops n = true) {l:Array Bool} (hl:l.size = n + 1):∀ (k i:Nat),i <= k -> i < n + 1 -> l.getD i false = false -> ∃ j,j <= i /\ j ∈ Region.ready md ops l:=by
 intro k
 induction k with
 | zero=>
  intro i hk hi hu;have hs:=Region.popB_size h;obtain rfl:i = 0:=by omega
  refine ⟨0,by omega,mem_ready.2 ⟨Zbw (by rw [hu];simp) (by omega),ops[0]'(by omega),Array.getElem?_eq_getElem _,fun e he _=>?_⟩⟩;have:=(Region.popB_back h (Array.getElem?_eq_getElem (by omega))).1 e he;omega
 | succ k ih=>
  intro i hk hi hu;have hs:=Region.popB_size h;by_cases hall:∀ e ∈ (ops[i]'(by omega)).after,Region.binds md e = true -> l.getD e.on false = true
  ·exact ⟨i,by omega,mem_ready.2 ⟨Zbw (by rw [hu];simp) (by omega),ops[i]'(by omega),Array.getElem?_eq_getElem _,hall⟩⟩
  ·simp only [Classical.not_forall] at hall;obtain ⟨e,he,hb,hne⟩:=hall;have hlt:=(Region.popB_back h (Array.getElem?_eq_getElem (by omega))).1 e he;obtain ⟨j,hj,hr⟩:=ih e.on (by omega) (by omega) (by simpa using hne);exact ⟨j,by omega,hr⟩

theorem ZbS (hs:ops.size = n + 1) {j:Nat} (hj:j < n) (t:Array Value):yielded ops.pop t j = yielded ops t j:=by
 unfold yielded;rw [Zcb hs hj]
theorem Zdt (h:Region.popB md ops n = true) {i:Nat} {o:Oper} (hi:i < n) (ho:ops[i]? = some o) (t:Array Value):Region.wanted o (yielded ops.pop t) = Region.wanted o (yielded ops t):=by
 unfold Region.wanted;cases hg:o.guard with
 | none=>rfl
 | some g=>
  obtain ⟨j,b⟩:=g;have:=(Region.popB_back h ho).2 j b hg;simp only;rw [ZbS (Region.popB_size h) (by omega)]

theorem Zgk (h:Region.popB md ops n = true) {i:Nat} (hi:i < n) {K:Act -> World -> Prop} {a:Act} {w:World} (hh:wpOp P ops.pop (PopQ P ops n Q) i K a w):wpOp P ops Q i K a w:=by
 have hs:=Region.popB_size h;have ho:ops[i]? = some (ops[i]'(by omega)):=Array.getElem?_eq_getElem _;unfold wpOp at *
 rw [Zcb hs hi] at hh;have hwp:=Zdt h hi ho a.tmps;simp only [ho] at hh ⊢;rw [hwp] at hh;split
 ·rename_i hw;simp only [hw,if_true] at hh;rcases hh with hh | ⟨h1,a',w',hq⟩
  ·exact .inl (Oper.wp_other (fun e a w he hq=>PopQ.other he hq) hh)
  ·exact .inr ⟨h1,a',w',hq⟩
 ·rename_i hw;simp only [hw] at hh;exact hh

theorem Zg (h:Region.popB md ops n = true) {l:Array Bool} (hl:l.size = n) (hc:ClosedL md ops (l.push false)) (hr:n ∈ Region.ready md ops (l.push false)):∀ i,i < n -> l.getD i false = true:=by
 intro i hi;have hs:=Region.popB_size h;obtain ⟨_,o,ho,hall⟩:=mem_ready.1 hr;obtain ⟨e,he,hb,hon⟩:=Region.popB_last h hi ho;have:=hall e he hb;rcases hon with hon | ⟨m,hm,f,hf,hbf,hon⟩
 ·rwa [hon,XB hl hi] at this
 ·have h2:=hc e.on m hm this f hf hbf
  rwa [hon,XB hl hi] at h2

theorem Ze {l:Array Bool} (hl:l.size = ops.size) (h:∀ i,i < ops.size -> l.getD i false = true):Region.ready md ops l = []:=by
 rw [List.eq_nil_iff_forall_not_mem];intro i hi;obtain ⟨h1,o,ho,_⟩:=mem_ready.1 hi;have hlt:=(Array.getElem?_eq_some_iff.1 ho).1;have:=h i hlt;simp only [Array.getD_eq_getD_getElem?,Array.getElem?_eq_getElem (show i < l.size by omega),Option.getD_some] at *
 rw [this] at h1;cases h1

theorem QB (h:Region.popB md ops n = true) {l:Array Bool} (hl:l.size = n) {a:Act} {w:World} (hr:∀ i,i < n -> l.getD i false = true) (hq:PopQ P ops n Q .normal a w) (f:Nat):wpOp P ops Q n (wpAny P md ops Q f ((l.push false).setIfInBounds n true)) a w:=by
 have hs:=Region.popB_size h;refine wpOp_mono (fun a' w' hq'=>?_) hq;have hnil:Region.ready md ops ((l.push false).setIfInBounds n true) = []:=by
  refine Ze (by simp;omega) fun i hi=>?_;by_cases hin:i = n
  ·subst hin;simp only [Array.getD_eq_getD_getElem?];rw [Array.getElem?_setIfInBounds,if_pos rfl,if_pos (by rw [Array.size_push,hl];omega)];rfl
  ·have:=hr i (by omega);rw [<- XB hl (by omega)] at this;simp only [Array.getD_eq_getD_getElem?] at *
   rw [Array.getElem?_setIfInBounds,if_neg (by omega)];exact this
 cases f with
 | zero=>exact ⟨hnil,hq'⟩
 | succ f=>exact ⟨fun _=>hq',fun i hi=>by rw [hnil] at hi;cases hi⟩

theorem Zc1 {l:Array Bool} {i:Nat} (hl:l.size = n) (hi:i < n):(l.push false).setIfInBounds i true = (l.setIfInBounds i true).push false:=by
 apply Array.ext_getElem?;intro k;simp only [Array.getElem?_setIfInBounds,Array.getElem?_push,Array.size_push,Array.size_setIfInBounds];by_cases hik:i = k
 ·subst hik;simp [show i < l.size + 1 by omega,show i < l.size by omega,show i ≠ l.size by omega]
 ·simp [hik]

theorem Va (h:Region.popB md ops n = true):∀ (f:Nat) (l:Array Bool) (a:Act) (w:World),l.size = n -> ClosedL md ops (l.push false) -> wpAny P md ops.pop (PopQ P ops n Q) f l a w -> wpAny P md ops Q (f + 1) (l.push false) a w:=by
 have hs:=Region.popB_size h;intro f
 induction f with
 | zero=>
  intro l a w hl hc hw;refine ⟨fun h0=>?_,fun i hi=>?_⟩
  ·obtain ⟨j,_,hj⟩:=YX h (l:=l.push false) (by simp;omega) n n (Nat.le_refl _) (by omega) (ZR hl);rw [h0] at hj;cases hj
  ·have hlt:i < n + 1:=by
    obtain ⟨_,o,ho,_⟩:=mem_ready.1 hi;rw [<- hs];exact (Array.getElem?_eq_some_iff.1 ho).1
   by_cases hin:i = n
   ·subst hin;exact QB h hl (Zg h hl hc hi) hw.2 0
   ·have:=(Vr h hl (by omega)).1 hi;rw [hw.1] at this;cases this
 | succ f ih=>
  intro l a w hl hc hw;refine ⟨fun h0=>?_,fun i hi=>?_⟩
  ·obtain ⟨j,_,hj⟩:=YX h (l:=l.push false) (by simp;omega) n n (Nat.le_refl _) (by omega) (ZR hl);rw [h0] at hj;cases hj
  ·have hlt:i < n + 1:=by
    obtain ⟨_,o,ho,_⟩:=mem_ready.1 hi;rw [<- hs];exact (Array.getElem?_eq_some_iff.1 ho).1
   by_cases hin:i = n
   ·subst hin;have hall:=Zg h hl hc hi;exact QB h hl hall (hw.1 (Ze (by simp;omega) (fun k hk=>hall k (by simp at hk;omega)))) _
   ·have hlt':i < n:=(by omega);have h1:=Zgk h hlt' (hw.2 i ((Vr h hl hlt').1 hi));rw [Zc1 hl hlt'];exact wpOp_mono (fun a' w' hx=>ih _ a' w' (by simp;omega) (by rw [<- Zc1 hl hlt'];exact hc.set hi) hx) h1

theorem Xn {S:World -> Prop} {id:Nat} {a:Act} {w:World} (n:Nat) (hm:P.follows .mixedOrders = true) (hB:Region.popB .any ops n = true) (hS:S w.drew)
  (h:S w.drew -> wpAnyH P .any ops.pop (PopQ P ops n Q) S n (Array.replicate n false) a w.drew):(Code.region id ops true).wp P Q a w:=by
 have hs:=Region.popB_size hB;refine wp_region_any hm ?_;have:=Va hB n (Array.replicate n false) a w.drew (by simp) (ClosedL.start' _) (wpAny_of_held _ _ _ _ (h hS));rw [hs,show (Array.replicate (n + 1) false) = (Array.replicate n false).push false from Array.replicate_succ];exact this
theorem JL {S:World -> Prop} {i:Nat} (d:Nat) {oi:Oper} {v:Value} {fuel:Nat} {listed:Array Bool} {t:Array Value} {df:List Deferred} {w:World} (hi:ops[i]? = some oi) (hd:oi.dst = some d)
  (hs:Region.noSelect ops = true) (hf:Region.free md ops listed i = true) (hr:(Region.ready md ops listed).contains i = true)
  (hQ:∀ c a w,Q (.panic c) (a.put (some d) v) w -> Q (.panic c) a w) (hy:Region.wanted oi (yielded ops t) = true /\ ∀ w,S w -> (execOp (Act.eval ⟨t,df⟩) oi).run P w = .ok (.value v) w) (hS:S w)
  (h:wpAnyH P md ops Q S fuel (listed.setIfInBounds i true) ⟨t.setIfInBounds d v,df⟩ w):wpAnyH P md ops Q S (fuel + 1) listed ⟨t,df⟩ w:=
 wpAnyH_take hi hs hf hr (by rw [hd];exact hQ) (.inl hy) hS (by rw [hd];exact h)
theorem Jh {S:World -> Prop} (i:Nat) {o:Oper} {fuel:Nat} {listed:Array Bool} {a:Act} {w:World} (ho:ops[i]? = some o) (hr:Region.ready md ops listed = [i]) (hg:o.guard = none)
  (h:∀ K':Act -> World -> Prop,Shut (∀ a w,S w -> (S w -> wpAnyH P md ops Q S fuel (listed.setIfInBounds i true) a w) -> K' a w) -> Oper.wp P o a w K' Q):wpAnyH P md ops Q S (fuel + 1) listed a w:=
 wpAnyH_ready hr (by simp) (AllReadyH.cons ho (fun K hK=>by
  have hw:Region.wanted o (yielded ops a.tmps) = true:=by simp [Region.wanted,hg]
  rw [if_pos hw];exact h K hK) AllReadyH.nil)
theorem PopQ.last {o:Oper} {a:Act} {w:World} (ho:ops[n]? = some o) (hg:o.guard = none) (h:∀ K':Act -> World -> Prop,(∀ a w,Q .normal a w -> K' a w) -> Oper.wp P o a w K' Q):PopQ P ops n Q .normal a w:=by
 show wpOp P ops Q n (fun a w=>Q .normal a w) a w;refine wpOp_step ho (fun K hK=>?_);have hw:Region.wanted o (yielded ops a.tmps) = true:=by simp [Region.wanted,hg]
 rw [if_pos hw];exact h K hK
theorem UC {o:Oper} (w:World) {t0:Array Value} {df:List Deferred} {K:Act -> World -> Prop} (d:Nat) (hd:o.dst = some d) (s x:Operand) (t:TypeId)
  (ho:o.op = .call { callee:=.builtin .append,args:=#[s,x],argTypes:=#[t,t] })
  (base:Nat) (e:TypeId) (i:TypeInfo) (z:Value) (size bytes:Nat) (ht:P.underlying t = some (.slice e)) (hi:P.info? e = some i) (hz:i.zero = some z)
  (hsize:i.size = size) (hby:i.bytes = bytes) (hzs:z.cells.size = size) (hsz : 0 < size)
  (v:Value) (n:Nat) (xs:List Value) (hs:Act.eval ⟨t0,df⟩ s = v) (hown:w.ownsRow base e size v n xs)
  (ad:Addr) (m c:Nat) (news:List Value) (hx:Act.eval ⟨t0,df⟩ x = .slice (some ad) m c) (hl:news.length = m * size) (hnews:∀ j u,news[j]? = some u -> w.cell? (ad.add j) = some u) (h1:∀ u ∈ news,u.oneCell' = true)
  (hm : 0 < m) (h63:n + m <= maxLen) (hbytes:(n + m) * bytes <= 140737488355328) (hbase:base <= w.heap.size) (H:Nat) (hH:w.heap.size = H)
  (h:∀ g cap w',w'.ownsRow base e size (.slice (some ⟨g,0,none⟩) (n + m) cap) (n + m) (xs ++ news) -> w.grownBy w' v.ownBlock -> (v.ownBlock = some g ∨ g = H) -> g < w'.heap.size -> K ⟨t0.setIfInBounds d (.slice (some ⟨g,0,none⟩) (n + m) cap),df⟩ w'):o.wp P ⟨t0,df⟩ w K Q:=
 wp_append_lies w s x t ho base e i z size bytes ht hi hz hsize hby hzs hsz v n xs hs hown ad m c news hx hl hnews h1 hm h63 hbytes hbase H hH (by rw [hd];exact h)
end
end Go
namespace Go.Proofs.YtcjicjfbippmnaaGreat
open Go.RowKit Ear

def Zi5 (out:List Int) (w:World) (e:Ending) (w':World):Prop:=
 ∃ A c,e = .returned (.slice A out.length c) /\ w'.ownsRow w.heap.size 3 1 (.slice A out.length c) out.length (ics out) /\ Below w.heap.size w w'
theorem Zw (l:List Int):∀ u ∈ ics l,u.oneCell' = true:=by
 intro u hu;obtain ⟨x,_,rfl⟩:=List.mem_map.1 hu;rfl
theorem Xe {w:World} {base:Nat} {e:TypeId} {size n:Nat} {v:Value} {xs:List Value} (h:w.ownsRow base e size v n xs):∃ A c,v = .slice A n c:=by
 rcases h.2 with ⟨rfl,rfl⟩ | ⟨g,cap,cur,rfl,_⟩
 ·exact ⟨_,_,rfl⟩
 ·exact ⟨_,_,rfl⟩

theorem Lies.news {w:World} {ad:Addr} {xs:List Value} (h:Lies w (some ad) xs) (o:Obj) (j:Nat) (u:Value) (hu:xs[j]? = some u):(w.alloc o).cell? (ad.add j) = some u:=by
 obtain ⟨b,off,e,hb,hc⟩:=h (Nat.lt_of_le_of_lt (Nat.zero_le _) (List.getElem?_eq_some_iff.1 hu).1);cases e;rw [Addr.add_lit];exact (World.cell?_alloc_lt w o _ hb).trans (hc j u hu)

theorem Zef (A:Option Addr) (c:Nat) (l:List Int) (w:World) (h:Lies w A (ics l)) (hA:A = none -> c = 0 /\ l = []) (hn:l.length <= 1000000) :
  Calls Tryz.prog 152 #[.slice A l.length c] w (Zi5 l w):=by
 obtain ⟨i0,hi0,hz0,hz1,hz2⟩:=info_parts YQ;have HI:=zH hi0;have HZ0:=zH hz0;have HZ1:=zH hz1;have HZ2:=zH hz2;clear hi0 hz0 hz1 hz2;cases A with
 | none=>
  obtain ⟨rfl,rfl⟩:=hA rfl;have hnil:∀ W,(binOp .eql 40 (.slice none 0 0) (.slice none 0 0)).run Tryz.prog W = .ok (.bool true) W:=fun W=>Lib.run_eql_slice_nil W 40 3 none 0 0 0 0 Tryz.underlying40;go_enter Tryz.func152,Tryz.ntmps152;go_wp2_with fail;go_ret;exact ⟨none,0,rfl,World.ownsRow_nil _ _ _ _,Below.refl _ _⟩
 | some ad=>
  clear hA;have hnil:∀ W,(binOp .eql 40 (.slice (some ad) l.length c) (.slice none 0 0)).run Tryz.prog W = .ok (.bool false) W:=fun W=>Lib.run_eql_slice_nil W 40 3 (some ad) l.length c 0 0 Tryz.underlying40;have hnews:=zH (h.news);go_enter Tryz.func152,Tryz.ntmps152;go_wp2_with (at_builtin;refine wpList_append_own_at _ rfl (.tmp 5) (.tmp 6) _ rfl w.heap.size 3 i0 _ 1 8 Tryz.underlying40 HI.out HZ0.out HZ1.out HZ2.out rfl (by omega) (.slice (some ⟨w.heap.size,0,none⟩) 0 0) 0 [] rfl (World.ownsRow_lit w #[] 0 nR (by simp) rfl) ad l.length c (ics l) rfl (by simp) (hnews.out _) (Zw l) (by unfold maxLen;omega) (by omega) (by simp) ?_;intro v' w1 hown1 hgrow _ hat);go_ret;obtain ⟨A',c',rfl⟩:=Xe hown1;refine ⟨A',c',by rw [Nat.zero_add];rfl,by simpa using hown1,(bR.alloc nR _).grown hgrow (by simp) (fun k hk=>?_)⟩;simp [Value.ownBlock] at hk;omega
theorem Zjq {w:World} {g:Nat} {t:TypeId} {cs:Array Value} (h:w.heap[g]? = some (.cells cs t (0,0))):g < w.heap.size:=(aE h).1
theorem Lies.cells_add {w:World} {ad:Addr} {xs:List Value} (h:Lies w (some ad) xs) (j:Nat) (u:Value) (hu:xs[j]? = some u):w.cell? (ad.add j) = some u:=by
 obtain ⟨b,off,e,hb,hc⟩:=h (Nat.lt_of_le_of_lt (Nat.zero_le _) (List.getElem?_eq_some_iff.1 hu).1);cases e;rw [Addr.add_lit];exact hc j u hu

theorem Lies.take {w:World} {A:Option Addr} {xs:List Value} (h:Lies w A xs) (k:Nat):Lies w A (xs.take k):=fun h0=>by
 obtain ⟨b,off,e,hb,hc⟩:=h (by simp at h0;omega);refine ⟨b,off,e,hb,fun j u hu=>hc j u ?_⟩;rw [List.getElem?_take] at hu;split at hu
 ·exact hu
 ·cases hu
end Go.Proofs.YtcjicjfbippmnaaGreat
namespace Go.Proofs.YtcjicjfbippmnaaGreat
open Go.RowKit

structure Led (w0 w:World) (F:List (Option Addr × List Value)):Prop where
 bel:Below w0.heap.size w0 w
 lies:∀ (i:Nat) (A:Option Addr) (xs:List Value),F[i]? = some (A,xs) -> Lies w A xs

section
variable {w0 w w':World} {F:List (Option Addr × List Value)}
theorem Led.nil (w:World):Led w w []:=⟨Below.refl _ _,fun i A xs h=>by simp at h⟩
theorem Led.below (h:Led w0 w F) (hb:Below w.heap.size w w'):Led w0 w' F:=
 ⟨h.bel.trans (hb.mono h.bel.size),fun i A xs e=>(h.lies i A xs e).below hb⟩
theorem Led.alloc (h:Led w0 w F) (o:Obj):Led w0 (w.alloc o) F:=
 ⟨h.bel.alloc h.bel.size o,fun i A xs e=>(h.lies i A xs e).alloc o⟩
theorem Led.add (h:Led w0 w F) {A:Option Addr} {xs:List Value} (hl:Lies w A xs):Led w0 w (F ++ [(A,xs)]):=⟨h.bel,fun i A' xs' e=>by
 rw [List.getElem?_append] at e;split at e
 ·exact h.lies i A' xs' e
 ·rename_i hge;have:i - F.length = 0:=by
   have:=(List.getElem?_eq_some_iff.1 e).1;simp at this;omega
  rw [this] at e;simp at e;obtain ⟨rfl,rfl⟩:=e;exact hl⟩
theorem Led.row (h:Led w0 w F) {g:Nat} {t:TypeId} {cs:Array Value} (hr:w.heap[g]? = some (.cells cs t (0,0))):Led w0 w (F ++ [(some ⟨g,0,none⟩,cs.toList)]):=
 h.add (fun _=>⟨g,0,rfl,Zjq hr,fun k u hu=>by rw [Nat.zero_add,cell_of_row w g k _ _ _ hr];simpa using hu⟩)
theorem Led.cell (h:Led w0 w F) (i:Nat) {b off:Nat} {xs:List Value} (e:F[i]? = some (some ⟨b,off,none⟩,xs)) (k:Nat) {u:Value} (hu:xs[k]? = some u):w.cell? ⟨b,off + k,none⟩ = some u:=by
 obtain ⟨b',off',e',_,hc⟩:=h.lies i _ _ e (by have:=(List.getElem?_eq_some_iff.1 hu).1;omega);cases e';exact hc k u hu
end

section
variable {P:Program} (w:World)
theorem Jt {o:Oper} {a:Act} {K:Act -> World -> Prop} {Q:Exit -> Act -> World -> Prop} (s x:Operand) (t:TypeId)
  (ho:o.op = .call { callee:=.builtin .append,args:=#[s,x],argTypes:=#[t,t] })
  (base:Nat) (e:TypeId) (i:TypeInfo) (z:Value) (size bytes:Nat) (ht:P.underlying t = some (.slice e)) (hi:P.info? e = some i) (hz:i.zero = some z)
  (hsize:i.size = size) (hby:i.bytes = bytes) (hzs:z.cells.size = size) (hsz : 0 < size)
  (v:Value) (n:Nat) (xs:List Value) (hs:a.eval s = v) (hown:w.ownsRow base e size v n xs)
  (A:Option Addr) (m c:Nat) (news:List Value) (hx:a.eval x = .slice A m c) (hA:A = none -> c = 0) (hr:Lies w A news) (hl:news.length = m * size) (h1:∀ u ∈ news,u.oneCell' = true)
  (h63:n + m <= maxLen) (hbytes:(n + m) * bytes <= 140737488355328) (hbase:base <= w.heap.size) (N:Nat) (hN:n + m = N)
  (h:∀ A' c' w',w'.ownsRow base e size (.slice A' N c') N (xs ++ news) -> w.grownBy w' v.ownBlock -> ((Value.slice A' N c').ownBlock = v.ownBlock ∨ (Value.slice A' N c').ownBlock = some w.heap.size) -> K (a.put o.dst (.slice A' N c')) w'):o.wp P a w K Q:=by
 subst hN;cases A with
 | none=>
  have hnil:news = []:=by
   rcases news with _ | ⟨u,l⟩
   ·rfl
   ·obtain ⟨b,off,e,_⟩:=hr (by simp);cases e
  subst hnil;have hm:m = 0:=by
   rcases Nat.eq_zero_or_pos m with h0 | h0
   ·exact h0
   ·have:=Nat.mul_pos h0 hsz;simp at hl;omega
  subst hm;obtain rfl:=hA rfl;have hrun:=run_append_owned_none (P:=P) (w:=w) base t o.type e i size ht hi v n xs hown;unfold Oper.wp;simp [execOp,ho,resolve,invoke,builtin,hs,hx,hrun,Result.andThen];obtain ⟨A',c',rfl⟩:=Xe hown;exact h A' c' w (by simpa using hown) (World.grownBy.refl _ _) (.inl rfl)
 | some ad=>
  obtain ⟨v',w',hrun,h2,h3,_,h5⟩:=run_append_own_at (P:=P) w base t o.type e i z size bytes ht hi hz hsize hby hzs hsz v n xs hown ad m c news hl (fun j u hu=>hr.cells_add j u hu) h1 h63 hbytes hbase;obtain ⟨A',c',rfl⟩:=Xe h2;unfold Oper.wp execOp;simp only [ho,resolve,invoke,builtin,Sem.run_bind,Sem.run_pure,Result.andThen_ok,List.map_toArray,List.map_cons,List.map_nil,hs,hx,hrun];exact h A' c' w' h2 h3 h5
theorem Jf {ops:Array Oper} {rest:List Oper} {o:Oper} {a:Act} {Q:Exit -> Act -> World -> Prop} (hw:Region.wanted o (yielded ops a.tmps) = true) (s x:Operand) (t:TypeId)
  (ho:o.op = .call { callee:=.builtin .append,args:=#[s,x],argTypes:=#[t,t] })
  (base:Nat) (e:TypeId) (i:TypeInfo) (z:Value) (size bytes:Nat) (ht:P.underlying t = some (.slice e)) (hi:P.info? e = some i) (hz:i.zero = some z)
  (hsize:i.size = size) (hby:i.bytes = bytes) (hzs:z.cells.size = size) (hsz : 0 < size)
  (v:Value) (n:Nat) (xs:List Value) (hs:a.eval s = v) (hown:w.ownsRow base e size v n xs)
  (A:Option Addr) (m c:Nat) (news:List Value) (hx:a.eval x = .slice A m c) (hA:A = none -> c = 0) (hr:Lies w A news) (hl:news.length = m * size) (h1:∀ u ∈ news,u.oneCell' = true)
  (h63:n + m <= maxLen) (hbytes:(n + m) * bytes <= 140737488355328) (hbase:base <= w.heap.size) (N:Nat) (hN:n + m = N)
  (h:∀ A' c' w',w'.ownsRow base e size (.slice A' N c') N (xs ++ news) -> w.grownBy w' v.ownBlock -> ((Value.slice A' N c').ownBlock = v.ownBlock ∨ (Value.slice A' N c').ownBlock = some w.heap.size) -> wpList P ops Q rest (a.put o.dst (.slice A' N c')) w') :
  wpList P ops Q (o :: rest) a w:=
 wpList_step fun K hK=>by
  rw [if_pos hw];exact Jt w s x t ho base e i z size bytes ht hi hz hsize hby hzs hsz v n xs hs hown A m c news hx hA hr hl h1 h63 hbytes hbase N hN fun A' c' w' h2 h3 h4=>hK _ _ (h A' c' w' h2 h3 h4)
theorem Zn {ops:Array Oper} {o:Oper} {a:Act} {K:Act -> World -> Prop} {Q:Exit -> Act -> World -> Prop} {E:Prop} (hgd:o.guard = none) (s x:Operand) (t:TypeId)
  (ho:o.op = .call { callee:=.builtin .append,args:=#[s,x],argTypes:=#[t,t] })
  (base:Nat) (e:TypeId) (i:TypeInfo) (z:Value) (size bytes:Nat) (ht:P.underlying t = some (.slice e)) (hi:P.info? e = some i) (hz:i.zero = some z)
  (hsize:i.size = size) (hby:i.bytes = bytes) (hzs:z.cells.size = size) (hsz : 0 < size)
  (v:Value) (n:Nat) (xs:List Value) (hs:a.eval s = v) (hown:w.ownsRow base e size v n xs)
  (A:Option Addr) (m c:Nat) (news:List Value) (hx:a.eval x = .slice A m c) (hA:A = none -> c = 0) (hr:Lies w A news) (hl:news.length = m * size) (h1:∀ u ∈ news,u.oneCell' = true)
  (h63:n + m <= maxLen) (hbytes:(n + m) * bytes <= 140737488355328) (hbase:base <= w.heap.size) (N:Nat) (hN:n + m = N)
  (h:∀ A' c' w',w'.ownsRow base e size (.slice A' N c') N (xs ++ news) -> w.grownBy w' v.ownBlock -> ((Value.slice A' N c').ownBlock = v.ownBlock ∨ (Value.slice A' N c').ownBlock = some w.heap.size) -> K (a.put o.dst (.slice A' N c')) w') :
  if Region.wanted o (yielded ops a.tmps) = true then Oper.wp P o a w K Q else E:=by
 have hw:Region.wanted o (yielded ops a.tmps) = true:=by simp [Region.wanted,hgd]
 rw [if_pos hw];exact Jt w s x t ho base e i z size bytes ht hi hz hsize hby hzs hsz v n xs hs hown A m c news hx hA hr hl h1 h63 hbytes hbase N hN h
end
theorem ZeU {w w':World} (hb:Below w.heap.size w w'):w.grownBy w' none:=⟨hb.os,hb.tape,hb.output,hb.size,fun i hi _=>hb.block i hi⟩
theorem Xf {w w':World} (h:w.grownBy w' none):Below w.heap.size w w':=⟨h.os,h.tape,h.output,h.size,fun i hi=>h.block i hi (by simp)⟩
theorem Jz {w w':World} (h:Below w.drew.heap.size w.drew w'):Below w.heap.size w w':=⟨h.os,h.tape,h.output,h.size,h.block⟩
theorem Jg {w w':World} {base:Nat} {e:TypeId} {size n:Nat} {v:Value} {xs:List Value} (h:w.ownsRow base e size v n xs) (hb:Below w.heap.size w w'):w'.ownsRow base e size v n xs:=
 h.kept (ZeU hb) (by cases hx:v.ownBlock <;> simp)
theorem Jq {w w':World} {base:Nat} {e:TypeId} {size n:Nat} {v:Value} {xs:List Value} {row:Option Nat} (h:w.ownsRow base e size v n xs) (hg:w.grownBy w' row) (hr:∀ k,v.ownBlock = some k -> row ≠ some k):w'.ownsRow base e size v n xs:=
 h.kept hg (by
  cases hx:v.ownBlock with
  | none=>exact .inl rfl
  | some k=>exact .inr (fun e=>hr k hx e.symm))
theorem US {w:World} {base:Nat} {e:TypeId} {size n c:Nat} {A:Option Addr} {xs:List Value} (h:w.ownsRow base e size (.slice A n c) n xs):n <= c:=by
 rcases h.2 with ⟨e1,e2⟩ | ⟨gg,cap,cur,e1,_,_,e2,_⟩
 ·injection e1 with _ e3 _;omega
 ·injection e1 with _ _ e3;omega
theorem XQ (a b:List Int):ics (a ++ b) = ics a ++ ics b:=by simp [ics]
end Go.Proofs.YtcjicjfbippmnaaGreat
namespace Go.Proofs.YtcjicjfbippmnaaGreat
open Go.RowKit Ear

def ZkC (v:Int) (w:World) (e:Ending) (w':World):Prop:=e = .returned (.int .i64 v) /\ ∃ n,w' = w.drewN n
def Zdq (b:Bool) (w:World) (e:Ending) (w':World):Prop:=e = .returned (.bool b) /\ Below w.heap.size w w'

end Go.Proofs.YtcjicjfbippmnaaGreat
namespace Ear

def ZaV (x y:Int):Int:=if x < y then -1 else if y < x then 1 else 0
def Xb:List Int -> List Int -> Int
 | [],[]=>0
 | [],_ :: _=>-1
 | _ :: _,[]=>1
 | x :: a,y :: b=>if ZaV x y ≠ 0 then ZaV x y else Xb a b
theorem VF {x y:Int}:ZaV x y = 0 ↔ x = y:=by unfold ZaV;split;omega;split <;> omega
theorem X8:∀ {a b:List Int},Xb a b = 0 ↔ a = b
 | [],[]=>by simp [Xb]
 | [],_ :: _=>by simp [Xb]
 | _ :: _,[]=>by simp [Xb]
 | x :: a,y :: b=>by
  unfold Xb;split
  ·rename_i h;constructor
   ·intro e;exact absurd e h
   ·intro e;injection e with e1 _;exact absurd (VF.2 e1) h
  ·rename_i h;have h':x = y:=VF.1 (by omega);rw [X8 (a:=a) (b:=b),h'];simp
theorem VE:∀ (a b:List Int),Xb a b = -Xb b a
 | [],[]=>rfl
 | [],_ :: _=>rfl
 | _ :: _,[]=>rfl
 | x :: a,y :: b=>by
  unfold Xb;rw [VE a b];have:ZaV x y = -ZaV y x:=by unfold ZaV;split <;> split <;> (try split) <;> omega
  rw [this];split
  ·rename_i h;rw [if_pos (by omega)]
  ·rename_i h;rw [if_neg (by omega)]
theorem XS:∀ {a b c:List Int},Xb a b < 0 -> Xb b c < 0 -> Xb a c < 0
 | [],[],_=>by simp [Xb]
 | [],_ :: _,[]=>by simp [Xb]
 | [],_ :: _,_ :: _=>by simp [Xb]
 | _ :: _,[],_=>by simp [Xb]
 | _ :: _,_ :: _,[]=>by simp [Xb]
 | x :: a,y :: b,z :: c=>by
  have ih:=@XS a b c;unfold Xb;intro h1 h2;unfold ZaV at *
  grind
theorem Qc {a b:List Int} (k:Nat) (h:a.take k = b.take k) (ha:k <= a.length) (hb:k <= b.length):Xb a b = Xb (a.drop k) (b.drop k):=by
 induction k generalizing a b with
 | zero=>simp
 | succ k ih=>
  cases a with
  | nil=>simp at ha
  | cons x a=>
   cases b with
   | nil=>simp at hb
   | cons y b=>
    simp only [List.take_succ_cons,List.cons.injEq] at h;obtain ⟨rfl,h⟩:=h;rw [List.drop_succ_cons,List.drop_succ_cons,<- ih h (by simpa using ha) (by simpa using hb)];simp [Xb,ZaV]
theorem ZfS {a b:List Int} {k:Nat} (h:a.take k = b.take k) (ha:k < a.length) (hb:k < b.length) (hne:ZaV a[k] b[k] ≠ 0):Xb a b = ZaV a[k] b[k]:=by
 rw [Qc k h (by omega) (by omega),List.drop_eq_getElem_cons ha,List.drop_eq_getElem_cons hb,Xb,if_pos hne]
theorem Zd1 {a b:List Int} {k:Nat} (h:a.take k = b.take k) (ha:k < a.length) (hb:b.length = k):Xb a b = 1:=by
 rw [Qc k h (by omega) (by omega),List.drop_eq_getElem_cons ha,List.drop_eq_nil_of_le («as»:=b) (by omega)];rfl
theorem Zdm {a b:List Int} (h:a = b.take a.length) (hb:a.length <= b.length):Xb a b = if a.length < b.length then -1 else 0:=by
 rw [Qc a.length (by simpa using h) (Nat.le_refl _) hb,List.drop_eq_nil_of_le (Nat.le_refl _)];split
 ·rename_i hl;rw [List.drop_eq_getElem_cons hl];rfl
 ·rw [List.drop_eq_nil_of_le (by omega)];rfl
theorem Ui {a b:List Int} {k:Nat} (h:a.take k = b.take k) (ha:k < a.length) (hb:k < b.length) (he:a[k] = b[k]):a.take (k + 1) = b.take (k + 1):=by
 rw [List.take_succ_eq_append_getElem ha,List.take_succ_eq_append_getElem hb,h,he]
end Ear
namespace Go.Proofs.YtcjicjfbippmnaaGreat
open Go.RowKit

abbrev Inn:=Option Addr × Nat × List Int
def InOk (w:World) (x:Inn):Prop:=
 Lies w x.1 (ics x.2.2) /\ (x.1 = none -> x.2.1 = 0 /\ x.2.2 = []) /\ x.2.2.length <= 9223372036854775807 /\ x.2.2.length <= x.2.1 /\ (∀ y ∈ x.2.2,-9223372036854775808 <= y /\ y <= 9223372036854775807)
abbrev lcs (l:List Inn):List Value:=l.map fun x=>Value.slice x.1 x.2.2.length x.2.1
theorem Lies.lat {w:World} {A:Option Addr} {l:List Inn} (h:Lies w A (lcs l)) {k:Nat} (hk:k < l.length) :
  ∃ b off,A = some ⟨b,off,none⟩ /\ b < w.heap.size /\ w.cell? ⟨b,off + k,none⟩ = some (.slice l[k].1 l[k].2.2.length l[k].2.1):=by
 obtain ⟨b,off,e,hb,hc⟩:=h (by simp;omega);refine ⟨b,off,e,hb,hc k _ ?_⟩;simp [gE hk]
theorem InOk.below {w w':World} {x:Inn} (h:InOk w x) (hb:Below w.heap.size w w'):InOk w' x:=⟨h.1.below hb,h.2⟩
theorem InOk.alloc {w:World} {x:Inn} (h:InOk w x) (o:Obj):InOk (w.alloc o) x:=⟨h.1.alloc o,h.2⟩
end Go.Proofs.YtcjicjfbippmnaaGreat
