/- TalkHears -/
import Derived.Test.YtcjicjfbippmnaaGreatMTHear0
import Derived.Laws.AppendOwnNone
import Derived.Lib.Strings
import Derived.Lib.Slices
import Derived.Lib.Small
import Derived.Lib.Walk
set_option maxRecDepth 100000
set_option maxHeartbeats 32000000
namespace Go.Proofs.YtcjicjfbippmnaaGreat
open Go.RowKit Ear

structure Pred (g:FuncId) (p:Int -> Bool):Prop where
 enter:∀ (args:Array Value) (w:World),(callFunc g args).run Tryz.prog w = .ok (.enter g args) w
 gives:∀ (x:Int) (w:World),Calls Tryz.prog g #[.int .i64 x] w fun e w'=>e = .returned (.bool (p x)) /\ w = w'

theorem VO {p:Int -> Bool} {l:List Int} {k:Nat} (hk:k < l.length) (h:(l.take k).any p = false) (hx:p l[k] = false):(l.take (k + 1)).any p = false:=by
 rw [Wo hk,List.any_append,h];simp [hx]
theorem Ql {p:Int -> Bool} {l:List Int} {k:Nat} (hk:k < l.length) (hx:p l[k] = true):l.any p = true:=by
 rw [List.any_eq_true];exact ⟨l[k],gM hk,hx⟩
def Zfp (p:Int -> Bool) (l:List Int) (w:World) (e:Ending) (w':World):Prop:=∃ r:Int,e = .returned (.int .i64 r) /\ w = w' /\ decide (0 <= r) = l.any p

theorem ZdL (g:FuncId) (p:Int -> Bool) (hp:Pred g p) (A:Option Addr) (c:Nat) (l:List Int) (w:World) (h:Lies w A (ics l)) (hn:l.length <= 9223372036854775807) :
  Calls Tryz.prog 164 #[.slice A l.length c,.func (.func g) #[] #[]] w (Zfp p l w):=by
 have heg:=hp.enter;go_enter Tryz.func164,Tryz.ntmps164;go_wp2;go_loop [5,8] (fun _ i=>∃ k:Nat,k <= l.length /\ i = .int .i64 k /\ (l.take k).any p = false) (fun _ i=>l.length - (intOf i).toNat)
 case atStart=>exact ⟨0,WaU _,rfl,rfl⟩
 case round=>
  obtain ⟨k,hk,rfl,hp'⟩:=hrel;have HP:=zH hp';clear hp';by_cases hlt:k < l.length
  ·obtain ⟨bk,off,rfl,hb,hc⟩:=h.at_ hlt;go_wp2_with fail;refine (hp.gives _ _).mono ?_;rintro e w' ⟨rfl,rfl⟩;cases hpx:p l[k] with
   | true=>
    have HX:=zH hpx;clear hpx;go_wp2_with fail;go_ret;exact ⟨k,rfl,rfl,by rw [Ql hlt HX.out];simp⟩
   | false=>
    have HX:=zH hpx;clear hpx;go_wp2_with fail;exact ⟨⟨k + 1,by omega,by go_num,VO hlt HP.out HX.out⟩,by simp [intOf];omega⟩
  ·go_wp2;go_ret;exact ⟨-1,rfl,rfl,by have hh:=HP.out;rw [Wm (by omega)] at hh;rw [hh];rfl⟩

theorem Yl (g:FuncId) (p:Int -> Bool) (hp:Pred g p) (A:Option Addr) (c:Nat) (l:List Int) (w:World) (h:Lies w A (ics l)) (hn:l.length <= 9223372036854775807) :
  Calls Tryz.prog 112 #[.slice A l.length c,.func (.func g) #[] #[]] w fun e w'=>e = .returned (.bool (l.any p)) /\ w = w':=by
 go_enter Tryz.func112,Tryz.ntmps112;go_wp2_with fail;refine (ZdL g p hp A c l _ h hn).mono ?_;rintro e w' ⟨r,rfl,rfl,hr⟩;have HR:=zH hr;clear hr;go_wp2_with fail;go_ret;exact ⟨JB HR.out,rfl⟩

theorem Yb (lo hi:Int) (l:List Int):l.any (fun x=>!inR lo hi x) = !ZJ lo hi l:=by
 unfold ZJ;rw [List.all_eq_not_any_not];simp only [Bool.not_not]
theorem Qz {a b:List Int} {k:Nat} (hk:k < a.length) (hk':k < b.length) (h:a.take k = b.take k) (hx:a[k] = b[k]):a.take (k + 1) = b.take (k + 1):=by
 rw [Wo hk,Wo hk',h,hx]

theorem ZH (w:World) (a b:Nat):∃ n,(w.drewN a).drewN b = w.drewN n:=⟨a + b,Wa5 ..⟩

def Zh3 (b:Bool) (w:World) (e:Ending) (w':World):Prop:=e = .returned (.bool b) /\ ∃ n,w' = w.drewN n

theorem ZgM (A B:Option Addr) (c d:Nat) (a b:List Int) (w:World) (ha:Lies w A (ics a)) (hb:Lies w B (ics b)) (hna:a.length <= 9223372036854775807) (hnb:b.length <= 9223372036854775807) (r:Bool) (hr:Hid (decide (a = b) = r)) :
  Calls Tryz.prog 25 #[.slice A a.length c,.slice B b.length d] w (Zh3 r w):=by
 by_cases hl:a.length = b.length
 ·have H1:((a.length:Int) != (b.length:Int)) = false:=by simp [hl]
  have HL:=zH hl;clear hl;go_enter Tryz.func25,Tryz.ntmps25;go_wp2;go_loopw [5] (fun i wr=>∃ k:Nat,k <= a.length /\ i = .int .i64 k /\ Hid (a.take k = b.take k) /\ ∃ n,wr = w.drewN n) (fun i _=>a.length - (intOf i).toNat)
  case atStart=>exact ⟨0,WaU _,rfl,rfl,0,rfl⟩
  case round=>
   obtain ⟨k,hk,rfl,hp,n,rfl⟩:=hrel;by_cases hlt:k < a.length
   ·have hlt':k < b.length:=(by have:=HL.out;omega);obtain ⟨b1,o1,rfl,hba,hca⟩:=ha.at_ hlt;obtain ⟨b2,o2,rfl,hbb,hcb⟩:=hb.at_ hlt';go_wp2;go_quiet (fail);by_cases hx:a[k] = b[k]
    ·have H2:(a[k] != b[k]) = false:=(by simp [hx]);have HX:=zH hx;clear hx;go_wp2;go_roundw
     case rel=>exact ⟨k + 1,by omega,by go_num,Qz hlt hlt' hp.out HX.out,_,rfl⟩
     case measure=>simp [intOf];omega
    ·have H2:(a[k] != b[k]) = true:=(by simp [hx]);go_wp2;go_ret;refine ⟨JB ?_,ZH _ _ _⟩;rw [<- hr.out];have:¬ a = b:=fun h=>hx (by subst h;rfl);simp [this]
   ·go_wp2;go_ret;refine ⟨JB ?_,_,rfl⟩;have:=hp.out;rw [Wm (by omega),Wm (by have:=HL.out;omega)] at this;rw [<- hr.out];simp [this]
 ·have H1:((a.length:Int) != (b.length:Int)) = true:=by simp;omega
  go_enter Tryz.func25,Tryz.ntmps25;go_wp2;go_ret;refine ⟨JB ?_,0,rfl⟩;rw [<- hr.out];have:¬ a = b:=fun h=>hl (by rw [h]);simp [this]
theorem Za:(Tryz.prog.info? 3).map (fun i=>(i.zero,i.size,i.bytes)) = some (some (.int .i64 0),1,8):=by kernel_rfl

end Go.Proofs.YtcjicjfbippmnaaGreat
namespace Go

def PopQ (P:Program) (ops:Array Oper) (n:Nat) (Q:Exit -> Act -> World -> Prop):Exit -> Act -> World -> Prop
 | .normal,a,w=>wpOp P ops Q n (fun a w=>Q .normal a w) a w
 | e,a,w=>Q e a w

theorem PopQ.other {P:Program} {ops:Array Oper} {n:Nat} {Q:Exit -> Act -> World -> Prop} {e:Exit} {a:Act} {w:World} (he:e ≠ .normal) (h:PopQ P ops n Q e a w):Q e a w:=by
 cases e <;> first | exact h | exact absurd rfl he

theorem Oper.wp_other {P:Program} {o:Oper} {a:Act} {w:World} {K:Act -> World -> Prop} {Q Q':Exit -> Act -> World -> Prop} (h:∀ e a w,e ≠ Exit.normal -> Q' e a w -> Q e a w) (hh:o.wp P a w K Q'):o.wp P a w K Q:=by
 unfold Oper.wp at *
 generalize (execOp a.eval o).run P w = r at *
 cases r with
 | ok n w'=>
  cases n <;> simp only [Oper.upon] at hh ⊢ <;>
   first
    | exact hh
    | exact Calls.mono hh (fun e w'' he=>by
      cases e with
      | returned v=>exact he
      | panicked c=>exact h _ _ _ (by simp) he
      | outgrown=>obtain ⟨a,w,hq⟩:=he;exact ⟨a,w,h _ _ _ (by simp) hq⟩)
 | halt x w'=>cases x <;> simp only [Oper.upon] at hh ⊢ <;> first | exact hh | exact h _ _ _ (by simp) hh

def Region.popB (md:Region.Mode) (ops:Array Oper) (n:Nat):Bool:=
 (ops.size == n + 1) &&
 (List.range (n + 1)).all (fun i=>match ops[i]? with
  | some o=>o.after.all (fun e=>decide (e.on < i)) && (match o.guard with | some (j,_)=>decide (j < i) | none=>true)
  | none=>false) &&
 (List.range n).all (fun i=>match ops[n]? with
  | some o=>o.after.any (fun e=>Region.binds md e && (e.on == i || (match ops[e.on]? with | some m=>m.after.any (fun f=>Region.binds md f && f.on == i) | none=>false)))
  | none=>false)

section
variable {P:Program} {ops:Array Oper} {Q:Exit -> Act -> World -> Prop} {md:Region.Mode} {n:Nat}

theorem Region.popB_size (h:Region.popB md ops n = true):ops.size = n + 1:=by
 simp only [Region.popB,Bool.and_eq_true,beq_iff_eq] at h;exact h.1.1
theorem Region.popB_back (h:Region.popB md ops n = true) {i:Nat} {o:Oper} (ho:ops[i]? = some o):(∀ e ∈ o.after,e.on < i) /\ ∀ j b,o.guard = some (j,b) -> j < i:=by
 have hs:=Region.popB_size h;simp only [Region.popB,Bool.and_eq_true] at h;have hi:i < n + 1:=by rw [<- hs];exact (WG.1 ho).1
 have h1:=WP.1 h.1.2 i (WT.2 hi);simp only [ho,Bool.and_eq_true] at h1;refine ⟨fun e he=>by simpa using WeB.1 h1.1 e he,fun j b hg=>?_⟩;have:=h1.2;simp only [hg] at this;simpa using this
theorem Region.popB_last (h:Region.popB md ops n = true) {i:Nat} (hi:i < n) {o:Oper} (ho:ops[n]? = some o):∃ e ∈ o.after,Region.binds md e = true /\ (e.on = i ∨ ∃ m,ops[e.on]? = some m /\ ∃ f ∈ m.after,Region.binds md f = true /\ f.on = i):=by
 simp only [Region.popB,Bool.and_eq_true] at h;have h1:=WP.1 h.2 i (WT.2 hi);simp only [ho] at h1;obtain ⟨e,he,hb⟩:=Wc1.1 h1;simp only [Bool.and_eq_true,Bool.or_eq_true,beq_iff_eq] at hb;refine ⟨e,he,hb.1,?_⟩;rcases hb.2 with h2 | h2
 ·exact .inl h2
 ·cases hm:ops[e.on]? with
  | none=>rw [hm] at h2;cases h2
  | some m=>
   rw [hm] at h2;obtain ⟨f,hf,hb2⟩:=Wc1.1 h2;simp only [Bool.and_eq_true,beq_iff_eq] at hb2;exact .inr ⟨m,rfl,f,hf,hb2.1,hb2.2⟩

def ClosedL (md:Region.Mode) (ops:Array Oper) (l:Array Bool):Prop:=∀ (j:Nat) (o:Oper),ops[j]? = some o -> l.getD j false = true -> ∀ e ∈ o.after,Region.binds md e = true -> l.getD e.on false = true
theorem ClosedL.start (k:Nat):ClosedL md ops (Array.replicate k false):=fun j o ho hl=>by
 rw [Wh,WaK] at hl;split at hl <;> simp at hl
theorem ClosedL.start' (k:Nat):ClosedL md ops ((Array.replicate k false).push false):=by rw [<- WcK];exact ClosedL.start _
theorem VG {l:Array Bool} {i j:Nat} (h:l.getD j false = true):(l.setIfInBounds i true).getD j false = true:=by
 rw [Wh] at h ⊢;rw [WbB];split
 ·split
  ·rfl
  ·rename_i e h1;subst e;rw [WbZ (by omega)] at h;cases h
 ·exact h
theorem ClosedL.set {l:Array Bool} {i:Nat} (hc:ClosedL md ops l) (hr:i ∈ Region.ready md ops l):ClosedL md ops (l.setIfInBounds i true):=by
 intro j o ho hl e he hb;obtain ⟨_,oi,hoi,hall⟩:=mem_ready.1 hr;by_cases hji:j = i
 ·subst hji;rw [hoi] at ho;cases ho;exact VG (hall e he hb)
 ·refine VG (hc j o ho ?_ e he hb);rw [Wh] at hl ⊢
  rwa [WbB,Ww (fun e=>hji e.symm)] at hl

theorem Zcb {i:Nat} (hs:ops.size = n + 1) (hi:i < n):ops.pop[i]? = ops[i]?:=by
 rw [Array.getElem?_pop];split
 ·rfl
 ·omega
theorem Xw {l:Array Bool} {i:Nat} {d:Bool} (hl:l.size = n) (hi:i < n):(l.push false).getD i d = l.getD i d:=by
 simp only [Array.getD_eq_getD_getElem?];rw [We9,Ww (by omega)]
theorem ZP {l:Array Bool} {d:Bool} (hl:l.size = n):(l.push false).getD n d = false:=by
 simp only [Array.getD_eq_getD_getElem?];rw [We9,WA (by omega)];rfl

theorem Vx (h:Region.popB md ops n = true) {l:Array Bool} (hl:l.size = n) {i:Nat} (hi:i < n):i ∈ Region.ready md ops (l.push false) ↔ i ∈ Region.ready md ops.pop l:=by
 have hs:=Region.popB_size h;rw [mem_ready,mem_ready,Xw hl hi,Zcb hs hi];constructor
 ·rintro ⟨h1,o,ho,h2⟩;refine ⟨h1,o,ho,fun e he hb=>?_⟩;have:=h2 e he hb
  rwa [Xw hl (by have:=(Region.popB_back h ho).1 e he;omega)] at this
 ·rintro ⟨h1,o,ho,h2⟩;refine ⟨h1,o,ho,fun e he hb=>?_⟩;rw [Xw hl (by have:=(Region.popB_back h ho).1 e he;omega)];exact h2 e he hb

theorem ZbC {l:Array Bool} {i:Nat} (h:¬ l.getD i false = true) (hi:i < l.size):l.getD i true = false:=by
 simp only [Array.getD_eq_getD_getElem?,Array.getElem?_eq_getElem hi,Option.getD_some] at *
 simpa using h

theorem YU (h:Region.popB md ops n = true) {l:Array Bool} (hl:l.size = n + 1):∀ (k i:Nat),i <= k -> i < n + 1 -> l.getD i false = false -> ∃ j,j <= i /\ j ∈ Region.ready md ops l:=by
 intro k
 induction k with
 | zero=>
  intro i hk hi hu;have hs:=Region.popB_size h;obtain rfl:i = 0:=by omega
  refine ⟨0,by omega,mem_ready.2 ⟨ZbC (by rw [hu];simp) (by omega),ops[0]'(by omega),Wt _,fun e he _=>?_⟩⟩;have:=(Region.popB_back h (Wt (by omega))).1 e he;omega
 | succ k ih=>
  intro i hk hi hu;have hs:=Region.popB_size h;by_cases hall:∀ e ∈ (ops[i]'(by omega)).after,Region.binds md e = true -> l.getD e.on false = true
  ·exact ⟨i,by omega,mem_ready.2 ⟨ZbC (by rw [hu];simp) (by omega),ops[i]'(by omega),Wt _,hall⟩⟩
  ·simp only [Classical.not_forall] at hall;obtain ⟨e,he,hb,hne⟩:=hall;have hlt:=(Region.popB_back h (Wt (by omega))).1 e he;obtain ⟨j,hj,hr⟩:=ih e.on (by omega) (by omega) (by simpa using hne);exact ⟨j,by omega,hr⟩

theorem ZbV (hs:ops.size = n + 1) {j:Nat} (hj:j < n) (t:Array Value):yielded ops.pop t j = yielded ops t j:=by
 unfold yielded;rw [Zcb hs hj]
theorem Zc4 (h:Region.popB md ops n = true) {i:Nat} {o:Oper} (hi:i < n) (ho:ops[i]? = some o) (t:Array Value):Region.wanted o (yielded ops.pop t) = Region.wanted o (yielded ops t):=by
 unfold Region.wanted;cases hg:o.guard with
 | none=>rfl
 | some g=>
  obtain ⟨j,b⟩:=g;have:=(Region.popB_back h ho).2 j b hg;simp only;rw [ZbV (Region.popB_size h) (by omega)]

theorem Zfy (h:Region.popB md ops n = true) {i:Nat} (hi:i < n) {K:Act -> World -> Prop} {a:Act} {w:World} (hh:wpOp P ops.pop (PopQ P ops n Q) i K a w):wpOp P ops Q i K a w:=by
 have hs:=Region.popB_size h;have ho:ops[i]? = some (ops[i]'(by omega)):=Wt _;unfold wpOp at *
 rw [Zcb hs hi] at hh;have hwp:=Zc4 h hi ho a.tmps;simp only [ho] at hh ⊢;rw [hwp] at hh;split
 ·rename_i hw;simp only [hw,if_true] at hh;rcases hh with hh | ⟨h1,a',w',hq⟩
  ·exact .inl (Oper.wp_other (fun e a w he hq=>PopQ.other he hq) hh)
  ·exact .inr ⟨h1,a',w',hq⟩
 ·rename_i hw;simp only [hw] at hh;exact hh

theorem Zh (h:Region.popB md ops n = true) {l:Array Bool} (hl:l.size = n) (hc:ClosedL md ops (l.push false)) (hr:n ∈ Region.ready md ops (l.push false)):∀ i,i < n -> l.getD i false = true:=by
 intro i hi;have hs:=Region.popB_size h;obtain ⟨_,o,ho,hall⟩:=mem_ready.1 hr;obtain ⟨e,he,hb,hon⟩:=Region.popB_last h hi ho;have:=hall e he hb;rcases hon with hon | ⟨m,hm,f,hf,hbf,hon⟩
 ·rwa [hon,Xw hl hi] at this
 ·have h2:=hc e.on m hm this f hf hbf
  rwa [hon,Xw hl hi] at h2

theorem Zf {l:Array Bool} (hl:l.size = ops.size) (h:∀ i,i < ops.size -> l.getD i false = true):Region.ready md ops l = []:=by
 rw [List.eq_nil_iff_forall_not_mem];intro i hi;obtain ⟨h1,o,ho,_⟩:=mem_ready.1 hi;have hlt:=(WG.1 ho).1;have:=h i hlt;simp only [Array.getD_eq_getD_getElem?,Array.getElem?_eq_getElem (show i < l.size by omega),Option.getD_some] at *
 rw [this] at h1;cases h1

theorem QK (h:Region.popB md ops n = true) {l:Array Bool} (hl:l.size = n) {a:Act} {w:World} (hr:∀ i,i < n -> l.getD i false = true) (hq:PopQ P ops n Q .normal a w) (f:Nat):wpOp P ops Q n (wpAny P md ops Q f ((l.push false).setIfInBounds n true)) a w:=by
 have hs:=Region.popB_size h;refine wpOp_mono (fun a' w' hq'=>?_) hq;have hnil:Region.ready md ops ((l.push false).setIfInBounds n true) = []:=by
  refine Zf (by simp;omega) fun i hi=>?_;by_cases hin:i = n
  ·subst hin;simp only [Array.getD_eq_getD_getElem?];rw [WbB,WA rfl,WA (by rw [Array.size_push,hl];omega)];rfl
  ·have:=hr i (by omega);rw [<- Xw hl (by omega)] at this;simp only [Array.getD_eq_getD_getElem?] at *
   rw [WbB,Ww (by omega)];exact this
 cases f with
 | zero=>exact ⟨hnil,hq'⟩
 | succ f=>exact ⟨fun _=>hq',fun i hi=>by rw [hnil] at hi;cases hi⟩

theorem ZcF {l:Array Bool} {i:Nat} (hl:l.size = n) (hi:i < n):(l.push false).setIfInBounds i true = (l.setIfInBounds i true).push false:=by
 apply Array.ext_getElem?;intro k;simp only [Array.getElem?_setIfInBounds,Array.getElem?_push,Array.size_push,Array.size_setIfInBounds];by_cases hik:i = k
 ·subst hik;simp [show i < l.size + 1 by omega,show i < l.size by omega,show i ≠ l.size by omega]
 ·simp [hik]

theorem Ve (h:Region.popB md ops n = true):∀ (f:Nat) (l:Array Bool) (a:Act) (w:World),l.size = n -> ClosedL md ops (l.push false) -> wpAny P md ops.pop (PopQ P ops n Q) f l a w -> wpAny P md ops Q (f + 1) (l.push false) a w:=by
 have hs:=Region.popB_size h;intro f
 induction f with
 | zero=>
  intro l a w hl hc hw;refine ⟨fun h0=>?_,fun i hi=>?_⟩
  ·obtain ⟨j,_,hj⟩:=YU h (l:=l.push false) (by simp;omega) n n (WK _) (by omega) (ZP hl);rw [h0] at hj;cases hj
  ·have hlt:i < n + 1:=by
    obtain ⟨_,o,ho,_⟩:=mem_ready.1 hi;rw [<- hs];exact (WG.1 ho).1
   by_cases hin:i = n
   ·subst hin;exact QK h hl (Zh h hl hc hi) hw.2 0
   ·have:=(Vx h hl (by omega)).1 hi;rw [hw.1] at this;cases this
 | succ f ih=>
  intro l a w hl hc hw;refine ⟨fun h0=>?_,fun i hi=>?_⟩
  ·obtain ⟨j,_,hj⟩:=YU h (l:=l.push false) (by simp;omega) n n (WK _) (by omega) (ZP hl);rw [h0] at hj;cases hj
  ·have hlt:i < n + 1:=by
    obtain ⟨_,o,ho,_⟩:=mem_ready.1 hi;rw [<- hs];exact (WG.1 ho).1
   by_cases hin:i = n
   ·subst hin;have hall:=Zh h hl hc hi;exact QK h hl hall (hw.1 (Zf (by simp;omega) (fun k hk=>hall k (by simp at hk;omega)))) _
   ·have hlt':i < n:=(by omega);have h1:=Zfy h hlt' (hw.2 i ((Vx h hl hlt').1 hi));rw [ZcF hl hlt'];exact wpOp_mono (fun a' w' hx=>ih _ a' w' (by simp;omega) (by rw [<- ZcF hl hlt'];exact hc.set hi) hx) h1

theorem J4 {S:World -> Prop} {id:Nat} {a:Act} {w:World} (n:Nat) (hm:P.follows .mixedOrders = true) (hB:Region.popB .any ops n = true) (hS:S w.drew)
  (h:S w.drew -> wpAnyH P .any ops.pop (PopQ P ops n Q) S n (Array.replicate n false) a w.drew):(Code.region id ops true).wp P Q a w:=by
 have hs:=Region.popB_size hB;refine wp_region_any hm ?_;have:=Ve hB n (Array.replicate n false) a w.drew (by simp) (ClosedL.start' _) (wpAny_of_held _ _ _ _ (h hS));rw [hs,show (Array.replicate (n + 1) false) = (Array.replicate n false).push false from WcK];exact this
theorem Jq {S:World -> Prop} {i:Nat} (d:Nat) {oi:Oper} {v:Value} {fuel:Nat} {listed:Array Bool} {t:Array Value} {df:List Deferred} {w:World} (hi:ops[i]? = some oi) (hd:oi.dst = some d)
  (hs:Region.noSelect ops = true) (hf:Region.free md ops listed i = true) (hr:(Region.ready md ops listed).contains i = true)
  (hQ:∀ c a w,Q (.panic c) (a.put (some d) v) w -> Q (.panic c) a w) (hy:Region.wanted oi (yielded ops t) = true /\ ∀ w,S w -> (execOp (Act.eval ⟨t,df⟩) oi).run P w = .ok (.value v) w) (hS:S w)
  (h:wpAnyH P md ops Q S fuel (listed.setIfInBounds i true) ⟨t.setIfInBounds d v,df⟩ w):wpAnyH P md ops Q S (fuel + 1) listed ⟨t,df⟩ w:=
 wpAnyH_take hi hs hf hr (by rw [hd];exact hQ) (.inl hy) hS (by rw [hd];exact h)
theorem Je {S:World -> Prop} (i:Nat) {o:Oper} {fuel:Nat} {listed:Array Bool} {a:Act} {w:World} (ho:ops[i]? = some o) (hr:Region.ready md ops listed = [i]) (hg:o.guard = none)
  (h:∀ K':Act -> World -> Prop,Shut (∀ a w,S w -> (S w -> wpAnyH P md ops Q S fuel (listed.setIfInBounds i true) a w) -> K' a w) -> Oper.wp P o a w K' Q):wpAnyH P md ops Q S (fuel + 1) listed a w:=
 wpAnyH_ready hr (by simp) (AllReadyH.cons ho (fun K hK=>by
  have hw:Region.wanted o (yielded ops a.tmps) = true:=by simp [Region.wanted,hg]
  rw [WA hw];exact h K hK) AllReadyH.nil)
theorem PopQ.last {o:Oper} {a:Act} {w:World} (ho:ops[n]? = some o) (hg:o.guard = none) (h:∀ K':Act -> World -> Prop,(∀ a w,Q .normal a w -> K' a w) -> Oper.wp P o a w K' Q):PopQ P ops n Q .normal a w:=by
 show wpOp P ops Q n (fun a w=>Q .normal a w) a w;refine wpOp_step ho (fun K hK=>?_);have hw:Region.wanted o (yielded ops a.tmps) = true:=by simp [Region.wanted,hg]
 rw [WA hw];exact h K hK
theorem Zn {o:Oper} (w:World) {t0:Array Value} {df:List Deferred} {K:Act -> World -> Prop} (d:Nat) (hd:o.dst = some d) (s x:Operand) (t:TypeId)
  (ho:o.op = .call { callee:=.builtin .append,args:=#[s,x],argTypes:=#[t,t] })
  (base:Nat) (e:TypeId) (i:TypeInfo) (z:Value) (size bytes:Nat) (ht:P.underlying t = some (.slice e)) (hi:P.info? e = some i) (hz:i.zero = some z)
  (hsize:i.size = size) (hby:i.bytes = bytes) (hzs:z.cells.size = size) (hsz : 0 < size)
  (v:Value) (n:Nat) (xs:List Value) (hs:Act.eval ⟨t0,df⟩ s = v) (hown:w.ownsRow base e size v n xs)
  (ad:Addr) (m c:Nat) (news:List Value) (hx:Act.eval ⟨t0,df⟩ x = .slice (some ad) m c) (hl:news.length = m * size) (hnews:∀ j u,news[j]? = some u -> w.cell? (ad.add j) = some u) (h1:∀ u ∈ news,u.oneCell' = true)
  (hm : 0 < m) (h63:n + m <= maxLen) (hbytes:(n + m) * bytes <= 140737488355328) (hbase:base <= w.heap.size) (H:Nat) (hH:w.heap.size = H)
  (h:∀ g cap w',w'.ownsRow base e size (.slice (some ⟨g,0,none⟩) (n + m) cap) (n + m) (xs ++ news) -> w.grownBy w' v.ownBlock -> (v.ownBlock = some g ∨ g = H) -> g < w'.heap.size -> K ⟨t0.setIfInBounds d (.slice (some ⟨g,0,none⟩) (n + m) cap),df⟩ w'):o.wp P ⟨t0,df⟩ w K Q:=
 wp_append_lies w s x t ho base e i z size bytes ht hi hz hsize hby hzs hsz v n xs hs hown ad m c news hx hl hnews h1 hm h63 hbytes hbase H hH (by rw [hd];exact h)
end
end Go
namespace Go.Proofs.YtcjicjfbippmnaaGreat
open Go.RowKit Ear

def Zh4 (out:List Int) (w:World) (e:Ending) (w':World):Prop:=
 ∃ A c,e = .returned (.slice A out.length c) /\ w'.ownsRow w.heap.size 3 1 (.slice A out.length c) out.length (ics out) /\ Below w.heap.size w w'
theorem Z8 (l:List Int):∀ u ∈ ics l,u.oneCell' = true:=by
 intro u hu;obtain ⟨x,_,rfl⟩:=WaO.1 hu;rfl
theorem Xf {w:World} {base:Nat} {e:TypeId} {size n:Nat} {v:Value} {xs:List Value} (h:w.ownsRow base e size v n xs):∃ A c,v = .slice A n c:=by
 rcases h.2 with ⟨rfl,rfl⟩ | ⟨g,cap,cur,rfl,_⟩
 ·exact ⟨_,_,rfl⟩
 ·exact ⟨_,_,rfl⟩

theorem Lies.news {w:World} {ad:Addr} {xs:List Value} (h:Lies w (some ad) xs) (o:Obj) (j:Nat) (u:Value) (hu:xs[j]? = some u):(w.alloc o).cell? (ad.add j) = some u:=by
 obtain ⟨b,off,e,hb,hc⟩:=h (Wa9 (WaU _) (Wl.1 hu).1);cases e;rw [WdV];exact (Wc8 w o _ hb).trans (hc j u hu)

theorem ZdS (A:Option Addr) (c:Nat) (l:List Int) (w:World) (h:Lies w A (ics l)) (hA:A = none -> c = 0 /\ l = []) (hn:l.length <= 1000000) :
  Calls Tryz.prog 152 #[.slice A l.length c] w (Zh4 l w):=by
 obtain ⟨i0,hi0,hz0,hz1,hz2⟩:=WaI Za;have HI:=zH hi0;have HZ0:=zH hz0;have HZ1:=zH hz1;have HZ2:=zH hz2;clear hi0 hz0 hz1 hz2;cases A with
 | none=>
  obtain ⟨rfl,rfl⟩:=hA rfl;have hnil:∀ W,(binOp .eql 40 (.slice none 0 0) (.slice none 0 0)).run Tryz.prog W = .ok (.bool true) W:=fun W=>WaD W 40 3 none 0 0 0 0 Tryz.underlying40;go_enter Tryz.func152,Tryz.ntmps152;go_wp2_with fail;go_ret;exact ⟨none,0,rfl,WJ _ _ _ _,Wp _ _⟩
 | some ad=>
  clear hA;have hnil:∀ W,(binOp .eql 40 (.slice (some ad) l.length c) (.slice none 0 0)).run Tryz.prog W = .ok (.bool false) W:=fun W=>WaD W 40 3 (some ad) l.length c 0 0 Tryz.underlying40;have hnews:=zH (h.news);go_enter Tryz.func152,Tryz.ntmps152;go_wp2_with (at_builtin;refine WbV _ rfl (.tmp 5) (.tmp 6) _ rfl w.heap.size 3 i0 _ 1 8 Tryz.underlying40 HI.out HZ0.out HZ1.out HZ2.out rfl (by omega) (.slice (some ⟨w.heap.size,0,none⟩) 0 0) 0 [] rfl (WcA w #[] 0 nR (by simp) rfl) ad l.length c (ics l) rfl (by simp) (hnews.out _) (Z8 l) (by unfold maxLen;omega) (by omega) (by simp) ?_;intro v' w1 hown1 hgrow _ hat);go_ret;obtain ⟨A',c',rfl⟩:=Xf hown1;refine ⟨A',c',by rw [WH];rfl,by simpa using hown1,(bR.alloc nR _).grown hgrow (by simp) (fun k hk=>?_)⟩;simp [Value.ownBlock] at hk;omega
theorem Zio {w:World} {g:Nat} {t:TypeId} {cs:Array Value} (h:w.heap[g]? = some (.cells cs t (0,0))):g < w.heap.size:=(aE h).1
theorem Lies.cells_add {w:World} {ad:Addr} {xs:List Value} (h:Lies w (some ad) xs) (j:Nat) (u:Value) (hu:xs[j]? = some u):w.cell? (ad.add j) = some u:=by
 obtain ⟨b,off,e,hb,hc⟩:=h (Wa9 (WaU _) (Wl.1 hu).1);cases e;rw [WdV];exact hc j u hu

theorem Lies.take {w:World} {A:Option Addr} {xs:List Value} (h:Lies w A xs) (k:Nat):Lies w A (xs.take k):=fun h0=>by
 obtain ⟨b,off,e,hb,hc⟩:=h (by simp at h0;omega);refine ⟨b,off,e,hb,fun j u hu=>hc j u ?_⟩;rw [List.getElem?_take] at hu;split at hu
 ·exact hu
 ·cases hu
end Go.Proofs.YtcjicjfbippmnaaGreat
namespace Go.Proofs.YtcjicjfbippmnaaGreat
open Go.RowKit

structure Led (w0 w:World) (F:List (Option Addr × List Value)):Prop where
 bel:Below w0.heap.size w0 w
 lies:∀ (i:Nat) (A:Option Addr) (xs:List Value),F[i]? = some (A,xs) -> Lies w A xs

section
variable {w0 w w':World} {F:List (Option Addr × List Value)}
theorem Led.nil (w:World):Led w w []:=⟨Wp _ _,fun i A xs h=>by simp at h⟩
theorem Led.below (h:Led w0 w F) (hb:Below w.heap.size w w'):Led w0 w' F:=
 ⟨h.bel.trans (hb.mono h.bel.size),fun i A xs e=>(h.lies i A xs e).below hb⟩
theorem Led.alloc (h:Led w0 w F) (o:Obj):Led w0 (w.alloc o) F:=
 ⟨h.bel.alloc h.bel.size o,fun i A xs e=>(h.lies i A xs e).alloc o⟩
theorem Led.add (h:Led w0 w F) {A:Option Addr} {xs:List Value} (hl:Lies w A xs):Led w0 w (F ++ [(A,xs)]):=⟨h.bel,fun i A' xs' e=>by
 rw [Wd1] at e;split at e
 ·exact h.lies i A' xs' e
 ·rename_i hge;have:i - F.length = 0:=by
   have:=(Wl.1 e).1;simp at this;omega
  rw [this] at e;simp at e;obtain ⟨rfl,rfl⟩:=e;exact hl⟩
theorem Led.row (h:Led w0 w F) {g:Nat} {t:TypeId} {cs:Array Value} (hr:w.heap[g]? = some (.cells cs t (0,0))):Led w0 w (F ++ [(some ⟨g,0,none⟩,cs.toList)]):=
 h.add (fun _=>⟨g,0,rfl,Zio hr,fun k u hu=>by rw [WH,Wx w g k _ _ _ hr];simpa using hu⟩)
theorem Led.cell (h:Led w0 w F) (i:Nat) {b off:Nat} {xs:List Value} (e:F[i]? = some (some ⟨b,off,none⟩,xs)) (k:Nat) {u:Value} (hu:xs[k]? = some u):w.cell? ⟨b,off + k,none⟩ = some u:=by
 obtain ⟨b',off',e',_,hc⟩:=h.lies i _ _ e (by have:=(Wl.1 hu).1;omega);cases e';exact hc k u hu
end

section
variable {P:Program} (w:World)
theorem Jy {o:Oper} {a:Act} {K:Act -> World -> Prop} {Q:Exit -> Act -> World -> Prop} (s x:Operand) (t:TypeId)
  (ho:o.op = .call { callee:=.builtin .append,args:=#[s,x],argTypes:=#[t,t] })
  (base:Nat) (e:TypeId) (i:TypeInfo) (z:Value) (size bytes:Nat) (ht:P.underlying t = some (.slice e)) (hi:P.info? e = some i) (hz:i.zero = some z)
  (hsize:i.size = size) (hby:i.bytes = bytes) (hzs:z.cells.size = size) (hsz : 0 < size)
  (v:Value) (n:Nat) (xs:List Value) (hs:a.eval s = v) (hown:w.ownsRow base e size v n xs)
  (A:Option Addr) (m c:Nat) (news:List Value) (hx:a.eval x = .slice A m c) (hA:A = none -> c = 0) (hr:Lies w A news) (hl:news.length = m * size) (h1:∀ u ∈ news,u.oneCell' = true)
  (h63:n + m <= maxLen) (hbytes:(n + m) * bytes <= 140737488355328) (hbase:base <= w.heap.size) (N:Nat) (hN:n + m = N)
  (h:∀ A' c' w',w'.ownsRow base e size (.slice A' N c') N (xs ++ news) -> w.grownBy w' v.ownBlock -> ((Value.slice A' N c').ownBlock = v.ownBlock ∨ (Value.slice A' N c').ownBlock = some w.heap.size) -> K (a.put o.dst (.slice A' N c')) w'):o.wp P a w K Q:=by
 subst hN;cases A with
 | none=>
  have hnil:news = []:=by
   rcases news with _ | ⟨u,l⟩
   ·rfl
   ·obtain ⟨b,off,e,_⟩:=hr (by simp);cases e
  subst hnil;have hm:m = 0:=by
   rcases WdJ m with h0 | h0
   ·exact h0
   ·have:=We1 h0 hsz;simp at hl;omega
  subst hm;obtain rfl:=hA rfl;have hrun:=run_append_owned_none (P:=P) (w:=w) base t o.type e i size ht hi v n xs hown;unfold Oper.wp;simp [execOp,ho,resolve,invoke,builtin,hs,hx,hrun,Result.andThen];obtain ⟨A',c',rfl⟩:=Xf hown;exact h A' c' w (by simpa using hown) (WaY _ _) (.inl rfl)
 | some ad=>
  obtain ⟨v',w',hrun,h2,h3,_,h5⟩:=run_append_own_at (P:=P) w base t o.type e i z size bytes ht hi hz hsize hby hzs hsz v n xs hown ad m c news hl (fun j u hu=>hr.cells_add j u hu) h1 h63 hbytes hbase;obtain ⟨A',c',rfl⟩:=Xf h2;unfold Oper.wp execOp;simp only [ho,resolve,invoke,builtin,Sem.run_bind,Sem.run_pure,Result.andThen_ok,List.map_toArray,List.map_cons,List.map_nil,hs,hx,hrun];exact h A' c' w' h2 h3 h5
theorem Jf {ops:Array Oper} {rest:List Oper} {o:Oper} {a:Act} {Q:Exit -> Act -> World -> Prop} (hw:Region.wanted o (yielded ops a.tmps) = true) (s x:Operand) (t:TypeId)
  (ho:o.op = .call { callee:=.builtin .append,args:=#[s,x],argTypes:=#[t,t] })
  (base:Nat) (e:TypeId) (i:TypeInfo) (z:Value) (size bytes:Nat) (ht:P.underlying t = some (.slice e)) (hi:P.info? e = some i) (hz:i.zero = some z)
  (hsize:i.size = size) (hby:i.bytes = bytes) (hzs:z.cells.size = size) (hsz : 0 < size)
  (v:Value) (n:Nat) (xs:List Value) (hs:a.eval s = v) (hown:w.ownsRow base e size v n xs)
  (A:Option Addr) (m c:Nat) (news:List Value) (hx:a.eval x = .slice A m c) (hA:A = none -> c = 0) (hr:Lies w A news) (hl:news.length = m * size) (h1:∀ u ∈ news,u.oneCell' = true)
  (h63:n + m <= maxLen) (hbytes:(n + m) * bytes <= 140737488355328) (hbase:base <= w.heap.size) (N:Nat) (hN:n + m = N)
  (h:∀ A' c' w',w'.ownsRow base e size (.slice A' N c') N (xs ++ news) -> w.grownBy w' v.ownBlock -> ((Value.slice A' N c').ownBlock = v.ownBlock ∨ (Value.slice A' N c').ownBlock = some w.heap.size) -> wpList P ops Q rest (a.put o.dst (.slice A' N c')) w') :
  wpList P ops Q (o :: rest) a w:=
 wpList_step fun K hK=>by
  rw [WA hw];exact Jy w s x t ho base e i z size bytes ht hi hz hsize hby hzs hsz v n xs hs hown A m c news hx hA hr hl h1 h63 hbytes hbase N hN fun A' c' w' h2 h3 h4=>hK _ _ (h A' c' w' h2 h3 h4)
theorem UN {ops:Array Oper} {o:Oper} {a:Act} {K:Act -> World -> Prop} {Q:Exit -> Act -> World -> Prop} {E:Prop} (hgd:o.guard = none) (s x:Operand) (t:TypeId)
  (ho:o.op = .call { callee:=.builtin .append,args:=#[s,x],argTypes:=#[t,t] })
  (base:Nat) (e:TypeId) (i:TypeInfo) (z:Value) (size bytes:Nat) (ht:P.underlying t = some (.slice e)) (hi:P.info? e = some i) (hz:i.zero = some z)
  (hsize:i.size = size) (hby:i.bytes = bytes) (hzs:z.cells.size = size) (hsz : 0 < size)
  (v:Value) (n:Nat) (xs:List Value) (hs:a.eval s = v) (hown:w.ownsRow base e size v n xs)
  (A:Option Addr) (m c:Nat) (news:List Value) (hx:a.eval x = .slice A m c) (hA:A = none -> c = 0) (hr:Lies w A news) (hl:news.length = m * size) (h1:∀ u ∈ news,u.oneCell' = true)
  (h63:n + m <= maxLen) (hbytes:(n + m) * bytes <= 140737488355328) (hbase:base <= w.heap.size) (N:Nat) (hN:n + m = N)
  (h:∀ A' c' w',w'.ownsRow base e size (.slice A' N c') N (xs ++ news) -> w.grownBy w' v.ownBlock -> ((Value.slice A' N c').ownBlock = v.ownBlock ∨ (Value.slice A' N c').ownBlock = some w.heap.size) -> K (a.put o.dst (.slice A' N c')) w') :
  if Region.wanted o (yielded ops a.tmps) = true then Oper.wp P o a w K Q else E:=by
 have hw:Region.wanted o (yielded ops a.tmps) = true:=by simp [Region.wanted,hgd]
 rw [WA hw];exact Jy w s x t ho base e i z size bytes ht hi hz hsize hby hzs hsz v n xs hs hown A m c news hx hA hr hl h1 h63 hbytes hbase N hN h
end
theorem Zex {w w':World} (hb:Below w.heap.size w w'):w.grownBy w' none:=⟨hb.os,hb.tape,hb.output,hb.size,fun i hi _=>hb.block i hi⟩
theorem JQ {w w':World} (h:w.grownBy w' none):Below w.heap.size w w':=⟨h.os,h.tape,h.output,h.size,fun i hi=>h.block i hi (by simp)⟩
theorem Jg {w w':World} (h:Below w.drew.heap.size w.drew w'):Below w.heap.size w w':=⟨h.os,h.tape,h.output,h.size,h.block⟩
theorem Jh {w w':World} {base:Nat} {e:TypeId} {size n:Nat} {v:Value} {xs:List Value} (h:w.ownsRow base e size v n xs) (hb:Below w.heap.size w w'):w'.ownsRow base e size v n xs:=
 h.kept (Zex hb) (by cases hx:v.ownBlock <;> simp)
theorem Jr {w w':World} {base:Nat} {e:TypeId} {size n:Nat} {v:Value} {xs:List Value} {row:Option Nat} (h:w.ownsRow base e size v n xs) (hg:w.grownBy w' row) (hr:∀ k,v.ownBlock = some k -> row ≠ some k):w'.ownsRow base e size v n xs:=
 h.kept hg (by
  cases hx:v.ownBlock with
  | none=>exact .inl rfl
  | some k=>exact .inr (fun e=>hr k hx e.symm))
theorem Zay {w:World} {base:Nat} {e:TypeId} {size n c:Nat} {A:Option Addr} {xs:List Value} (h:w.ownsRow base e size (.slice A n c) n xs):n <= c:=by
 rcases h.2 with ⟨e1,e2⟩ | ⟨gg,cap,cur,e1,_,_,e2,_⟩
 ·injection e1 with _ e3 _;omega
 ·injection e1 with _ _ e3;omega
theorem YY (a b:List Int):ics (a ++ b) = ics a ++ ics b:=by simp [ics]
end Go.Proofs.YtcjicjfbippmnaaGreat
namespace Go.Proofs.YtcjicjfbippmnaaGreat
open Go.RowKit Ear

def Zjr (v:Int) (w:World) (e:Ending) (w':World):Prop:=e = .returned (.int .i64 v) /\ ∃ n,w' = w.drewN n
def Qp (b:Bool) (w:World) (e:Ending) (w':World):Prop:=e = .returned (.bool b) /\ Below w.heap.size w w'
theorem ZeG (n:Nat):(madeCells (Value.int .i64 0).cells (n * 1)).toList = ics (List.replicate n 0):=by
 apply WcU (by simp [madeCells]);intro k h1 h2;simp [madeCells,Value.cells,Nat.mod_one]
theorem Vy (w:World) (n:Nat) (hn:n <= 1000000000) (base:Nat) (hb:base <= w.heap.size) :
  ∃ w',(Instr.makeSlice 40 (.int .i64 (n:Int)) (.int .i64 (n:Int))).run Tryz.prog w = .ok (.slice (some ⟨w.heap.size,0,none⟩) n n) w' /\
   w'.ownsRow base 3 1 (.slice (some ⟨w.heap.size,0,none⟩) n n) n (ics (List.replicate n 0)) /\ Below w.heap.size w w':=by
 obtain ⟨i0,hi0,hz0,hz1,hz2⟩:=WaI Za;obtain ⟨w',h1,h2,h3⟩:=run_make_full (P:=Tryz.prog) w base 40 3 i0 _ 1 Tryz.underlying40 hi0 hz0 hz1 .i64 .i64 n (by rw [hz2];omega) (by unfold maxLen;omega) hb;rw [ZeG] at h2;exact ⟨w',h1,h2,JQ h3⟩
abbrev ucs (l:List Int):List Value:=l.map (Value.int .u32)
theorem XT:(Tryz.prog.info? 173).map (fun i=>(i.zero,i.size,i.bytes)) = some (some (.int .u32 0),1,4):=by kernel_rfl
theorem ZcL (n:Nat):(madeCells (Value.int .u32 0).cells (n * 1)).toList = ucs (List.replicate n 0):=by
 apply WcU (by simp [madeCells]);intro k h1 h2;simp [madeCells,Value.cells,Nat.mod_one]
theorem XW (w:World) (n:Nat) (hn:n <= 1000000000) (base:Nat) (hb:base <= w.heap.size) :
  ∃ w',(Instr.makeSlice 26 (.int .i64 (n:Int)) (.int .i64 (n:Int))).run Tryz.prog w = .ok (.slice (some ⟨w.heap.size,0,none⟩) n n) w' /\
   w'.ownsRow base 173 1 (.slice (some ⟨w.heap.size,0,none⟩) n n) n (ucs (List.replicate n 0)) /\ Below w.heap.size w w':=by
 obtain ⟨i0,hi0,hz0,hz1,hz2⟩:=WaI XT;obtain ⟨w',h1,h2,h3⟩:=run_make_full (P:=Tryz.prog) w base 26 173 i0 _ 1 Tryz.underlying26 hi0 hz0 hz1 .i64 .i64 n (by rw [hz2];omega) (by unfold maxLen;omega) hb;rw [ZcL] at h2;exact ⟨w',h1,h2,JQ h3⟩
theorem Lies.uat {w:World} {A:Option Addr} {l:List Int} (h:Lies w A (ucs l)) {k:Nat} (hk:k < l.length) :
  ∃ b off,A = some ⟨b,off,none⟩ /\ b < w.heap.size /\ w.cell? ⟨b,off + k,none⟩ = some (.int .u32 (l[k]?.getD 0)):=by
 obtain ⟨b,off,e,hb,hc⟩:=h (by simp;omega);refine ⟨b,off,e,hb,hc k _ ?_⟩;simp [gE hk]
def ZiY (v:Int) (w:World) (e:Ending) (w':World):Prop:=e = .returned (.int .i64 v) /\ Below w.heap.size w w'

end Go.Proofs.YtcjicjfbippmnaaGreat
namespace Go.Proofs.YtcjicjfbippmnaaGreat
open Go.RowKit

abbrev Inn:=Option Addr × Nat × List Int
def InOk (w:World) (x:Inn):Prop:=
 Lies w x.1 (ics x.2.2) /\ (x.1 = none -> x.2.1 = 0 /\ x.2.2 = []) /\ x.2.2.length <= 9223372036854775807 /\ x.2.2.length <= x.2.1 /\ (∀ y ∈ x.2.2,-9223372036854775808 <= y /\ y <= 9223372036854775807)
abbrev lcs (l:List Inn):List Value:=l.map fun x=>Value.slice x.1 x.2.2.length x.2.1
theorem Lies.lat {w:World} {A:Option Addr} {l:List Inn} (h:Lies w A (lcs l)) {k:Nat} (hk:k < l.length) :
  ∃ b off,A = some ⟨b,off,none⟩ /\ b < w.heap.size /\ w.cell? ⟨b,off + k,none⟩ = some (.slice l[k].1 l[k].2.2.length l[k].2.1):=by
 obtain ⟨b,off,e,hb,hc⟩:=h (by simp;omega);refine ⟨b,off,e,hb,hc k _ ?_⟩;simp [gE hk]
theorem InOk.below {w w':World} {x:Inn} (h:InOk w x) (hb:Below w.heap.size w w'):InOk w' x:=⟨h.1.below hb,h.2⟩
theorem InOk.alloc {w:World} {x:Inn} (h:InOk w x) (o:Obj):InOk (w.alloc o) x:=⟨h.1.alloc o,h.2⟩
open Ear
abbrev JF (L:List Inn):List (List Int):=L.map fun x=>x.2.2
def BT (w:World) (b:Nat) (e:TypeId):Prop:=∃ cur fr,w.heap[b]? = some (.cells cur e fr)
section
variable {w w':World} {b b':Nat} {e e':TypeId}
theorem BT.lt (h:BT w b e):b < w.heap.size:=by obtain ⟨c,f,h⟩:=h;exact (aE h).1
theorem BT.ne (h:BT w b e) (h':BT w b' e') (hne:e ≠ e'):b ≠ b':=by
 rintro rfl;obtain ⟨c,f,h⟩:=h;obtain ⟨c',f',h'⟩:=h';rw [h] at h';injection h' with h'
 injection h' with _ h2 _
 exact hne h2
theorem BT.block (h:BT w b e) (he:w'.heap[b]? = w.heap[b]?):BT w' b e:=by
 obtain ⟨c,f,h⟩:=h;exact ⟨c,f,he.trans h⟩
theorem BT.below (h:BT w b e) (hb:Below w.heap.size w w'):BT w' b e:=h.block (hb.block b h.lt)
theorem BT.of_own {base size n:Nat} {v:Value} {xs:List Value} (h:w.ownsRow base e size v n xs) (hv:v.ownBlock = some b):BT w b e:=by
 rcases h.2 with ⟨rfl,_⟩ | ⟨g,cap,cur,rfl,_,hg,_⟩
 ·simp [Value.ownBlock] at hv
 ·simp [Value.ownBlock] at hv;subst hv;exact ⟨cur,_,hg⟩
end
def Zjm (w:World) (A:Option Addr) (e:TypeId):Prop:=∀ b off,A = some ⟨b,off,none⟩ -> BT w b e
def InT (w:World) (x:Inn):Prop:=InOk w x /\ Zjm w x.1 3
theorem InT.below {w w':World} {x:Inn} (h:InT w x) (hb:Below w.heap.size w w'):InT w' x:=⟨h.1.below hb,fun b off e=>(h.2 b off e).below hb⟩
theorem InT.block {w w':World} {x:Inn} (h:InT w x) (hs:w.heap.size <= w'.heap.size) (hk:∀ b,BT w b 3 -> w'.heap[b]? = w.heap[b]?):InT w' x:=by
 refine ⟨⟨fun h0=>?_,h.1.2⟩,fun b off e=>(h.2 b off e).block (hk b (h.2 b off e))⟩;obtain ⟨b,off,e,hb,hc⟩:=h.1.1 h0;exact ⟨b,off,e,Wk hb hs,fun k u hu=>(Ws (a:=⟨b,off + k,none⟩) (hk b (h.2 b off e))).trans (hc k u hu)⟩
theorem InT.grown {w w':World} {x:Inn} (h:InT w x) {row:Option Nat} (hg:w.grownBy w' row) {e:TypeId} (hr:∀ k,row = some k -> k < w.heap.size -> BT w k e) (he:e ≠ 3):InT w' x:=
 h.block hg.size fun b hb=>hg.block b hb.lt fun e'=>(hr b e'.symm hb.lt).ne hb he rfl
theorem InT.set {w:World} {x:Inn} (h:InT w x) {p:Addr} {e:TypeId} (hp:BT w p.block e) (he:e ≠ 3) (u:Value):InT (w.setCell p u) x:=
 h.block (by simp [World.setCell]) fun b hb=>Wu w p u b (fun e'=>hp.ne hb he e'.symm)
theorem InT.of_own {w:World} {base n c:Nat} {A:Option Addr} {l:List Int} (h:w.ownsRow base 3 1 (.slice A n c) n (ics l)) (hn:n = l.length) (hl:n <= 9223372036854775807) (hB:∀ y ∈ l,-9223372036854775808 <= y /\ y <= 9223372036854775807):InT w (A,c,l):=by
 subst hn;refine ⟨⟨Lies.of_own h,fun e=>?_,hl,Zay h,hB⟩,fun b off e=>BT.of_own h (by simp only at e;subst e;rfl)⟩;simp only at e;subst e;rcases h.2 with ⟨e1,e2⟩ | ⟨g,cap,cur,e1,_⟩
 ·injection e1 with _ _ e3
  exact ⟨e3,Wb7.1 e2⟩
 ·injection e1 with e3;cases e3
theorem InT.nil (w:World):InT w (none,0,[]):=⟨⟨Lies.nil _ _,fun _=>⟨rfl,rfl⟩,by simp,by simp,by simp⟩,fun b off e=>by cases e⟩
structure LLo (w:World) (base:Nat) (A:Option Addr) (c:Nat) (L:List Inn):Prop where
 row:w.ownsRow base 40 1 (.slice A L.length c) L.length (lcs L)
 inn:∀ x ∈ L,InT w x
theorem LLo.lies {w:World} {base c:Nat} {A:Option Addr} {L:List Inn} (h:LLo w base A c L):Lies w A (lcs L):=Lies.of_own h.row
theorem LLo.nil (w:World) (base:Nat):LLo w base none 0 []:=⟨WJ _ _ _ _,fun x h=>by simp at h⟩
theorem LLo.below {w w':World} {base c:Nat} {A:Option Addr} {L:List Inn} (h:LLo w base A c L) (hb:Below w.heap.size w w'):LLo w' base A c L:=⟨Jh h.row hb,fun x hx=>(h.inn x hx).below hb⟩
theorem LLo.le {w:World} {base base' c:Nat} {A:Option Addr} {L:List Inn} (h:LLo w base A c L) (hb:base' <= base):LLo w base' A c L:=⟨JI h.row hb,h.inn⟩
theorem LLo.snoc {w w':World} {base base' c c' n:Nat} {A A':Option Addr} {L:List Inn} {x:Inn} (h:LLo w base A c L) (hx:InT w x) (hg:w.grownBy w' (Value.slice A n c).ownBlock)
  (hr:w'.ownsRow base' 40 1 (.slice A' (L.length + 1) c') (L.length + 1) (lcs L ++ [Value.slice x.1 x.2.2.length x.2.1])):LLo w' base' A' c' (L ++ [x]):=by
 have key:∀ y,InT w y -> InT w' y:=fun y hy=>hy.grown hg (e:=40) (fun k e _=>BT.of_own (v:=.slice A L.length c) h.row (by rw [<- e];cases A <;> rfl)) (by decide);refine ⟨by simpa using hr,fun y hy=>?_⟩;rcases WY.1 hy with hy | hy
 ·exact key y (h.inn y hy)
 ·simp at hy;subst hy;exact key y hx
def Zjo (out:List (List Int)) (w:World) (e:Ending) (w':World):Prop:=
 ∃ A c L,e = .returned (.slice A (L:List Inn).length c) /\ Hid (JF L = out) /\ LLo w' w.heap.size A c L /\ Below w.heap.size w w'
theorem Zam {L:List Inn} {k:Nat} (hk:k < L.length):(JF L)[k]?.getD [] = L[k].2.2:=by
 rw [WL,gE hk];rfl

theorem U5:(Tryz.prog.info? 40).map (fun i=>(i.zero,i.size,i.bytes)) = some (some (.slice none 0 0),1,24):=by kernel_rfl
end Go.Proofs.YtcjicjfbippmnaaGreat
