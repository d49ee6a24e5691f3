/- TalkBetter -/
import Derived.Test.YtcjicjfbippmnaaGreatMTBett13
import Derived.DeepKeys4
import Derived.Shelf.SlSortCmp.NoneTotal
set_option maxRecDepth 100000
set_option maxHeartbeats 32000000
namespace Go.Proofs.YtcjicjfbippmnaaGreat
open Go.RowKit Ear

structure GLo (w:World) (base:Nat) (A:Option Addr) (c:Nat) (L:List Gm):Prop where
 row:w.ownsRow base 114 2 (.slice A L.length c) L.length (J7 L)
 inn:∀ g ∈ L,InT w g.1
 num:∀ g ∈ L,-9223372036854775808 <= g.2 /\ g.2 <= 9223372036854775807
theorem GLo.tb {w:World} {base c:Nat} {A:Option Addr} {L:List Gm} (h:GLo w base A c L):Tb w A L:=⟨Lies.of_own h.row,fun g hg=>(h.inn g hg).1,h.num⟩
theorem GLo.nil (w:World) (base:Nat):GLo w base none 0 []:=⟨World.ownsRow_nil _ _ _ _,fun x h=>by simp at h,fun x h=>by simp at h⟩
theorem GLo.below {w w':World} {base c:Nat} {A:Option Addr} {L:List Gm} (h:GLo w base A c L) (hb:Below w.heap.size w w'):GLo w' base A c L:=⟨Jg h.row hb,fun x hx=>(h.inn x hx).below hb,h.num⟩
theorem GLo.le {w:World} {base base' c:Nat} {A:Option Addr} {L:List Gm} (h:GLo w base A c L) (hb:base' <= base):GLo w base' A c L:=⟨Jw h.row hb,h.inn,h.num⟩
theorem Zfv (L:List Gm) (g:Gm):J7 (L ++ [g]) = J7 L ++ [Value.slice g.1.1 g.1.2.2.length g.1.2.1,Value.int .i64 g.2]:=by simp [J7]
theorem GLo.snoc {w w':World} {base base' c c' n:Nat} {A A':Option Addr} {L:List Gm} {g:Gm} (h:GLo w base A c L) (hx:InT w g.1) (hgn : -9223372036854775808 <= g.2 /\ g.2 <= 9223372036854775807) (hg:w.grownBy w' (Value.slice A n c).ownBlock)
  (hr:w'.ownsRow base' 114 2 (.slice A' (L.length + 1) c') (L.length + 1) (J7 L ++ [Value.slice g.1.1 g.1.2.2.length g.1.2.1,Value.int .i64 g.2])):GLo w' base' A' c' (L ++ [g]):=by
 have key:∀ y,InT w y -> InT w' y:=fun y hy=>hy.grown hg (e:=114) (fun k e _=>BT.of_own (v:=.slice A L.length c) h.row (by rw [<- e];cases A <;> rfl)) (by decide);refine ⟨by rw [Zfv];simpa using hr,fun y hy=>?_,fun y hy=>?_⟩
 ·rcases List.mem_append.1 hy with hy | hy
  ·exact key _ (h.inn y hy)
  ·simp at hy;subst hy;exact key _ hx
 ·rcases List.mem_append.1 hy with hy | hy
  ·exact h.num y hy
  ·simp at hy;subst hy;exact hgn
theorem GLo.block {w w':World} {base c:Nat} {A:Option Addr} {L:List Gm} (h:GLo w base A c L) (hs:w.heap.size <= w'.heap.size) (hk:∀ b,BT w b 3 ∨ BT w b 114 /\ base <= b -> w'.heap[b]? = w.heap[b]?):GLo w' base A c L:=by
 refine ⟨?_,fun x hx=>(h.inn x hx).block hs fun b hb=>hk b (.inl hb),h.num⟩;have hrow:=h.row;obtain ⟨q1,q2⟩:=hrow;refine ⟨q1,?_⟩;rcases q2 with e | ⟨g,cap,cur,e,hb,hg,rest⟩
 ·exact .inl e
 ·refine .inr ⟨g,cap,cur,e,hb,(hk g (.inr ⟨⟨_,_,hg⟩,hb⟩)).trans hg,rest⟩
def kws (k:K4):List Int:=[k.1 - 1,k.2.1 - 1,k.2.2.1 - 1,k.2.2.2 - 1]
def gmW (o:Nat) (k:K4):List Int:=(kws k).take o
def kOk (k:K4):Prop:=(0 <= k.1 /\ k.1 <= 1000001) /\ (0 <= k.2.1 /\ k.2.1 <= 1000001) /\ (0 <= k.2.2.1 /\ k.2.2.1 <= 1000001) /\ (0 <= k.2.2.2 /\ k.2.2.2 <= 1000001)
abbrev MI (w:World) (b:Nat) (m:List (K4 × Int)):Prop:=MapIs Tryz.prog 203 ek (Value.int .i64) w b m
theorem U7:(Tryz.prog.info? 114).map (fun i=>(i.zero,i.size,i.bytes)) = some (some (.agg #[.slice none 0 0,.int .i64 0]),2,32):=by kernel_rfl
theorem MI.len {w:World} {b:Nat} {m:List (K4 × Int)} (h:MI w b m) (ty:TypeId):(Builtin.len_ #[198] ty #[.map (some b)]).run Tryz.prog w = .ok (.int .i64 (m.length:Int)) w:=by
 obtain ⟨es,c,h1,h2⟩:=h.size;simp [Builtin.len_,run_underlying Tryz.underlying198,MapKept.run_getObj_map h1,goInt,Result.andThen,h2]
open Go.Maps
theorem ZkF:laidOutB Tryz.prog = true:=by kernel_rfl
theorem Zfh:(203:TypeId) < Tryz.prog.types.size:=of_decide_eq_true (by kernel_rfl)
theorem Zg2:(match Tryz.prog.underlying 203 with | some (.array _ _) | some (.struct _)=>true | _=>false) = true:=by rw [Tryz.underlying203]
theorem J4:Keyed Tryz.prog 203:=Keyed.of_law (deep_law_laid ZkF (m:=2) (by omega) Zfh (by kernel_rfl) Zg2)
theorem Zbo:Tryz.prog.cellsOf 203 = 4:=by kernel_rfl
theorem Zg3:Tryz.prog.keyType 203 = true:=by kernel_rfl
theorem Zfk:Tryz.prog.cellsOf 3 = 1:=by kernel_rfl
theorem Zkf (n:Int) (h : 0 <= n /\ n <= 1000001):(Lit.int .i64 n).wf = true:=by
 simp [Lit.wf,IntKind.min,IntKind.max,IntKind.bits,IntKind.signed];omega
theorem Ul (k:K4) (h:kOk k):∃ l,keyOf Tryz.prog 203 (ek k) = some l:=by
 obtain ⟨d,hd⟩:∃ d,Tryz.prog.types.size + 1 = d + 2:=⟨Tryz.prog.types.size - 1,by have : 203 < Tryz.prog.types.size:=Zfh;omega⟩;obtain ⟨k0,k1,k2,k3⟩:=k;obtain ⟨h0,h1,h2,h3⟩:=h;simp only at h0 h1 h2 h3;have w0:=Zkf k0 h0;have w1:=Zkf k1 h1;have w2:=Zkf k2 h2;have w3:=Zkf k3 h3;unfold keyOf;rw [Tryz.underlying203];simp only [Zg3,Bool.true_and,hd];have hf:(ek (k0,k1,k2,k3)).formed Tryz.prog 203 = true:=by simp [ek,Value.formed,Tryz.underlying203,Zbo]
 rw [if_pos hf];simp [Program.keyLits,Tryz.underlying203,Tryz.underlying3,Zbo,Zfk,ek,Value.cells,List.range_succ,w0,w1,w2,w3]
end Go.Proofs.YtcjicjfbippmnaaGreat
namespace Go
open Go.ChangeMaps (setBlock heap_setBlock_same heap_setBlock_other)
open Go.Maps (Keyed)
open Go.RowKit
set_option linter.unusedSectionVars false
section
variable {κ ν : Type} [DecidableEq κ] {P:Program} {K:TypeId} {ek : κ -> Value} {ev : ν -> Value} {w:World} {r:Nat} {v:Value} {m:List (κ × ν)} {idx:List Nat}
theorem ZeK {t e:TypeId} (ht:P.underlying t = some (.map K e)) (w:World):(Instr.range t (.map none)).run P w = .ok (.pointer (some ⟨w.heap.size,0,none⟩)) (w.alloc (.mapIter none 0 #[] 0)):=by
 simp only [Instr.range,Sem.run_bind,run_underlying ht,Result.andThen];rfl
theorem ZgQ {w:World} (hr:w.heap[r]? = some (.mapIter none 0 #[] 0)) (ty:TypeId):(Instr.next (.pointer (some ⟨r,0,none⟩)) false ty).run P w = .ok (.tuple #[.bool false]) w:=by
 simp only [Instr.next,getObj,Sem.run_bind,Sem.run,hr,Result.andThen];rfl
def MV (P:Program) (K:TypeId) (ek : κ -> Value) (ev : ν -> Value) (w:World) (v:Value) (m:List (κ × ν)):Prop:=(v = .map none /\ m = []) ∨ ∃ b,v = .map (some b) /\ MapIs P K ek ev w b m
theorem MV.below {w':World} (h:MV P K ek ev w v m) (hb:Below w.heap.size w w'):MV P K ek ev w' v m:=by
 rcases h with h | ⟨b,e,h⟩
 ·exact .inl h
 ·exact .inr ⟨b,e,h.below hb⟩
theorem MV.kept' {w':World} (h:MV P K ek ev w v m) (hk:∀ b,v = .map (some b) -> w'.heap[b]? = w.heap[b]?):MV P K ek ev w' v m:=by
 rcases h with h | ⟨b,e,h⟩
 ·exact .inl h
 ·exact .inr ⟨b,e,h.same (hk b e)⟩
theorem MV.lt {b:Nat} (h:MV P K ek ev w v m) (hv:v = .map (some b)):b < w.heap.size:=by
 rcases h with ⟨e,_⟩ | ⟨b',e,h⟩
 ·rw [hv] at e;cases e
 ·rw [hv] at e;injection e with e
  injection e with e
  rw [e];exact h.lt
theorem MV.nodup (h:MV P K ek ev w v m):(m.map (·.1)).Nodup:=by
 rcases h with ⟨_,rfl⟩ | ⟨b,e,h⟩
 ·simp
 ·exact h.nodup
theorem MV.lookup {t e:TypeId} (h:MV P K ek ev w v m) (KY:Keyed P K) (inj:Inj ek) (ht:P.underlying t = some (.map K e)) {z:Value} (hz:(zeroValue e).run P w = .ok z w) (key : κ) {l:Lit} (hk:keyOf P K (ek key) = some l) :
  (Instr.lookup t v (ek key) false).run P w = .ok (((JG m key).map ev).getD z) w:=by
 rcases h with ⟨rfl,rfl⟩ | ⟨b,rfl,h⟩
 ·have h0:JG ([]:List (κ × ν)) key = none:=rfl;rw [h0];rcases KY.find w hk [] (by simp) with ⟨f1,_⟩ | ⟨j,e0,_,f2,_⟩
  ·simp [Instr.lookup,run_underlying ht,KY.check w _ hk,f1,hz,Result.andThen]
  ·simp at f2
 ·exact h.lookup KY inj ht hz key hk
def MVit (P:Program) (K:TypeId) (ek : κ -> Value) (ev : ν -> Value) (w:World) (v:Value) (r:Nat) (m:List (κ × ν)) (idx:List Nat):Prop:=(v = .map none /\ m = [] /\ idx = [] /\ w.heap[r]? = some (.mapIter none 0 #[] 0)) ∨ ∃ b,v = .map (some b) /\ MapIt P K ek ev w b r m idx
theorem MVit.len_le (h:MVit P K ek ev w v r m idx):idx.length <= m.length:=by
 rcases h with ⟨_,rfl,rfl,_⟩ | ⟨b,e,h⟩
 ·simp
 ·exact h.len_le
theorem MV.range {t e:TypeId} (h:MV P K ek ev w v m) (ht:P.underlying t = some (.map K e)) :
  ∃ o,(Instr.range t v).run P w = .ok (.pointer (some ⟨w.heap.size,0,none⟩)) (w.alloc o) /\ MVit P K ek ev (w.alloc o) v w.heap.size m []:=by
 rcases h with ⟨rfl,rfl⟩ | ⟨b,rfl,h⟩
 ·exact ⟨_,ZeK ht w,.inl ⟨rfl,rfl,rfl,(MapKept.heap_alloc w _).1⟩⟩
 ·obtain ⟨o,h1,h2⟩:=h.range ht;exact ⟨o,h1,.inr ⟨b,rfl,h2⟩⟩
theorem MVit.next (h:MVit P K ek ev w v r m idx) (d : κ × ν) (ty:TypeId) :
  ((ZO m d idx).Perm m /\ (Instr.next (.pointer (some ⟨r,0,none⟩)) false ty).run P w = .ok (.tuple #[.bool false]) w) ∨
  ∃ i w',i < m.length /\ i ∉ idx /\ (Instr.next (.pointer (some ⟨r,0,none⟩)) false ty).run P w = .ok (.tuple #[.bool true,ek (m[i]?.getD d).1,ev (m[i]?.getD d).2]) w' /\ MVit P K ek ev w' v r m (idx ++ [i]) /\
   (Instr.entry (.pointer (some ⟨r,0,none⟩))).run P w' = .ok (.tuple #[ek (m[i]?.getD d).1,ev (m[i]?.getD d).2]) w' /\ w.grownBy w' (some r) /\ w'.heap.size = w.heap.size:=by
 rcases h with ⟨rfl,rfl,rfl,h4⟩ | ⟨b,rfl,h⟩
 ·exact .inl ⟨List.Perm.refl _,ZgQ h4 ty⟩
 ·rcases h.next d ty with h1 | ⟨i,w',h1,h2,h3,h4,h5,h6,h7⟩
  ·exact .inl h1
  ·exact .inr ⟨i,w',h1,h2,h3,.inr ⟨b,rfl,h4⟩,h5,h6,h7⟩
end
end Go
namespace Go.Proofs.YtcjicjfbippmnaaGreat
open Go.RowKit Ear
structure Kept (V W:World) (r:Nat):Prop where
 size:V.heap.size <= W.heap.size
 block:∀ b,b < V.heap.size -> b ≠ r -> W.heap[b]? = V.heap[b]?
theorem Kept.refl (V:World) (r:Nat):Kept V V r:=⟨Nat.le_refl _,fun _ _ _=>rfl⟩
theorem Kept.grown {V W W':World} {r:Nat} (h:Kept V W r) (hg:W.grownBy W' (some r)):Kept V W' r:=⟨tR h.size hg.size,fun b hb hne=>(hg.block b (Nat.lt_of_lt_of_le hb h.size) (fun e=>hne (by injection e))).trans (h.block b hb hne)⟩
theorem Kept.below {V W W':World} {r:Nat} (h:Kept V W r) (hb:Below W.heap.size W W'):Kept V W' r:=⟨tR h.size hb.size,fun b hlt hne=>(hb.block b (Nat.lt_of_lt_of_le hlt h.size)).trans (h.block b hlt hne)⟩
theorem int_keyed:Maps.Keyed Tryz.prog 3:=Maps.int_keyed Tryz.underlying3
theorem Zfj {z:Int} (h : -9223372036854775808 <= z /\ z <= 9223372036854775807):∃ l,keyOf Tryz.prog 3 (.int .i64 z) = some l:=⟨_,Maps.keyOf_int_mk Tryz.underlying3 (WalkArith.wf_i64 h)⟩
theorem Zfn:Inj (Value.int .i64):=fun a b h=>by injection h
structure PredII (g:FuncId) (lb:Array Value) (p:List Int -> Bool) (L:List Inn) (w:World):Prop where
 enter:∀ (args:Array Value) (w:World),(callFunc g args).run Tryz.prog w = .ok (.enter g args) w
 gives:∀ (u:World),Below w.heap.size w u -> ∀ x ∈ L,Calls Tryz.prog g (#[.slice x.1 x.2.2.length x.2.1] ++ lb) u (Zdq (p x.2.2) u)
def ZkJ (b:Bool) (w:World) (e:Ending) (w':World):Prop:=∃ r:Int,e = .returned (.int .i64 r) /\ Below w.heap.size w w' /\ decide (0 <= r) = b
theorem Zbr {p:List Int -> Bool} {L:List Inn} {k:Nat} (hk:k < L.length) (h:((Jx L).take k).any p = false) (hx:p L[k].2.2 = false):((Jx L).take (k + 1)).any p = false:=by
 rw [List.take_succ_eq_append_getElem (by simpa using hk),List.any_append,h];simp [hx]
theorem ZcB (g:FuncId) (q:Array Value) (p:List Int -> Bool) (A:Option Addr) (c:Nat) (L:List Inn) (w:World) (hp:PredII g q p L w) (h:LL w A L) (hn:L.length <= 9223372036854775807) (lb:Array Value) (hlb:lb = q) :
  Calls Tryz.prog 183 #[.slice A L.length c,.func (.func g) #[] lb] w (ZkJ ((Jx L).any p) w):=by
 have heg:=hp.enter;subst hlb;have HP:=zH hp.gives;clear hp;go_enter Tryz.func183,Tryz.ntmps183;go_wp2_with fail;go_loopw [8] (fun i wr=>∃ k:Nat,k <= L.length /\ i = .int .i64 k /\ Hid (((Jx L).take k).any p = false) /\ Hid (Below w.heap.size w wr)) (fun i _=>L.length - (intOf i).toNat)
 case atStart=>exact ⟨0,Nat.zero_le _,rfl,zH rfl,zH bR⟩
 case round=>
  obtain ⟨k,hk,rfl,HN,HB⟩:=hrel;by_cases hlt:k < L.length
  ·obtain ⟨bk,off,rfl,hbk,hc⟩:=(h.below HB.out).lies.lat hlt;have HC:=zH (HP.out wr HB.out _ (yM hlt));have HT:Hid (p L[k].2.2 = true -> (Jx L).any p = true):=zH (fun hx=>List.any_eq_true.2 ⟨L[k].2.2,List.mem_map_of_mem (f:=fun x:Inn=>x.2.2) (yM hlt),hx⟩);have HF:Hid (p L[k].2.2 = false -> ((Jx L).take (k + 1)).any p = false):=zH (fun hx=>Zbr hlt HN.out hx);generalize L[k] = X at *
   obtain ⟨XA,Xc,xl⟩:=X;simp only at *
   cases hpx:p xl with
   | true=>
    have hT:=HT.out hpx;have HR:=zH hT;rw [hpx] at HC;clear hpx HT HF hT;go_wp2_with fail;refine HC.out.mono ?_;rintro e w' ⟨rfl,hb⟩;have HB2:=zH (HB.out.trans (hb.mono HB.out.size));clear hb HC;go_wp2_with fail;go_ret;exact ⟨k,rfl,HB2.out,by rw [HR.out];simp⟩
   | false=>
    have HR:=zH (HF.out hpx);rw [hpx] at HC;clear hpx HT HF;go_wp2_with fail;refine HC.out.mono ?_;rintro e w' ⟨rfl,hb⟩;have HB2:=zH (HB.out.trans (hb.mono HB.out.size));clear hb HC;go_wp2_with fail;exact ⟨⟨k + 1,by omega,by go_num,HR,HB2⟩,by simp [intOf];omega⟩
  ·have hz:=HN.out;rw [List.take_of_length_le (by simp;omega)] at hz;have HZ:=zH hz;clear hz HN;go_wp2_with fail;go_ret;exact ⟨-1,rfl,HB.out,by rw [HZ.out];rfl⟩
theorem J0 (g:FuncId) (q:Array Value) (p:List Int -> Bool) (A:Option Addr) (c:Nat) (L:List Inn) (w:World) (hp:PredII g q p L w) (h:LL w A L) (hn:L.length <= 9223372036854775807) (b:Bool) (hb:Hid ((Jx L).any p = b)) :
  Calls Tryz.prog 153 #[.slice A L.length c,.func (.func g) #[] q] w (Zdq b w):=by
 go_enter Tryz.func153,Tryz.ntmps153;go_wp2_with fail;refine (ZcB g q p A c L _ hp h hn q rfl).mono ?_;rintro e w' ⟨r,rfl,hbw,hr⟩;rw [hb.out] at hr;have HR:=zH hr;clear hr;go_wp2_with fail;go_ret;exact ⟨Jn HR.out,hbw⟩
theorem ZbX (A:Option Addr) (c n:Nat) (w:World) (b:Bool) (hb:Hid (decide (500 < n) = b)):Calls Tryz.prog 154 #[.slice A n c] w (Zdq b w):=by
 go_enter Tryz.func154,Tryz.ntmps154;go_wp2_with fail;go_ret;exact ⟨Jn (by rw [<- hb.out];simp [decide_eq_decide];omega),Below.refl _ _⟩
theorem Zec (A:Option Addr) (c:Nat) (l:List Int) (v:Int) (bV:Nat) (w:World) (h:Lies w A (ics l)) (hn:l.length <= 9223372036854775807) (cV:w.cell? ⟨bV,0,none⟩ = some (.int .i64 v)) (b:Bool) (hb:Hid ((!Xx 1 v l) = b)) :
  Calls Tryz.prog 155 #[.slice A l.length c,.pointer (some ⟨bV,0,none⟩)] w (Zdq b w):=by
 generalize hx:Xx 1 v l = x at *
 have HX:=zH hx;clear hx;go_enter Tryz.func155,Tryz.ntmps155;go_wp2_with fail;refine (Xl A c l 1 v _ h hn x HX).mono ?_;rintro e w' ⟨rfl,hb2⟩;go_wp2_with fail;go_ret;exact ⟨Jn hb.out,hb2⟩
theorem YK (L:List Inn) (w:World):PredII 154 #[] (fun l=>decide (500 < l.length)) L w:=⟨enters_of Tryz.func154 (by kernel_rfl) rfl,fun u _ x _=>ZbX x.1 x.2.1 x.2.2.length u _ (zH rfl)⟩
theorem Qj (L:List Inn) (w:World) (v:Int) (bV:Nat) (hl:∀ x ∈ L,InOk w x) (cV:w.cell? ⟨bV,0,none⟩ = some (.int .i64 v)) (hb:bV < w.heap.size):PredII 155 #[.pointer (some ⟨bV,0,none⟩)] (fun l=>!Xx 1 v l) L w:=
 ⟨enters_of Tryz.func155 (by kernel_rfl) rfl,fun u hu x hx=>Zec x.1 x.2.1 x.2.2 v bV u ((hl x hx).below hu).1 (hl x hx).2.2.1 ((hu.cell (p:=⟨bV,0,none⟩) hb).trans cV) _ (zH rfl)⟩
end Go.Proofs.YtcjicjfbippmnaaGreat
namespace Go.Proofs.YtcjicjfbippmnaaGreat
open Go.RowKit

def VQ:Go.Shelf.Ren:=⟨fun | 6=>185 | 15=>201 | 14=>200 | 28=>204 | 29=>213 | 20=>205 | 21=>206 | 22=>207 | 23=>208 | 24=>209 | 25=>210 | 26=>211 | 27=>212 | 46=>216 | 47=>217 | 48=>218 | 49=>219 | 50=>220 | 57=>222 | n=>n,fun | 22=>82 | 24=>114 | 25=>226 | 3=>3 | 39=>193 | 0=>0 | 53=>173 | 55=>152 | 4=>4 | 46=>257 | 45=>256 | 50=>216 | 5=>5 | 9=>9 | 66=>264 | 70=>268 | 76=>271 | 77=>272 | n=>n,fun n=>n⟩
theorem Ve:Go.Proofs.SlLaysF0.n6 Tryz.prog VQ:={
 mixed:=by kernel_rfl,
 f6 := ⟨"slices.SortFunc[[]earshot/api.Gram,earshot/api.Gram]", by decide, Tryz.func185.trans (congrArg some (by kernel_rfl))⟩,
 f14 := ⟨"slices.pdqsortCmpFunc[earshot/api.Gram]", by decide, Tryz.func200.trans (congrArg some (by kernel_rfl))⟩,
 f15:=Tryz.func201.trans (congrArg some (by kernel_rfl)),
 f20 := ⟨"slices.insertionSortCmpFunc[earshot/api.Gram]", by decide, Tryz.func205.trans (congrArg some (by kernel_rfl))⟩,
 f21 := ⟨"slices.heapSortCmpFunc[earshot/api.Gram]", by decide, Tryz.func206.trans (congrArg some (by kernel_rfl))⟩,
 f22 := ⟨"slices.breakPatternsCmpFunc[earshot/api.Gram]", by decide, Tryz.func207.trans (congrArg some (by kernel_rfl))⟩,
 f23 := ⟨"slices.choosePivotCmpFunc[earshot/api.Gram]", by decide, Tryz.func208.trans (congrArg some (by kernel_rfl))⟩,
 f24 := ⟨"slices.reverseRangeCmpFunc[earshot/api.Gram]", by decide, Tryz.func209.trans (congrArg some (by kernel_rfl))⟩,
 f25 := ⟨"slices.partialInsertionSortCmpFunc[earshot/api.Gram]", by decide, Tryz.func210.trans (congrArg some (by kernel_rfl))⟩,
 f26 := ⟨"slices.partitionEqualCmpFunc[earshot/api.Gram]", by decide, Tryz.func211.trans (congrArg some (by kernel_rfl))⟩,
 f27 := ⟨"slices.partitionCmpFunc[earshot/api.Gram]", by decide, Tryz.func212.trans (congrArg some (by kernel_rfl))⟩,
 f28:=Tryz.func204.trans (congrArg some (by kernel_rfl)),
 f29:=Tryz.func213.trans (congrArg some (by kernel_rfl)),
 f46 := ⟨"slices.siftDownCmpFunc[earshot/api.Gram]", by decide, Tryz.func216.trans (congrArg some (by kernel_rfl))⟩,
 f47:=Tryz.func217.trans (congrArg some (by kernel_rfl)),
 f48:=Tryz.func218.trans (congrArg some (by kernel_rfl)),
 f49 := ⟨"slices.medianAdjacentCmpFunc[earshot/api.Gram]", by decide, Tryz.func219.trans (congrArg some (by kernel_rfl))⟩,
 f50 := ⟨"slices.medianCmpFunc[earshot/api.Gram]", by decide, Tryz.func220.trans (congrArg some (by kernel_rfl))⟩,
 f57 := ⟨"slices.order2CmpFunc[earshot/api.Gram]", by decide, Tryz.func222.trans (congrArg some (by kernel_rfl))⟩,
 t0:=Tryz.underlying0,
 a0:=Tryz.isAgg0,
 z0:=Tryz.sizeOf0,
 v0:=Tryz.zeroValue0,
 t3:=Tryz.underlying3,
 a3:=Tryz.isAgg3,
 z3:=Tryz.sizeOf3,
 v3:=Tryz.zeroValue3,
 t4:=Tryz.underlying4,
 a4:=Tryz.isAgg4,
 z4:=Tryz.sizeOf4,
 v4:=Tryz.zeroValue4,
 t5:=Tryz.underlying5,
 a5:=Tryz.isAgg5,
 z5:=Tryz.sizeOf5,
 v5:=Tryz.zeroValue5,
 t9:=Tryz.underlying9,
 a9:=Tryz.isAgg9,
 z9:=Tryz.sizeOf9,
 v9:=Tryz.zeroValue9,
 t22:=Tryz.underlying82,
 a22:=Tryz.isAgg82,
 z22:=Tryz.sizeOf82,
 v22:=Tryz.zeroValue82,
 t25:=Tryz.underlying226,
 a25:=Tryz.isAgg226,
 z25:=Tryz.sizeOf226,
 v25:=Tryz.zeroValue226,
 t39:=Tryz.underlying193,
 a39:=Tryz.isAgg193,
 z39:=Tryz.sizeOf193,
 v39:=Tryz.zeroValue193,
 t45:=Tryz.underlying256,
 a45:=Tryz.isAgg256,
 z45:=Tryz.sizeOf256,
 v45:=Tryz.zeroValue256,
 t46:=Tryz.underlying257,
 a46:=Tryz.isAgg257,
 z46:=Tryz.sizeOf257,
 v46:=Tryz.zeroValue257,
 t50:=Tryz.underlying216,
 a50:=Tryz.isAgg216,
 z50:=Tryz.sizeOf216,
 v50:=Tryz.zeroValue216,
 t53:=Tryz.underlying173,
 a53:=Tryz.isAgg173,
 z53:=Tryz.sizeOf173,
 v53:=Tryz.zeroValue173,
 t55:=Tryz.underlying152,
 a55:=Tryz.isAgg152,
 z55:=Tryz.sizeOf152,
 v55:=Tryz.zeroValue152,
 t66:=Tryz.underlying264,
 a66:=Tryz.isAgg264,
 z66:=Tryz.sizeOf264,
 v66:=Tryz.zeroValue264,
 t70:=Tryz.underlying268,
 a70:=Tryz.isAgg268,
 z70:=Tryz.sizeOf268,
 v70:=Tryz.zeroValue268,
 t76:=Tryz.underlying271,
 a76:=Tryz.isAgg271,
 z76:=Tryz.sizeOf271,
 v76:=Tryz.zeroValue271,
 t77:=Tryz.underlying272,
 a77:=Tryz.isAgg272,
 z77:=Tryz.sizeOf272,
 v77:=Tryz.zeroValue272 }
open Go.Shelf Go.Sort Ear
abbrev GS (w:World):={ g:Gm // InT w g.1 }
instance (w:World):Inhabited (GS w):=⟨⟨((none,0,[]),0),InT.nil w⟩⟩
def Zaw {w:World} (x:GS w):List Value:=[.slice x.1.1.1 x.1.1.2.2.length x.1.1.2.1,.int .i64 x.1.2]
def gcf {w:World} (x y:GS w):Int:=Xb x.1.1.2.2 y.1.1.2.2
theorem ZiA (L:List Gm) (t:Nat) (ht:t < L.length * 2):(J7 L)[t]? = some (if t % 2 = 0 then Value.slice (L[t / 2]?.getD default).1.1 (L[t / 2]?.getD default).1.2.2.length (L[t / 2]?.getD default).1.2.1 else .int .i64 (L[t / 2]?.getD default).2):=by
 have h2:t / 2 < L.length:=by omega
 obtain ⟨e1,e2⟩:=Vv L h2;rw [gE h2];rcases Nat.mod_two_eq_zero_or_one t with h | h
 ·rw [if_pos h];have e:t = t / 2 * 2:=by omega
  conv=>lhs;rw [e,e1]
  rfl
 ·rw [if_neg (by omega)];have e:t = t / 2 * 2 + 1:=by omega
  conv=>lhs;rw [e,e2]
  rfl
theorem QT {w:World} (L:List (GS w)):(flatK Zaw 2 L.toArray).toList = J7 (L.map (·.1)):=by
 apply List.ext_getElem?;intro t;by_cases ht:t < L.length * 2
 ·rw [ZiA _ t (by simpa using ht)];have h1:(flatK Zaw 2 L.toArray).toList[t]? = some ((flatK Zaw 2 L.toArray)[t]!):=by
   rw [Array.getElem?_toList,getElem!_pos _ t (by simpa using ht)];exact Array.getElem?_eq_getElem (by simpa using ht)
  rw [h1,get_flatK _ _ _ t (by simpa using ht)];have h2:t / 2 < L.length:=by omega
  have h3:L.toArray[t / 2]! = L[t / 2]:=by rw [getElem!_pos _ _ (by simpa using h2)];simp
  rw [h3,List.getElem?_map,gE h2];rcases Nat.mod_two_eq_zero_or_one t with h | h <;> simp [Zaw,h]
 ·rw [List.getElem?_eq_none (by simp;omega),List.getElem?_eq_none (by rw [Jp];simp;omega)]
theorem ZiE (w:World):SWO (ltOf (gcf (w:=w))):=by
 constructor
 ·intro x;exact dF (by unfold gcf;rw [X8.2 rfl];omega)
 ·intro x y z h1 h2;exact decide_eq_true (XS (of_decide_eq_true h1) (of_decide_eq_true h2))
 ·intro x y z h1 h2;have h1:=of_decide_eq_false h1;have h2:=of_decide_eq_false h2;refine dF fun h=>?_;unfold gcf at *
  have hn:=VE x.1.1.2.2 y.1.1.2.2;by_cases e:Xb y.1.1.2.2 x.1.1.2.2 = 0
  ·rw [X8] at e;rw [<- e] at h;exact h2 h
  ·exact h2 (XS (show Xb y.1.1.2.2 x.1.1.2.2 < 0 by omega) h)
section
variable {w:World} {blk:Nat} {cur:Array Value} {fr:Nat × Nat}
theorem Yf {α:Type} [Inhabited α] (enc : α -> List Value) (k off m:Nat) (dk:Array α) (os:Array Obj) {b:Nat} (hb:b < w.heap.size) (hne:b ≠ blk):(sortWorldK enc k w blk off m dk os).heap[b]? = w.heap[b]?:=by
 unfold sortWorldK;rw [heap_grow_old _ _ (by rw [size_putRowK];exact hb)];simp [putRowK,putRow,mapBlock,Sort.ahead,Array.getElem?_modify,Ne.symm hne]
theorem Qo {α:Type} [Inhabited α] (enc : α -> List Value) (k off m:Nat) (dk:Array α) (os:Array Obj) {e:TypeId} (hb:w.heap[blk]? = some (.cells cur e fr)):(sortWorldK enc k w blk off m dk os).heap[blk]? = some (.cells (putCells id off (flatK enc k dk) cur) e fr):=by
 have hg:blk < w.heap.size:=(aE hb).1;unfold sortWorldK;rw [heap_grow_old _ _ (by rw [size_putRowK];exact hg)];simp [putRowK,putRow,mapBlock,Sort.ahead,Array.getElem?_modify,hb,onCells]
theorem Vd {α:Type} [Inhabited α] (enc : α -> List Value) (k off m:Nat) (dk:Array α) (os:Array Obj):w.grownBy (sortWorldK enc k w blk off m dk os) (some blk):=
 ⟨rfl,rfl,rfl,size_sortWorldK_c enc k w blk off m dk os,fun b hb hne=>Yf enc k off m dk os hb (fun e=>hne (by rw [e]))⟩
end
theorem Qv (x y:Gm) (W:World) (hx:InT W x.1) (hy:InT W y.1) :
  Calls Tryz.prog 186 #[.agg #[.slice x.1.1 x.1.2.2.length x.1.2.1,.int .i64 x.2],.agg #[.slice y.1.1 y.1.2.2.length y.1.2.1,.int .i64 y.2]] W fun e w'=>e = .returned (.int .i64 (Xb x.1.2.2 y.1.2.2)) /\ ∃ q os',w' = grow (W.drewN q) os':=by
 obtain ⟨V,hV⟩:∃ V:World,V = (W.alloc (.cells #[.slice x.1.1 x.1.2.2.length x.1.2.1,.int .i64 x.2] 114)).alloc (.cells #[.slice y.1.1 y.1.2.2.length y.1.2.1,.int .i64 y.2] 114):=⟨_,rfl⟩;have HB:Hid (Below W.heap.size W V):=zH (by rw [hV];exact al2 W _ _);have HX:=zH (hx.below HB.out);have HY:=zH (hy.below HB.out);have h0:V.heap[W.heap.size]? = some (.cells #[.slice x.1.1 x.1.2.2.length x.1.2.1,.int .i64 x.2] 114 (0,0)):=by rw [hV];exact (Below.heap_alloc _ _ _ (by simp)).trans (heap_alloc_new W _)
 have h1:V.heap[W.heap.size + 1]? = some (.cells #[.slice y.1.1 y.1.2.2.length y.1.2.1,.int .i64 y.2] 114 (0,0)):=by rw [hV];have:=heap_alloc_new (W.alloc (.cells #[.slice x.1.1 x.1.2.2.length x.1.2.1,.int .i64 x.2] 114)) (.cells #[.slice y.1.1 y.1.2.2.length y.1.2.1,.int .i64 y.2] 114);simpa using this
 have c0:V.cell? ⟨W.heap.size,0,none⟩ = some (.slice x.1.1 x.1.2.2.length x.1.2.1):=(cell_of_row V _ 0 _ _ _ h0).trans rfl;have c1:V.cell? ⟨W.heap.size + 1,0,none⟩ = some (.slice y.1.1 y.1.2.2.length y.1.2.1):=(cell_of_row V _ 0 _ _ _ h1).trans rfl;have HE:Hid (V = grow (W.drewN 0) #[.cells #[.slice x.1.1 x.1.2.2.length x.1.2.1,.int .i64 x.2] 114,.cells #[.slice y.1.1 y.1.2.2.length y.1.2.1,.int .i64 y.2] 114]):=zH (by rw [hV,alloc_eq_grow,alloc_eq_grow,grow_grow];rfl);clear h0 h1 hx hy;go_enter Tryz.func186,Tryz.ntmps186;go_wp2_with fail;rw [<- hV];clear hV;go_wp2_with fail;have hC:=Uq x.1.1 y.1.1 x.1.2.1 y.1.2.1 x.1.2.2 y.1.2.2 V HX.out.1.1 HY.out.1.1 HX.out.1.2.2.1 HY.out.1.2.2.1 (Xb x.1.2.2 y.1.2.2) (zH rfl);refine hC.mono ?_;rintro e w' ⟨rfl,rfl⟩;go_wp2_with fail;go_ret;exact ⟨rfl,0,_,HE.out⟩
theorem Zg7 (w:World):(isAgg 114).run Tryz.prog w = .ok true w:=Tryz.isAgg114 w
theorem Zfu (w:World):(Go.sizeOf 114).run Tryz.prog w = .ok 2 w:=Tryz.sizeOf114 w
theorem Ut (cur:Array Value) (F:Array Value) (h:F.size <= cur.size):(putCells id 0 F cur).toList.take F.size = F.toList:=by
 apply List.ext_getElem?;intro j;by_cases hj:j < F.size
 ·rw [List.getElem?_take_of_lt hj,Array.getElem?_toList];simp [putCells,hj,show j < cur.size by omega]
 ·rw [List.getElem?_take_eq_none (by omega),List.getElem?_eq_none (by simp;omega)]
theorem ZeB (A:Option Addr) (c base:Nat) (L:List Gm) (w:World) (h:GLo w base A c L) (hA:L ≠ []) (hsz:L.length < 4611686018427387904) :
  Calls Tryz.prog 185 #[.slice A L.length c,.func (.func 186) #[] #[]] w fun e w'=>
   e = .returned (.tuple #[]) /\ ∃ L':List Gm,L'.Perm L /\ L'.Pairwise (fun x y=>¬ Xb y.1.2.2 x.1.2.2 < 0) /\ GLo w' base A c L' /\ w.grownBy w' (Value.slice A L.length c).ownBlock:=by
 have hrow:=h.row;obtain ⟨q1,q2⟩:=hrow;rcases q2 with ⟨_,e⟩ | ⟨g,cap,cur,e,hb,hg,hn,hm,hs,ht⟩
 ·have hlen:L.length = 0:=e;exact absurd (List.length_eq_zero_iff.1 hlen) hA
 ·injection e with e1 _ e3
  subst e1 e3;have hl:(J7 L).length = L.length * 2:=Jp L
  -- the row as elements that can be read
  let d:List (GS w):=L.attach.map fun g=>⟨g.1,h.inn g.1 g.2⟩;have hd:d.map (·.1) = L:=by
   simp only [d,List.map_map];exact List.attach_map_subtype_val L
  have hdl:d.length = L.length:=by simp [d]
  have hF:(flatK Zaw 2 d.toArray).toList = J7 L:=by rw [QT,hd]
  have hH:HoldsK Zaw 2 w g 0 d.toArray:=by
   intro j hj;refine ⟨?_,by simp [World.frozen?,hg]⟩;have hj':j < (J7 L).length:=(by rw [<- hF];simpa using hj);have h1:cur.toList[j]? = (J7 L)[j]?:=by
    rw [<- ht,List.getElem?_take_of_lt (by omega)]
   simp only [World.cell?,hg,Nat.zero_add,Option.isSome_none,Bool.false_eq_true,if_false];rw [<- Array.getElem?_toList,h1,<- hF,Array.getElem?_toList,getElem!_pos _ j hj,Array.getElem?_eq_getElem hj];rfl
  have hlt:g < w.heap.size:=(aE hg).1;have hcmp:CmpLays Tryz.prog 186 #[] (Zaw (w:=w)) 2 gcf g 0 d.toArray.size w:=by
   intro m os dk hdk x y;have key:∀ z:GS w,InT (sortWorldK Zaw 2 w g 0 m dk os) z.1.1:=fun z=>z.2.block (size_sortWorldK_c Zaw 2 w g 0 m dk os) fun b hbt=>
    Yf Zaw 2 0 m dk os hbt.lt (fun e=>by subst e;exact hbt.ne ⟨_,_,hg⟩ (by decide) rfl)
   exact Qv x.1 y.1 _ (key x) (key y)
  have hcall:=AnyQ.slices_SortFunc Ve 2 Zg7 Zfu Zaw (fun _=>rfl) (fun x v hv=>by simp [Zaw] at hv;rcases hv with rfl | rfl <;> rfl) gcf (ZiE w) 186 #[] g 0 c d.toArray w
   (enters_of Tryz.func186 (by kernel_rfl) rfl) hcmp hH hlt (by simp [hdl];exact hsz)
  have hds:d.toArray.size = L.length:=by simp [hdl]
  rw [hds] at hcall;refine hcall.mono ?_;rintro e w' ⟨rfl,d',n,os,⟨p1,p2,p3⟩,hsrt,rfl⟩;refine ⟨rfl,d'.toList.map (·.1),?_,?_,?_,Vd Zaw 2 0 n d' os⟩
  ·have hs2:d'.size = L.length:=by rw [p1,hds]
   have e1:(d'.extract 0 L.length).toList = d'.toList:=(by rw [<- hs2];simp);have e2:(d.toArray.extract 0 L.length).toList = d:=(by rw [<- hdl];simp);rw [e1,e2] at p3;have:=p3.map (·.1)
   rwa [hd] at this
  ·have hs2:d'.size = L.length:=by rw [p1,hds]
   rw [List.pairwise_map,List.pairwise_iff_getElem];intro i j hi hj hij;simp at hi hj;have:=of_decide_eq_false (hsrt i j (Nat.zero_le _) hij (by omega));rw [getElem!_pos d' i hi,getElem!_pos d' j hj] at this;simpa [gcf] using this
  ·have hs2:d'.size = L.length:=by rw [p1,hds]
   have hml:(d'.toList.map (·.1)).length = L.length:=(by simp [hs2]);have hFd:(flatK Zaw 2 d').toList = J7 (d'.toList.map (·.1)):=(by have:=QT d'.toList;simpa using this);refine ⟨⟨by rw [Jp],.inr ⟨g,c,putCells id 0 (flatK Zaw 2 d') cur,by rw [hml],hb,Qo Zaw 2 0 n d' os hg,by rw [hml];exact hn,hm,by simp [putCells,hs],?_⟩⟩,?_,?_⟩
   ·have:=Ut cur (flatK Zaw 2 d') (by simp [hs2];omega);rw [hFd] at this;rw [<- this];congr 1;simp [hs2]
   ·intro x hx;obtain ⟨z,hz,rfl⟩:=List.mem_map.1 hx;exact z.2.block (size_sortWorldK_c Zaw 2 w g 0 n d' os) fun b hbt=>
     Yf Zaw 2 0 n d' os hbt.lt (fun e=>by subst e;exact hbt.ne ⟨_,_,hg⟩ (by decide) rfl)
   ·intro x hx;have hs2:d'.size = L.length:=(by rw [p1,hds]);have e1:(d'.extract 0 L.length).toList = d'.toList:=(by rw [<- hs2];simp);have e2:(d.toArray.extract 0 L.length).toList = d:=(by rw [<- hdl];simp);rw [e1,e2] at p3;have:=p3.map (·.1);rw [hd] at this;exact h.num x (this.mem_iff.1 hx)
theorem ZeC (A:Option Addr) (c base:Nat) (L:List Gm) (w:World) (h:GLo w base A c L) (hsz:L.length < 4611686018427387904) :
  Calls Tryz.prog 185 #[.slice A L.length c,.func (.func 186) #[] #[]] w fun e w'=>
   e = .returned (.tuple #[]) /\ ∃ L':List Gm,L'.Perm L /\ L'.Pairwise (fun x y=>¬ Xb y.1.2.2 x.1.2.2 < 0) /\ GLo w' base A c L' /\ w.grownBy w' (Value.slice A L.length c).ownBlock:=by
 by_cases hA:L = []
 ·subst hA;refine (AnyF.slices_SortFunc_none Ve A c (.func (.func 186) #[] #[]) w).mono ?_;rintro e w' ⟨rfl,rfl⟩;exact ⟨rfl,[],List.Perm.refl _,List.Pairwise.nil,h,⟨rfl,rfl,rfl,Nat.le_refl _,fun _ _ _=>rfl⟩⟩
 ·exact ZeB A c base L w h hA hsz
end Go.Proofs.YtcjicjfbippmnaaGreat
