/- TopLearned -/
import Derived.Test.YtlgdlenoohkipaaGreatMTearn16
import Derived.DeepKeys4
import Derived.Shelf.SlSortCmp.NoneTotal
set_option maxRecDepth 100000
set_option maxHeartbeats 32000000
namespace Go.Proofs.YtlgdlenoohkipaaGreat
open Go.RowKit Ear

def kx (l:List Int) (j i:Nat):Int:=if i < j then l[i]?.getD 0 + 1 else 0
def kcs (l:List Int) (j:Nat):Array Value:=#[.int .i64 (kx l j 0),.int .i64 (kx l j 1),.int .i64 (kx l j 2),.int .i64 (kx l j 3)]
theorem Zh8 {l:List Int} {j:Nat} (hj:j < 4):(kcs l j).setIfInBounds j (.int .i64 (l[j]?.getD 0 + 1)) = kcs l (j + 1):=by
 rcases (show j = 0 ∨ j = 1 ∨ j = 2 ∨ j = 3 by omega) with rfl | rfl | rfl | rfl <;> simp [kcs,kx]
theorem ZgD (l:List Int):kcs l 0 = #[.int .i64 0,.int .i64 0,.int .i64 0,.int .i64 0]:=by simp [kcs,kx]
abbrev K4:=Int × Int × Int × Int
def ek (k:K4):Value:=.agg #[.int .i64 k.1,.int .i64 k.2.1,.int .i64 k.2.2.1,.int .i64 k.2.2.2]
theorem YR:Inj ek:=fun a b h=>by
 obtain ⟨a0,a1,a2,a3⟩:=a;obtain ⟨b0,b1,b2,b3⟩:=b;simp [ek] at h;obtain ⟨rfl,rfl,rfl,rfl⟩:=h;rfl
def kOf (l:List Int):K4:=(kx l l.length 0,kx l l.length 1,kx l l.length 2,kx l l.length 3)
theorem JT {t:TypeId} {w:World} {k:Nat} {cs:Array Value} (h:w.heap[k]? = some (.cells cs t (0,0))) (j:Nat) (v:Value):(w.setCell ⟨k,j,none⟩ v).heap[k]? = some (.cells (cs.setIfInBounds j v) t (0,0)):=by
 simp [World.setCell,Array.getElem?_modify,h]
theorem Vh (A:Option Addr) (c:Nat) (l:List Int) (w:World) (h:Lies w A (ics l)) (hl:l.length <= 4) (hb:Hid (∀ x ∈ l,0 <= x /\ x <= 1000000)) :
  Calls Tryz.prog 89 #[.slice A l.length c] w fun e w'=>e = .returned (ek (kOf l)) /\ Below w.heap.size w w':=by
 obtain ⟨W,hW⟩:∃ W:World,W = (w.alloc (.cells #[.int .i64 0,.int .i64 0,.int .i64 0,.int .i64 0] 166)).alloc (.cells #[.int .i64 0,.int .i64 0,.int .i64 0,.int .i64 0] 166):=⟨_,rfl⟩;have HB0:Hid (Below w.heap.size w W):=zH (by rw [hW];exact (bR.alloc nR _).alloc (by simp) _);have HK:Hid (W.heap[w.heap.size + 1]? = some (.cells (kcs l 0) 166 (0,0))):=zH (by rw [hW,ZgD];have:=heap_alloc_new (w.alloc (.cells #[.int .i64 0,.int .i64 0,.int .i64 0,.int .i64 0] 166)) (.cells #[.int .i64 0,.int .i64 0,.int .i64 0,.int .i64 0] 166);simpa using this);have HR:Hid (W.heap[w.heap.size]? = some (.cells #[.int .i64 0,.int .i64 0,.int .i64 0,.int .i64 0] 166 (0,0))):=zH (by rw [hW];exact (Below.heap_alloc _ _ _ (by simp)).trans (heap_alloc_new w _));have H:=zH h;clear h;go_enter Tryz.func89,Tryz.ntmps89;go_wp2_with fail;rw [<- hW];clear hW;go_loopw [8] (fun i wr=>∃ j:Nat,j <= l.length /\ i = .int .i64 j /\ Hid (wr.heap[w.heap.size + 1]? = some (.cells (kcs l j) 166 (0,0))) /\ Hid (wr.heap[w.heap.size]? = some (.cells #[.int .i64 0,.int .i64 0,.int .i64 0,.int .i64 0] 166 (0,0))) /\ Hid (Below w.heap.size w wr)) (fun i _=>l.length - (intOf i).toNat)
 case atStart=>exact ⟨0,by omega,rfl,HK,HR,HB0⟩
 case round=>
  obtain ⟨j,hj,rfl,HKr,HRr,HBr⟩:=hrel;clear HK HR HB0;by_cases hlt:j < l.length
  ·obtain ⟨bx,ox,rfl,hbx,hcx⟩:=(H.out.below HBr.out).at_ hlt;have hx:=hb.out _ (yM hlt);have HS:=zH (Zh8 (l:=l) (j:=j) (by omega));have e1:l[j]?.getD 0 = l[j]:=(by rw [gE hlt];rfl);rw [e1] at HS hcx;clear e1;generalize l[j] = x at *
   have q1:∃ u,wr.cell? ⟨w.heap.size + 1,j,none⟩ = some u:=by
    rw [cell_of_row wr _ j _ _ _ HKr.out];have hs:j < (kcs l j).size:=(by simp [kcs];omega);exact ⟨_,Array.getElem?_eq_getElem hs⟩
   obtain ⟨u,q1⟩:=q1;have q2:wr.frozen? ⟨w.heap.size + 1,j,none⟩ = false:=Jl HKr.out j;have hj4:j < 4:=(by omega);go_wp2_with fail;refine ⟨⟨j + 1,by omega,by go_num,zH ?_,zH ?_,zH ?_⟩,by simp [intOf];omega⟩
   ·rw [JT HKr.out,HS.out]
   ·exact (Below.heap_setCell _ _ _ _ (by simp)).trans HRr.out
   ·exact HBr.out.setCell (by simp) _
  ·obtain rfl:j = l.length:=by omega
   have k0:=cell_of_row wr _ 0 _ _ _ HKr.out;have k1:=cell_of_row wr _ 1 _ _ _ HKr.out;have k2:=cell_of_row wr _ 2 _ _ _ HKr.out;have k3:=cell_of_row wr _ 3 _ _ _ HKr.out;have r0:=cell_of_row wr _ 0 _ _ _ HRr.out;have r1:=cell_of_row wr _ 1 _ _ _ HRr.out;have r2:=cell_of_row wr _ 2 _ _ _ HRr.out;have r3:=cell_of_row wr _ 3 _ _ _ HRr.out;have f0:wr.frozen? ⟨w.heap.size,0,none⟩ = false:=Jl HRr.out 0;have f1:wr.frozen? ⟨w.heap.size,1,none⟩ = false:=Jl HRr.out 1;have f2:wr.frozen? ⟨w.heap.size,2,none⟩ = false:=Jl HRr.out 2;have f3:wr.frozen? ⟨w.heap.size,3,none⟩ = false:=Jl HRr.out 3;simp [kcs] at k0 k1 k2 k3 r0 r1 r2 r3;go_wp2_with fail;have R4:=JT (JT (JT (JT HRr.out 0 (.int .i64 (kx l l.length 0))) 1 (.int .i64 (kx l l.length 1))) 2 (.int .i64 (kx l l.length 2))) 3 (.int .i64 (kx l l.length 3));have g0:=cR 0 R4;have g1:=cR 1 R4;have g2:=cR 2 R4;have g3:=cR 3 R4;simp at g0 g1 g2 g3;refine bodyPost_ret (v:=ek (kOf l)) (by simp [results,Tryz.results89,go_sem,g0,g1,g2,g3,ek,kOf]) rfl ?_;exact ⟨rfl,(((HBr.out.setCell nR _).setCell nR _).setCell nR _).setCell nR _⟩
structure GLo (w:World) (base:Nat) (A:Option Addr) (c:Nat) (L:List Gm):Prop where
 row:w.ownsRow base 93 2 (.slice A L.length c) L.length (J6 L)
 inn:∀ g ∈ L,InT w g.1
 num:∀ g ∈ L,-9223372036854775808 <= g.2 /\ g.2 <= 9223372036854775807
theorem GLo.tb {w:World} {base c:Nat} {A:Option Addr} {L:List Gm} (h:GLo w base A c L):Tb w A L:=⟨Lies.of_own h.row,fun g hg=>(h.inn g hg).1,h.num⟩
theorem GLo.nil (w:World) (base:Nat):GLo w base none 0 []:=⟨World.ownsRow_nil _ _ _ _,fun x h=>by simp at h,fun x h=>by simp at h⟩
theorem GLo.below {w w':World} {base c:Nat} {A:Option Addr} {L:List Gm} (h:GLo w base A c L) (hb:Below w.heap.size w w'):GLo w' base A c L:=⟨Jr h.row hb,fun x hx=>(h.inn x hx).below hb,h.num⟩
theorem GLo.le {w:World} {base base' c:Nat} {A:Option Addr} {L:List Gm} (h:GLo w base A c L) (hb:base' <= base):GLo w base' A c L:=⟨J9 h.row hb,h.inn,h.num⟩
theorem Zfh (L:List Gm) (g:Gm):J6 (L ++ [g]) = J6 L ++ [Value.slice g.1.1 g.1.2.2.length g.1.2.1,Value.int .i64 g.2]:=by simp [J6]
theorem GLo.snoc {w w':World} {base base' c c' n:Nat} {A A':Option Addr} {L:List Gm} {g:Gm} (h:GLo w base A c L) (hx:InT w g.1) (hgn : -9223372036854775808 <= g.2 /\ g.2 <= 9223372036854775807) (hg:w.grownBy w' (Value.slice A n c).ownBlock)
  (hr:w'.ownsRow base' 93 2 (.slice A' (L.length + 1) c') (L.length + 1) (J6 L ++ [Value.slice g.1.1 g.1.2.2.length g.1.2.1,Value.int .i64 g.2])):GLo w' base' A' c' (L ++ [g]):=by
 have key:∀ y,InT w y -> InT w' y:=fun y hy=>hy.grown hg (e:=93) (fun k e _=>BT.of_own (v:=.slice A L.length c) h.row (by rw [<- e];cases A <;> rfl)) (by decide);refine ⟨by rw [Zfh];simpa using hr,fun y hy=>?_,fun y hy=>?_⟩
 ·rcases List.mem_append.1 hy with hy | hy
  ·exact key _ (h.inn y hy)
  ·simp at hy;subst hy;exact key _ hx
 ·rcases List.mem_append.1 hy with hy | hy
  ·exact h.num y hy
  ·simp at hy;subst hy;exact hgn
theorem GLo.block {w w':World} {base c:Nat} {A:Option Addr} {L:List Gm} (h:GLo w base A c L) (hs:w.heap.size <= w'.heap.size) (hk:∀ b,BT w b 3 ∨ BT w b 93 /\ base <= b -> w'.heap[b]? = w.heap[b]?):GLo w' base A c L:=by
 refine ⟨?_,fun x hx=>(h.inn x hx).block hs fun b hb=>hk b (.inl hb),h.num⟩;have hrow:=h.row;obtain ⟨q1,q2⟩:=hrow;refine ⟨q1,?_⟩;rcases q2 with e | ⟨g,cap,cur,e,hb,hg,rest⟩
 ·exact .inl e
 ·refine .inr ⟨g,cap,cur,e,hb,(hk g (.inr ⟨⟨_,_,hg⟩,hb⟩)).trans hg,rest⟩
def kws (k:K4):List Int:=[k.1 - 1,k.2.1 - 1,k.2.2.1 - 1,k.2.2.2 - 1]
def gmW (o:Nat) (k:K4):List Int:=(kws k).take o
def kOk (k:K4):Prop:=(0 <= k.1 /\ k.1 <= 1000001) /\ (0 <= k.2.1 /\ k.2.1 <= 1000001) /\ (0 <= k.2.2.1 /\ k.2.2.1 <= 1000001) /\ (0 <= k.2.2.2 /\ k.2.2.2 <= 1000001)
abbrev MI (w:World) (b:Nat) (m:List (K4 × Int)):Prop:=MapIs Tryz.prog 166 ek (Value.int .i64) w b m
theorem UQ:(Tryz.prog.info? 93).map (fun i=>(i.zero,i.size,i.bytes)) = some (some (.agg #[.slice none 0 0,.int .i64 0]),2,32):=by kernel_rfl
theorem MI.len {w:World} {b:Nat} {m:List (K4 × Int)} (h:MI w b m) (ty:TypeId):(Builtin.len_ #[162] ty #[.map (some b)]).run Tryz.prog w = .ok (.int .i64 (m.length:Int)) w:=by
 obtain ⟨es,c,h1,h2⟩:=h.size;simp [Builtin.len_,run_underlying Tryz.underlying162,MapKept.run_getObj_map h1,goInt,Result.andThen,h2]
open Go.Maps
theorem Zj1:laidOutB Tryz.prog = true:=by kernel_rfl
theorem Ze4:(166:TypeId) < Tryz.prog.types.size:=of_decide_eq_true (by kernel_rfl)
theorem ZgB:(match Tryz.prog.underlying 166 with | some (.array _ _) | some (.struct _)=>true | _=>false) = true:=by rw [Tryz.underlying166]
theorem Xn:Keyed Tryz.prog 166:=Keyed.of_law (deep_law_laid Zj1 (m:=2) (by omega) Ze4 (by kernel_rfl) ZgB)
theorem Za8:Tryz.prog.cellsOf 166 = 4:=by kernel_rfl
theorem ZgC:Tryz.prog.keyType 166 = true:=by kernel_rfl
theorem Zba:Tryz.prog.cellsOf 3 = 1:=by kernel_rfl
theorem ZgW (n:Int) (h : 0 <= n /\ n <= 1000001):(Lit.int .i64 n).wf = true:=by
 simp [Lit.wf,IntKind.min,IntKind.max,IntKind.bits,IntKind.signed];omega
theorem UL (k:K4) (h:kOk k):∃ l,keyOf Tryz.prog 166 (ek k) = some l:=by
 obtain ⟨d,hd⟩:∃ d,Tryz.prog.types.size + 1 = d + 2:=⟨Tryz.prog.types.size - 1,by have : 166 < Tryz.prog.types.size:=Ze4;omega⟩;obtain ⟨k0,k1,k2,k3⟩:=k;obtain ⟨h0,h1,h2,h3⟩:=h;simp only at h0 h1 h2 h3;have w0:=ZgW k0 h0;have w1:=ZgW k1 h1;have w2:=ZgW k2 h2;have w3:=ZgW k3 h3;unfold keyOf;rw [Tryz.underlying166];simp only [ZgC,Bool.true_and,hd];have hf:(ek (k0,k1,k2,k3)).formed Tryz.prog 166 = true:=by simp [ek,Value.formed,Tryz.underlying166,Za8]
 rw [if_pos hf];simp [Program.keyLits,Tryz.underlying166,Tryz.underlying3,Za8,Zba,ek,Value.cells,List.range_succ,w0,w1,w2,w3]
end Go.Proofs.YtlgdlenoohkipaaGreat
namespace Go
open Go.ChangeMaps (setBlock heap_setBlock_same heap_setBlock_other)
open Go.Maps (Keyed)
open Go.RowKit
set_option linter.unusedSectionVars false
section
variable {κ ν : Type} [DecidableEq κ] {P:Program} {K:TypeId} {ek : κ -> Value} {ev : ν -> Value} {w:World} {r:Nat} {v:Value} {m:List (κ × ν)} {idx:List Nat}
theorem Zet {t e:TypeId} (ht:P.underlying t = some (.map K e)) (w:World):(Instr.range t (.map none)).run P w = .ok (.pointer (some ⟨w.heap.size,0,none⟩)) (w.alloc (.mapIter none 0 #[] 0)):=by
 simp only [Instr.range,Sem.run_bind,run_underlying ht,Result.andThen];rfl
theorem Zgp {w:World} (hr:w.heap[r]? = some (.mapIter none 0 #[] 0)) (ty:TypeId):(Instr.next (.pointer (some ⟨r,0,none⟩)) false ty).run P w = .ok (.tuple #[.bool false]) w:=by
 simp only [Instr.next,getObj,Sem.run_bind,Sem.run,hr,Result.andThen];rfl
def MV (P:Program) (K:TypeId) (ek : κ -> Value) (ev : ν -> Value) (w:World) (v:Value) (m:List (κ × ν)):Prop:=(v = .map none /\ m = []) ∨ ∃ b,v = .map (some b) /\ MapIs P K ek ev w b m
theorem MV.below {w':World} (h:MV P K ek ev w v m) (hb:Below w.heap.size w w'):MV P K ek ev w' v m:=by
 rcases h with h | ⟨b,e,h⟩
 ·exact .inl h
 ·exact .inr ⟨b,e,h.below hb⟩
theorem MV.kept' {w':World} (h:MV P K ek ev w v m) (hk:∀ b,v = .map (some b) -> w'.heap[b]? = w.heap[b]?):MV P K ek ev w' v m:=by
 rcases h with h | ⟨b,e,h⟩
 ·exact .inl h
 ·exact .inr ⟨b,e,h.same (hk b e)⟩
theorem MV.lt {b:Nat} (h:MV P K ek ev w v m) (hv:v = .map (some b)):b < w.heap.size:=by
 rcases h with ⟨e,_⟩ | ⟨b',e,h⟩
 ·rw [hv] at e;cases e
 ·rw [hv] at e;injection e with e
  injection e with e
  rw [e];exact h.lt
theorem MV.nodup (h:MV P K ek ev w v m):(m.map (·.1)).Nodup:=by
 rcases h with ⟨_,rfl⟩ | ⟨b,e,h⟩
 ·simp
 ·exact h.nodup
theorem MV.lookup {t e:TypeId} (h:MV P K ek ev w v m) (KY:Keyed P K) (inj:Inj ek) (ht:P.underlying t = some (.map K e)) {z:Value} (hz:(zeroValue e).run P w = .ok z w) (key : κ) {l:Lit} (hk:keyOf P K (ek key) = some l) :
  (Instr.lookup t v (ek key) false).run P w = .ok (((JB m key).map ev).getD z) w:=by
 rcases h with ⟨rfl,rfl⟩ | ⟨b,rfl,h⟩
 ·have h0:JB ([]:List (κ × ν)) key = none:=rfl;rw [h0];rcases KY.find w hk [] (by simp) with ⟨f1,_⟩ | ⟨j,e0,_,f2,_⟩
  ·simp [Instr.lookup,run_underlying ht,KY.check w _ hk,f1,hz,Result.andThen]
  ·simp at f2
 ·exact h.lookup KY inj ht hz key hk
def MVit (P:Program) (K:TypeId) (ek : κ -> Value) (ev : ν -> Value) (w:World) (v:Value) (r:Nat) (m:List (κ × ν)) (idx:List Nat):Prop:=(v = .map none /\ m = [] /\ idx = [] /\ w.heap[r]? = some (.mapIter none 0 #[] 0)) ∨ ∃ b,v = .map (some b) /\ MapIt P K ek ev w b r m idx
theorem MVit.len_le (h:MVit P K ek ev w v r m idx):idx.length <= m.length:=by
 rcases h with ⟨_,rfl,rfl,_⟩ | ⟨b,e,h⟩
 ·simp
 ·exact h.len_le
theorem MV.range {t e:TypeId} (h:MV P K ek ev w v m) (ht:P.underlying t = some (.map K e)) :
  ∃ o,(Instr.range t v).run P w = .ok (.pointer (some ⟨w.heap.size,0,none⟩)) (w.alloc o) /\ MVit P K ek ev (w.alloc o) v w.heap.size m []:=by
 rcases h with ⟨rfl,rfl⟩ | ⟨b,rfl,h⟩
 ·exact ⟨_,Zet ht w,.inl ⟨rfl,rfl,rfl,(MapKept.heap_alloc w _).1⟩⟩
 ·obtain ⟨o,h1,h2⟩:=h.range ht;exact ⟨o,h1,.inr ⟨b,rfl,h2⟩⟩
theorem MVit.next (h:MVit P K ek ev w v r m idx) (d : κ × ν) (ty:TypeId) :
  ((YJ m d idx).Perm m /\ (Instr.next (.pointer (some ⟨r,0,none⟩)) false ty).run P w = .ok (.tuple #[.bool false]) w) ∨
  ∃ i w',i < m.length /\ i ∉ idx /\ (Instr.next (.pointer (some ⟨r,0,none⟩)) false ty).run P w = .ok (.tuple #[.bool true,ek (m[i]?.getD d).1,ev (m[i]?.getD d).2]) w' /\ MVit P K ek ev w' v r m (idx ++ [i]) /\
   (Instr.entry (.pointer (some ⟨r,0,none⟩))).run P w' = .ok (.tuple #[ek (m[i]?.getD d).1,ev (m[i]?.getD d).2]) w' /\ w.grownBy w' (some r) /\ w'.heap.size = w.heap.size:=by
 rcases h with ⟨rfl,rfl,rfl,h4⟩ | ⟨b,rfl,h⟩
 ·exact .inl ⟨List.Perm.refl _,Zgp h4 ty⟩
 ·rcases h.next d ty with h1 | ⟨i,w',h1,h2,h3,h4,h5,h6,h7⟩
  ·exact .inl h1
  ·exact .inr ⟨i,w',h1,h2,h3,.inr ⟨b,rfl,h4⟩,h5,h6,h7⟩
end
end Go
namespace Go.Proofs.YtlgdlenoohkipaaGreat
open Go.RowKit Ear
structure Kept (V W:World) (r:Nat):Prop where
 size:V.heap.size <= W.heap.size
 block:∀ b,b < V.heap.size -> b ≠ r -> W.heap[b]? = V.heap[b]?
theorem Kept.refl (V:World) (r:Nat):Kept V V r:=⟨Nat.le_refl _,fun _ _ _=>rfl⟩
theorem Kept.grown {V W W':World} {r:Nat} (h:Kept V W r) (hg:W.grownBy W' (some r)):Kept V W' r:=⟨tR h.size hg.size,fun b hb hne=>(hg.block b (Nat.lt_of_lt_of_le hb h.size) (fun e=>hne (by injection e))).trans (h.block b hb hne)⟩
theorem Kept.below {V W W':World} {r:Nat} (h:Kept V W r) (hb:Below W.heap.size W W'):Kept V W' r:=⟨tR h.size hb.size,fun b hlt hne=>(hb.block b (Nat.lt_of_lt_of_le hlt h.size)).trans (h.block b hlt hne)⟩
theorem int_keyed:Maps.Keyed Tryz.prog 3:=Maps.int_keyed Tryz.underlying3
theorem ZH {z:Int} (h : -9223372036854775808 <= z /\ z <= 9223372036854775807):∃ l,keyOf Tryz.prog 3 (.int .i64 z) = some l:=⟨_,Maps.keyOf_int_mk Tryz.underlying3 (WalkArith.wf_i64 h)⟩
theorem ZI:Inj (Value.int .i64):=fun a b h=>by injection h
end Go.Proofs.YtlgdlenoohkipaaGreat
namespace Go.Proofs.YtlgdlenoohkipaaGreat
open Go.RowKit

def VG:Go.Shelf.Ren:=⟨fun | 6=>141 | 15=>181 | 14=>180 | 28=>201 | 29=>202 | 20=>193 | 21=>194 | 22=>195 | 23=>196 | 24=>197 | 25=>198 | 26=>199 | 27=>200 | 46=>210 | 47=>211 | 48=>212 | 49=>213 | 50=>214 | 57=>215 | n=>n,fun | 22=>25 | 24=>93 | 25=>227 | 3=>3 | 39=>177 | 0=>0 | 53=>170 | 55=>114 | 4=>4 | 46=>284 | 45=>283 | 50=>247 | 5=>5 | 9=>9 | 66=>296 | 70=>300 | 76=>302 | 77=>303 | n=>n,fun n=>n⟩
theorem ZO:Go.Proofs.SlLaysF0.n6 Tryz.prog VG:={
 mixed:=by kernel_rfl,
 f6 := ⟨"slices.SortFunc[[]earshot/api.Gram,earshot/api.Gram]", by decide, Tryz.func141.trans (congrArg some (by kernel_rfl))⟩,
 f14 := ⟨"slices.pdqsortCmpFunc[earshot/api.Gram]", by decide, Tryz.func180.trans (congrArg some (by kernel_rfl))⟩,
 f15:=Tryz.func181.trans (congrArg some (by kernel_rfl)),
 f20 := ⟨"slices.insertionSortCmpFunc[earshot/api.Gram]", by decide, Tryz.func193.trans (congrArg some (by kernel_rfl))⟩,
 f21 := ⟨"slices.heapSortCmpFunc[earshot/api.Gram]", by decide, Tryz.func194.trans (congrArg some (by kernel_rfl))⟩,
 f22 := ⟨"slices.breakPatternsCmpFunc[earshot/api.Gram]", by decide, Tryz.func195.trans (congrArg some (by kernel_rfl))⟩,
 f23 := ⟨"slices.choosePivotCmpFunc[earshot/api.Gram]", by decide, Tryz.func196.trans (congrArg some (by kernel_rfl))⟩,
 f24 := ⟨"slices.reverseRangeCmpFunc[earshot/api.Gram]", by decide, Tryz.func197.trans (congrArg some (by kernel_rfl))⟩,
 f25 := ⟨"slices.partialInsertionSortCmpFunc[earshot/api.Gram]", by decide, Tryz.func198.trans (congrArg some (by kernel_rfl))⟩,
 f26 := ⟨"slices.partitionEqualCmpFunc[earshot/api.Gram]", by decide, Tryz.func199.trans (congrArg some (by kernel_rfl))⟩,
 f27 := ⟨"slices.partitionCmpFunc[earshot/api.Gram]", by decide, Tryz.func200.trans (congrArg some (by kernel_rfl))⟩,
 f28:=Tryz.func201.trans (congrArg some (by kernel_rfl)),
 f29:=Tryz.func202.trans (congrArg some (by kernel_rfl)),
 f46 := ⟨"slices.siftDownCmpFunc[earshot/api.Gram]", by decide, Tryz.func210.trans (congrArg some (by kernel_rfl))⟩,
 f47:=Tryz.func211.trans (congrArg some (by kernel_rfl)),
 f48:=Tryz.func212.trans (congrArg some (by kernel_rfl)),
 f49 := ⟨"slices.medianAdjacentCmpFunc[earshot/api.Gram]", by decide, Tryz.func213.trans (congrArg some (by kernel_rfl))⟩,
 f50 := ⟨"slices.medianCmpFunc[earshot/api.Gram]", by decide, Tryz.func214.trans (congrArg some (by kernel_rfl))⟩,
 f57 := ⟨"slices.order2CmpFunc[earshot/api.Gram]", by decide, Tryz.func215.trans (congrArg some (by kernel_rfl))⟩,
 t0:=Tryz.underlying0,
 a0:=Tryz.isAgg0,
 z0:=Tryz.sizeOf0,
 v0:=Tryz.zeroValue0,
 t3:=Tryz.underlying3,
 a3:=Tryz.isAgg3,
 z3:=Tryz.sizeOf3,
 v3:=Tryz.zeroValue3,
 t4:=Tryz.underlying4,
 a4:=Tryz.isAgg4,
 z4:=Tryz.sizeOf4,
 v4:=Tryz.zeroValue4,
 t5:=Tryz.underlying5,
 a5:=Tryz.isAgg5,
 z5:=Tryz.sizeOf5,
 v5:=Tryz.zeroValue5,
 t9:=Tryz.underlying9,
 a9:=Tryz.isAgg9,
 z9:=Tryz.sizeOf9,
 v9:=Tryz.zeroValue9,
 t22:=Tryz.underlying25,
 a22:=Tryz.isAgg25,
 z22:=Tryz.sizeOf25,
 v22:=Tryz.zeroValue25,
 t25:=Tryz.underlying227,
 a25:=Tryz.isAgg227,
 z25:=Tryz.sizeOf227,
 v25:=Tryz.zeroValue227,
 t39:=Tryz.underlying177,
 a39:=Tryz.isAgg177,
 z39:=Tryz.sizeOf177,
 v39:=Tryz.zeroValue177,
 t45:=Tryz.underlying283,
 a45:=Tryz.isAgg283,
 z45:=Tryz.sizeOf283,
 v45:=Tryz.zeroValue283,
 t46:=Tryz.underlying284,
 a46:=Tryz.isAgg284,
 z46:=Tryz.sizeOf284,
 v46:=Tryz.zeroValue284,
 t50:=Tryz.underlying247,
 a50:=Tryz.isAgg247,
 z50:=Tryz.sizeOf247,
 v50:=Tryz.zeroValue247,
 t53:=Tryz.underlying170,
 a53:=Tryz.isAgg170,
 z53:=Tryz.sizeOf170,
 v53:=Tryz.zeroValue170,
 t55:=Tryz.underlying114,
 a55:=Tryz.isAgg114,
 z55:=Tryz.sizeOf114,
 v55:=Tryz.zeroValue114,
 t66:=Tryz.underlying296,
 a66:=Tryz.isAgg296,
 z66:=Tryz.sizeOf296,
 v66:=Tryz.zeroValue296,
 t70:=Tryz.underlying300,
 a70:=Tryz.isAgg300,
 z70:=Tryz.sizeOf300,
 v70:=Tryz.zeroValue300,
 t76:=Tryz.underlying302,
 a76:=Tryz.isAgg302,
 z76:=Tryz.sizeOf302,
 v76:=Tryz.zeroValue302,
 t77:=Tryz.underlying303,
 a77:=Tryz.isAgg303,
 z77:=Tryz.sizeOf303,
 v77:=Tryz.zeroValue303 }
open Go.Shelf Go.Sort Ear
abbrev GS (w:World):={ g:Gm // InT w g.1 }
instance (w:World):Inhabited (GS w):=⟨⟨((none,0,[]),0),InT.nil w⟩⟩
def Zah {w:World} (x:GS w):List Value:=[.slice x.1.1.1 x.1.1.2.2.length x.1.1.2.1,.int .i64 x.1.2]
def gcf {w:World} (x y:GS w):Int:=J8 x.1.1.2.2 y.1.1.2.2
theorem Zig (L:List Gm) (t:Nat) (ht:t < L.length * 2):(J6 L)[t]? = some (if t % 2 = 0 then Value.slice (L[t / 2]?.getD default).1.1 (L[t / 2]?.getD default).1.2.2.length (L[t / 2]?.getD default).1.2.1 else .int .i64 (L[t / 2]?.getD default).2):=by
 have h2:t / 2 < L.length:=by omega
 obtain ⟨e1,e2⟩:=Vj L h2;rw [gE h2];rcases Nat.mod_two_eq_zero_or_one t with h | h
 ·rw [if_pos h];have e:t = t / 2 * 2:=by omega
  conv=>lhs;rw [e,e1]
  rfl
 ·rw [if_neg (by omega)];have e:t = t / 2 * 2 + 1:=by omega
  conv=>lhs;rw [e,e2]
  rfl
theorem QI {w:World} (L:List (GS w)):(flatK Zah 2 L.toArray).toList = J6 (L.map (·.1)):=by
 apply List.ext_getElem?;intro t;by_cases ht:t < L.length * 2
 ·rw [Zig _ t (by simpa using ht)];have h1:(flatK Zah 2 L.toArray).toList[t]? = some ((flatK Zah 2 L.toArray)[t]!):=by
   rw [Array.getElem?_toList,getElem!_pos _ t (by simpa using ht)];exact Array.getElem?_eq_getElem (by simpa using ht)
  rw [h1,get_flatK _ _ _ t (by simpa using ht)];have h2:t / 2 < L.length:=by omega
  have h3:L.toArray[t / 2]! = L[t / 2]:=by rw [getElem!_pos _ _ (by simpa using h2)];simp
  rw [h3,List.getElem?_map,gE h2];rcases Nat.mod_two_eq_zero_or_one t with h | h <;> simp [Zah,h]
 ·rw [List.getElem?_eq_none (by simp;omega),List.getElem?_eq_none (by rw [Jp];simp;omega)]
theorem Zij (w:World):SWO (ltOf (gcf (w:=w))):=by
 constructor
 ·intro x;exact dF (by unfold gcf;rw [XU.2 rfl];omega)
 ·intro x y z h1 h2;exact decide_eq_true (XH (of_decide_eq_true h1) (of_decide_eq_true h2))
 ·intro x y z h1 h2;have h1:=of_decide_eq_false h1;have h2:=of_decide_eq_false h2;refine dF fun h=>?_;unfold gcf at *
  have hn:=Vt x.1.1.2.2 y.1.1.2.2;by_cases e:J8 y.1.1.2.2 x.1.1.2.2 = 0
  ·rw [XU] at e;rw [<- e] at h;exact h2 h
  ·exact h2 (XH (show J8 y.1.1.2.2 x.1.1.2.2 < 0 by omega) h)
section
variable {w:World} {blk:Nat} {cur:Array Value} {fr:Nat × Nat}
theorem XW {α:Type} [Inhabited α] (enc : α -> List Value) (k off m:Nat) (dk:Array α) (os:Array Obj) {b:Nat} (hb:b < w.heap.size) (hne:b ≠ blk):(sortWorldK enc k w blk off m dk os).heap[b]? = w.heap[b]?:=by
 unfold sortWorldK;rw [heap_grow_old _ _ (by rw [size_putRowK];exact hb)];simp [putRowK,putRow,mapBlock,Sort.ahead,Array.getElem?_modify,Ne.symm hne]
theorem Qe {α:Type} [Inhabited α] (enc : α -> List Value) (k off m:Nat) (dk:Array α) (os:Array Obj) {e:TypeId} (hb:w.heap[blk]? = some (.cells cur e fr)):(sortWorldK enc k w blk off m dk os).heap[blk]? = some (.cells (putCells id off (flatK enc k dk) cur) e fr):=by
 have hg:blk < w.heap.size:=(aE hb).1;unfold sortWorldK;rw [heap_grow_old _ _ (by rw [size_putRowK];exact hg)];simp [putRowK,putRow,mapBlock,Sort.ahead,Array.getElem?_modify,hb,onCells]
theorem ZN {α:Type} [Inhabited α] (enc : α -> List Value) (k off m:Nat) (dk:Array α) (os:Array Obj):w.grownBy (sortWorldK enc k w blk off m dk os) (some blk):=
 ⟨rfl,rfl,rfl,size_sortWorldK_c enc k w blk off m dk os,fun b hb hne=>XW enc k off m dk os hb (fun e=>hne (by rw [e]))⟩
end
theorem Qh (x y:Gm) (W:World) (hx:InT W x.1) (hy:InT W y.1) :
  Calls Tryz.prog 142 #[.agg #[.slice x.1.1 x.1.2.2.length x.1.2.1,.int .i64 x.2],.agg #[.slice y.1.1 y.1.2.2.length y.1.2.1,.int .i64 y.2]] W fun e w'=>e = .returned (.int .i64 (J8 x.1.2.2 y.1.2.2)) /\ ∃ q os',w' = grow (W.drewN q) os':=by
 obtain ⟨V,hV⟩:∃ V:World,V = (W.alloc (.cells #[.slice x.1.1 x.1.2.2.length x.1.2.1,.int .i64 x.2] 93)).alloc (.cells #[.slice y.1.1 y.1.2.2.length y.1.2.1,.int .i64 y.2] 93):=⟨_,rfl⟩;have HB:Hid (Below W.heap.size W V):=zH (by rw [hV];exact al2 W _ _);have HX:=zH (hx.below HB.out);have HY:=zH (hy.below HB.out);have h0:V.heap[W.heap.size]? = some (.cells #[.slice x.1.1 x.1.2.2.length x.1.2.1,.int .i64 x.2] 93 (0,0)):=by rw [hV];exact (Below.heap_alloc _ _ _ (by simp)).trans (heap_alloc_new W _)
 have h1:V.heap[W.heap.size + 1]? = some (.cells #[.slice y.1.1 y.1.2.2.length y.1.2.1,.int .i64 y.2] 93 (0,0)):=by rw [hV];have:=heap_alloc_new (W.alloc (.cells #[.slice x.1.1 x.1.2.2.length x.1.2.1,.int .i64 x.2] 93)) (.cells #[.slice y.1.1 y.1.2.2.length y.1.2.1,.int .i64 y.2] 93);simpa using this
 have c0:V.cell? ⟨W.heap.size,0,none⟩ = some (.slice x.1.1 x.1.2.2.length x.1.2.1):=(cell_of_row V _ 0 _ _ _ h0).trans rfl;have c1:V.cell? ⟨W.heap.size + 1,0,none⟩ = some (.slice y.1.1 y.1.2.2.length y.1.2.1):=(cell_of_row V _ 0 _ _ _ h1).trans rfl;have HE:Hid (V = grow (W.drewN 0) #[.cells #[.slice x.1.1 x.1.2.2.length x.1.2.1,.int .i64 x.2] 93,.cells #[.slice y.1.1 y.1.2.2.length y.1.2.1,.int .i64 y.2] 93]):=zH (by rw [hV,alloc_eq_grow,alloc_eq_grow,grow_grow];rfl);clear h0 h1 hx hy;go_enter Tryz.func142,Tryz.ntmps142;go_wp2_with fail;rw [<- hV];clear hV;go_wp2_with fail;have hC:=V6 x.1.1 y.1.1 x.1.2.1 y.1.2.1 x.1.2.2 y.1.2.2 V HX.out.1.1 HY.out.1.1 HX.out.1.2.2.1 HY.out.1.2.2.1 (J8 x.1.2.2 y.1.2.2) (zH rfl);refine hC.mono ?_;rintro e w' ⟨rfl,rfl⟩;go_wp2_with fail;go_ret;exact ⟨rfl,0,_,HE.out⟩
theorem ZgI (w:World):(isAgg 93).run Tryz.prog w = .ok true w:=Tryz.isAgg93 w
theorem Zfg (w:World):(Go.sizeOf 93).run Tryz.prog w = .ok 2 w:=Tryz.sizeOf93 w
theorem Ua (cur:Array Value) (F:Array Value) (h:F.size <= cur.size):(putCells id 0 F cur).toList.take F.size = F.toList:=by
 apply List.ext_getElem?;intro j;by_cases hj:j < F.size
 ·rw [List.getElem?_take_of_lt hj,Array.getElem?_toList];simp [putCells,hj,show j < cur.size by omega]
 ·rw [List.getElem?_take_eq_none (by omega),List.getElem?_eq_none (by simp;omega)]
theorem Zeh (A:Option Addr) (c base:Nat) (L:List Gm) (w:World) (h:GLo w base A c L) (hA:L ≠ []) (hsz:L.length < 4611686018427387904) :
  Calls Tryz.prog 141 #[.slice A L.length c,.func (.func 142) #[] #[]] w fun e w'=>
   e = .returned (.tuple #[]) /\ ∃ L':List Gm,L'.Perm L /\ L'.Pairwise (fun x y=>¬ J8 y.1.2.2 x.1.2.2 < 0) /\ GLo w' base A c L' /\ w.grownBy w' (Value.slice A L.length c).ownBlock:=by
 have hrow:=h.row;obtain ⟨q1,q2⟩:=hrow;rcases q2 with ⟨_,e⟩ | ⟨g,cap,cur,e,hb,hg,hn,hm,hs,ht⟩
 ·have hlen:L.length = 0:=e;exact absurd (List.length_eq_zero_iff.1 hlen) hA
 ·injection e with e1 _ e3
  subst e1 e3;have hl:(J6 L).length = L.length * 2:=Jp L
  -- the row as elements that can be read
  let d:List (GS w):=L.attach.map fun g=>⟨g.1,h.inn g.1 g.2⟩;have hd:d.map (·.1) = L:=by
   simp only [d,List.map_map];exact List.attach_map_subtype_val L
  have hdl:d.length = L.length:=by simp [d]
  have hF:(flatK Zah 2 d.toArray).toList = J6 L:=by rw [QI,hd]
  have hH:HoldsK Zah 2 w g 0 d.toArray:=by
   intro j hj;refine ⟨?_,by simp [World.frozen?,hg]⟩;have hj':j < (J6 L).length:=(by rw [<- hF];simpa using hj);have h1:cur.toList[j]? = (J6 L)[j]?:=by
    rw [<- ht,List.getElem?_take_of_lt (by omega)]
   simp only [World.cell?,hg,Nat.zero_add,Option.isSome_none,Bool.false_eq_true,if_false];rw [<- Array.getElem?_toList,h1,<- hF,Array.getElem?_toList,getElem!_pos _ j hj,Array.getElem?_eq_getElem hj];rfl
  have hlt:g < w.heap.size:=(aE hg).1;have hcmp:CmpLays Tryz.prog 142 #[] (Zah (w:=w)) 2 gcf g 0 d.toArray.size w:=by
   intro m os dk hdk x y;have key:∀ z:GS w,InT (sortWorldK Zah 2 w g 0 m dk os) z.1.1:=fun z=>z.2.block (size_sortWorldK_c Zah 2 w g 0 m dk os) fun b hbt=>
    XW Zah 2 0 m dk os hbt.lt (fun e=>by subst e;exact hbt.ne ⟨_,_,hg⟩ (by decide) rfl)
   exact Qh x.1 y.1 _ (key x) (key y)
  have hcall:=AnyQ.slices_SortFunc ZO 2 ZgI Zfg Zah (fun _=>rfl) (fun x v hv=>by simp [Zah] at hv;rcases hv with rfl | rfl <;> rfl) gcf (Zij w) 142 #[] g 0 c d.toArray w
   (enters_of Tryz.func142 (by kernel_rfl) rfl) hcmp hH hlt (by simp [hdl];exact hsz)
  have hds:d.toArray.size = L.length:=by simp [hdl]
  rw [hds] at hcall;refine hcall.mono ?_;rintro e w' ⟨rfl,d',n,os,⟨p1,p2,p3⟩,hsrt,rfl⟩;refine ⟨rfl,d'.toList.map (·.1),?_,?_,?_,ZN Zah 2 0 n d' os⟩
  ·have hs2:d'.size = L.length:=by rw [p1,hds]
   have e1:(d'.extract 0 L.length).toList = d'.toList:=(by rw [<- hs2];simp);have e2:(d.toArray.extract 0 L.length).toList = d:=(by rw [<- hdl];simp);rw [e1,e2] at p3;have:=p3.map (·.1)
   rwa [hd] at this
  ·have hs2:d'.size = L.length:=by rw [p1,hds]
   rw [List.pairwise_map,List.pairwise_iff_getElem];intro i j hi hj hij;simp at hi hj;have:=of_decide_eq_false (hsrt i j (Nat.zero_le _) hij (by omega));rw [getElem!_pos d' i hi,getElem!_pos d' j hj] at this;simpa [gcf] using this
  ·have hs2:d'.size = L.length:=by rw [p1,hds]
   have hml:(d'.toList.map (·.1)).length = L.length:=(by simp [hs2]);have hFd:(flatK Zah 2 d').toList = J6 (d'.toList.map (·.1)):=(by have:=QI d'.toList;simpa using this);refine ⟨⟨by rw [Jp],.inr ⟨g,c,putCells id 0 (flatK Zah 2 d') cur,by rw [hml],hb,Qe Zah 2 0 n d' os hg,by rw [hml];exact hn,hm,by simp [putCells,hs],?_⟩⟩,?_,?_⟩
   ·have:=Ua cur (flatK Zah 2 d') (by simp [hs2];omega);rw [hFd] at this;rw [<- this];congr 1;simp [hs2]
   ·intro x hx;obtain ⟨z,hz,rfl⟩:=List.mem_map.1 hx;exact z.2.block (size_sortWorldK_c Zah 2 w g 0 n d' os) fun b hbt=>
     XW Zah 2 0 n d' os hbt.lt (fun e=>by subst e;exact hbt.ne ⟨_,_,hg⟩ (by decide) rfl)
   ·intro x hx;have hs2:d'.size = L.length:=(by rw [p1,hds]);have e1:(d'.extract 0 L.length).toList = d'.toList:=(by rw [<- hs2];simp);have e2:(d.toArray.extract 0 L.length).toList = d:=(by rw [<- hdl];simp);rw [e1,e2] at p3;have:=p3.map (·.1);rw [hd] at this;exact h.num x (this.mem_iff.1 hx)
theorem Zei (A:Option Addr) (c base:Nat) (L:List Gm) (w:World) (h:GLo w base A c L) (hsz:L.length < 4611686018427387904) :
  Calls Tryz.prog 141 #[.slice A L.length c,.func (.func 142) #[] #[]] w fun e w'=>
   e = .returned (.tuple #[]) /\ ∃ L':List Gm,L'.Perm L /\ L'.Pairwise (fun x y=>¬ J8 y.1.2.2 x.1.2.2 < 0) /\ GLo w' base A c L' /\ w.grownBy w' (Value.slice A L.length c).ownBlock:=by
 by_cases hA:L = []
 ·subst hA;refine (AnyF.slices_SortFunc_none ZO A c (.func (.func 142) #[] #[]) w).mono ?_;rintro e w' ⟨rfl,rfl⟩;exact ⟨rfl,[],List.Perm.refl _,List.Pairwise.nil,h,⟨rfl,rfl,rfl,Nat.le_refl _,fun _ _ _=>rfl⟩⟩
 ·exact Zeh A c base L w h hA hsz
end Go.Proofs.YtlgdlenoohkipaaGreat
