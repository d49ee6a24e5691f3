/- TalkLearns -/
import Derived.Test.YtcjicjfbippmnaaGreatMTLear15
import Derived.Shelf.SlSortCmp.NoneTotal
set_option maxRecDepth 100000
set_option maxHeartbeats 32000000
namespace Go.Proofs.YtcjicjfbippmnaaGreat
open Go.RowKit

def VQ:Go.Shelf.Ren:=⟨fun | 6=>185 | 15=>201 | 14=>200 | 28=>204 | 29=>213 | 20=>205 | 21=>206 | 22=>207 | 23=>208 | 24=>209 | 25=>210 | 26=>211 | 27=>212 | 46=>216 | 47=>217 | 48=>218 | 49=>219 | 50=>220 | 57=>222 | n=>n,fun | 22=>82 | 24=>114 | 25=>226 | 3=>3 | 39=>193 | 0=>0 | 53=>173 | 55=>152 | 4=>4 | 46=>257 | 45=>256 | 50=>216 | 5=>5 | 9=>9 | 66=>264 | 70=>268 | 76=>271 | 77=>272 | n=>n,fun n=>n⟩
theorem Vb:Go.Proofs.SlLaysF0.n6 Tryz.prog VQ:={
 mixed:=by kernel_rfl,
 f6 := ⟨"slices.SortFunc[[]earshot/api.Gram,earshot/api.Gram]", by decide, Tryz.func185.trans (congrArg some (by kernel_rfl))⟩,
 f14 := ⟨"slices.pdqsortCmpFunc[earshot/api.Gram]", by decide, Tryz.func200.trans (congrArg some (by kernel_rfl))⟩,
 f15:=Tryz.func201.trans (congrArg some (by kernel_rfl)),
 f20 := ⟨"slices.insertionSortCmpFunc[earshot/api.Gram]", by decide, Tryz.func205.trans (congrArg some (by kernel_rfl))⟩,
 f21 := ⟨"slices.heapSortCmpFunc[earshot/api.Gram]", by decide, Tryz.func206.trans (congrArg some (by kernel_rfl))⟩,
 f22 := ⟨"slices.breakPatternsCmpFunc[earshot/api.Gram]", by decide, Tryz.func207.trans (congrArg some (by kernel_rfl))⟩,
 f23 := ⟨"slices.choosePivotCmpFunc[earshot/api.Gram]", by decide, Tryz.func208.trans (congrArg some (by kernel_rfl))⟩,
 f24 := ⟨"slices.reverseRangeCmpFunc[earshot/api.Gram]", by decide, Tryz.func209.trans (congrArg some (by kernel_rfl))⟩,
 f25 := ⟨"slices.partialInsertionSortCmpFunc[earshot/api.Gram]", by decide, Tryz.func210.trans (congrArg some (by kernel_rfl))⟩,
 f26 := ⟨"slices.partitionEqualCmpFunc[earshot/api.Gram]", by decide, Tryz.func211.trans (congrArg some (by kernel_rfl))⟩,
 f27 := ⟨"slices.partitionCmpFunc[earshot/api.Gram]", by decide, Tryz.func212.trans (congrArg some (by kernel_rfl))⟩,
 f28:=Tryz.func204.trans (congrArg some (by kernel_rfl)),
 f29:=Tryz.func213.trans (congrArg some (by kernel_rfl)),
 f46 := ⟨"slices.siftDownCmpFunc[earshot/api.Gram]", by decide, Tryz.func216.trans (congrArg some (by kernel_rfl))⟩,
 f47:=Tryz.func217.trans (congrArg some (by kernel_rfl)),
 f48:=Tryz.func218.trans (congrArg some (by kernel_rfl)),
 f49 := ⟨"slices.medianAdjacentCmpFunc[earshot/api.Gram]", by decide, Tryz.func219.trans (congrArg some (by kernel_rfl))⟩,
 f50 := ⟨"slices.medianCmpFunc[earshot/api.Gram]", by decide, Tryz.func220.trans (congrArg some (by kernel_rfl))⟩,
 f57 := ⟨"slices.order2CmpFunc[earshot/api.Gram]", by decide, Tryz.func222.trans (congrArg some (by kernel_rfl))⟩,
 t0:=Tryz.underlying0,
 a0:=Tryz.isAgg0,
 z0:=Tryz.sizeOf0,
 v0:=Tryz.zeroValue0,
 t3:=Tryz.underlying3,
 a3:=Tryz.isAgg3,
 z3:=Tryz.sizeOf3,
 v3:=Tryz.zeroValue3,
 t4:=Tryz.underlying4,
 a4:=Tryz.isAgg4,
 z4:=Tryz.sizeOf4,
 v4:=Tryz.zeroValue4,
 t5:=Tryz.underlying5,
 a5:=Tryz.isAgg5,
 z5:=Tryz.sizeOf5,
 v5:=Tryz.zeroValue5,
 t9:=Tryz.underlying9,
 a9:=Tryz.isAgg9,
 z9:=Tryz.sizeOf9,
 v9:=Tryz.zeroValue9,
 t22:=Tryz.underlying82,
 a22:=Tryz.isAgg82,
 z22:=Tryz.sizeOf82,
 v22:=Tryz.zeroValue82,
 t25:=Tryz.underlying226,
 a25:=Tryz.isAgg226,
 z25:=Tryz.sizeOf226,
 v25:=Tryz.zeroValue226,
 t39:=Tryz.underlying193,
 a39:=Tryz.isAgg193,
 z39:=Tryz.sizeOf193,
 v39:=Tryz.zeroValue193,
 t45:=Tryz.underlying256,
 a45:=Tryz.isAgg256,
 z45:=Tryz.sizeOf256,
 v45:=Tryz.zeroValue256,
 t46:=Tryz.underlying257,
 a46:=Tryz.isAgg257,
 z46:=Tryz.sizeOf257,
 v46:=Tryz.zeroValue257,
 t50:=Tryz.underlying216,
 a50:=Tryz.isAgg216,
 z50:=Tryz.sizeOf216,
 v50:=Tryz.zeroValue216,
 t53:=Tryz.underlying173,
 a53:=Tryz.isAgg173,
 z53:=Tryz.sizeOf173,
 v53:=Tryz.zeroValue173,
 t55:=Tryz.underlying152,
 a55:=Tryz.isAgg152,
 z55:=Tryz.sizeOf152,
 v55:=Tryz.zeroValue152,
 t66:=Tryz.underlying264,
 a66:=Tryz.isAgg264,
 z66:=Tryz.sizeOf264,
 v66:=Tryz.zeroValue264,
 t70:=Tryz.underlying268,
 a70:=Tryz.isAgg268,
 z70:=Tryz.sizeOf268,
 v70:=Tryz.zeroValue268,
 t76:=Tryz.underlying271,
 a76:=Tryz.isAgg271,
 z76:=Tryz.sizeOf271,
 v76:=Tryz.zeroValue271,
 t77:=Tryz.underlying272,
 a77:=Tryz.isAgg272,
 z77:=Tryz.sizeOf272,
 v77:=Tryz.zeroValue272 }
open Go.Shelf Go.Sort Ear
abbrev GS (w:World):={ g:Gm // InT w g.1 }
instance (w:World):Inhabited (GS w):=⟨⟨((none,0,[]),0),InT.nil w⟩⟩
def ZaB {w:World} (x:GS w):List Value:=[.slice x.1.1.1 x.1.1.2.2.length x.1.1.2.1,.int .i64 x.1.2]
def gcf {w:World} (x y:GS w):Int:=J3 x.1.1.2.2 y.1.1.2.2
theorem Zhk (L:List Gm) (t:Nat) (ht:t < L.length * 2):(JZ L)[t]? = some (if t % 2 = 0 then Value.slice (L[t / 2]?.getD default).1.1 (L[t / 2]?.getD default).1.2.2.length (L[t / 2]?.getD default).1.2.1 else .int .i64 (L[t / 2]?.getD default).2):=by
 have h2:t / 2 < L.length:=by omega
 obtain ⟨e1,e2⟩:=Vr L h2;rw [gE h2];rcases Nat.mod_two_eq_zero_or_one t with h | h
 ·rw [if_pos h];have e:t = t / 2 * 2:=by omega
  conv=>lhs;rw [e,e1]
  rfl
 ·rw [if_neg (by omega)];have e:t = t / 2 * 2 + 1:=by omega
  conv=>lhs;rw [e,e2]
  rfl
theorem Q4 {w:World} (L:List (GS w)):(flatK ZaB 2 L.toArray).toList = JZ (L.map (·.1)):=by
 apply List.ext_getElem?;intro t;by_cases ht:t < L.length * 2
 ·rw [Zhk _ t (by simpa using ht)];have h1:(flatK ZaB 2 L.toArray).toList[t]? = some ((flatK ZaB 2 L.toArray)[t]!):=by
   rw [Array.getElem?_toList,getElem!_pos _ t (by simpa using ht)];exact Array.getElem?_eq_getElem (by simpa using ht)
  rw [h1,get_flatK _ _ _ t (by simpa using ht)];have h2:t / 2 < L.length:=by omega
  have h3:L.toArray[t / 2]! = L[t / 2]:=by rw [getElem!_pos _ _ (by simpa using h2)];simp
  rw [h3,List.getElem?_map,gE h2];rcases Nat.mod_two_eq_zero_or_one t with h | h <;> simp [ZaB,h]
 ·rw [List.getElem?_eq_none (by simp;omega),List.getElem?_eq_none (by rw [Jt];simp;omega)]
theorem Zhn (w:World):SWO (ltOf (gcf (w:=w))):=by
 constructor
 ·intro x;exact dF (by unfold gcf;rw [Xn.2 rfl];omega)
 ·intro x y z h1 h2;exact decide_eq_true (XO (of_decide_eq_true h1) (of_decide_eq_true h2))
 ·intro x y z h1 h2;have h1:=of_decide_eq_false h1;have h2:=of_decide_eq_false h2;refine dF fun h=>?_;unfold gcf at *
  have hn:=VD x.1.1.2.2 y.1.1.2.2;by_cases e:J3 y.1.1.2.2 x.1.1.2.2 = 0
  ·rw [Xn] at e;rw [<- e] at h;exact h2 h
  ·exact h2 (XO (show J3 y.1.1.2.2 x.1.1.2.2 < 0 by omega) h)
section
variable {w:World} {blk:Nat} {cur:Array Value} {fr:Nat × Nat}
theorem XZ {α:Type} [Inhabited α] (enc : α -> List Value) (k off m:Nat) (dk:Array α) (os:Array Obj) {b:Nat} (hb:b < w.heap.size) (hne:b ≠ blk):(sortWorldK enc k w blk off m dk os).heap[b]? = w.heap[b]?:=by
 unfold sortWorldK;rw [heap_grow_old _ _ (by rw [size_putRowK];exact hb)];simp [putRowK,putRow,mapBlock,Sort.ahead,Array.getElem?_modify,Ne.symm hne]
theorem Qv {α:Type} [Inhabited α] (enc : α -> List Value) (k off m:Nat) (dk:Array α) (os:Array Obj) {e:TypeId} (hb:w.heap[blk]? = some (.cells cur e fr)):(sortWorldK enc k w blk off m dk os).heap[blk]? = some (.cells (putCells id off (flatK enc k dk) cur) e fr):=by
 have hg:blk < w.heap.size:=(aE hb).1;unfold sortWorldK;rw [heap_grow_old _ _ (by rw [size_putRowK];exact hg)];simp [putRowK,putRow,mapBlock,Sort.ahead,Array.getElem?_modify,hb,onCells]
theorem Va {α:Type} [Inhabited α] (enc : α -> List Value) (k off m:Nat) (dk:Array α) (os:Array Obj):w.grownBy (sortWorldK enc k w blk off m dk os) (some blk):=
 ⟨rfl,rfl,rfl,size_sortWorldK_c enc k w blk off m dk os,fun b hb hne=>XZ enc k off m dk os hb (fun e=>hne (by rw [e]))⟩
end
theorem QD (x y:Gm) (W:World) (hx:InT W x.1) (hy:InT W y.1) :
  Calls Tryz.prog 186 #[.agg #[.slice x.1.1 x.1.2.2.length x.1.2.1,.int .i64 x.2],.agg #[.slice y.1.1 y.1.2.2.length y.1.2.1,.int .i64 y.2]] W fun e w'=>e = .returned (.int .i64 (J3 x.1.2.2 y.1.2.2)) /\ ∃ q os',w' = grow (W.drewN q) os':=by
 obtain ⟨V,hV⟩:∃ V:World,V = (W.alloc (.cells #[.slice x.1.1 x.1.2.2.length x.1.2.1,.int .i64 x.2] 114)).alloc (.cells #[.slice y.1.1 y.1.2.2.length y.1.2.1,.int .i64 y.2] 114):=⟨_,rfl⟩;have HB:Hid (Below W.heap.size W V):=zH (by rw [hV];exact al2 W _ _);have HX:=zH (hx.below HB.out);have HY:=zH (hy.below HB.out);have h0:V.heap[W.heap.size]? = some (.cells #[.slice x.1.1 x.1.2.2.length x.1.2.1,.int .i64 x.2] 114 (0,0)):=by rw [hV];exact (Below.heap_alloc _ _ _ (by simp)).trans (heap_alloc_new W _)
 have h1:V.heap[W.heap.size + 1]? = some (.cells #[.slice y.1.1 y.1.2.2.length y.1.2.1,.int .i64 y.2] 114 (0,0)):=by rw [hV];have:=heap_alloc_new (W.alloc (.cells #[.slice x.1.1 x.1.2.2.length x.1.2.1,.int .i64 x.2] 114)) (.cells #[.slice y.1.1 y.1.2.2.length y.1.2.1,.int .i64 y.2] 114);simpa using this
 have c0:V.cell? ⟨W.heap.size,0,none⟩ = some (.slice x.1.1 x.1.2.2.length x.1.2.1):=(cell_of_row V _ 0 _ _ _ h0).trans rfl;have c1:V.cell? ⟨W.heap.size + 1,0,none⟩ = some (.slice y.1.1 y.1.2.2.length y.1.2.1):=(cell_of_row V _ 0 _ _ _ h1).trans rfl;have HE:Hid (V = grow (W.drewN 0) #[.cells #[.slice x.1.1 x.1.2.2.length x.1.2.1,.int .i64 x.2] 114,.cells #[.slice y.1.1 y.1.2.2.length y.1.2.1,.int .i64 y.2] 114]):=zH (by rw [hV,alloc_eq_grow,alloc_eq_grow,grow_grow];rfl);clear h0 h1 hx hy;go_enter Tryz.func186,Tryz.ntmps186;go_wp2_with fail;rw [<- hV];clear hV;go_wp2_with fail;have hC:=Un x.1.1 y.1.1 x.1.2.1 y.1.2.1 x.1.2.2 y.1.2.2 V HX.out.1.1 HY.out.1.1 HX.out.1.2.2.1 HY.out.1.2.2.1 (J3 x.1.2.2 y.1.2.2) (zH rfl);refine hC.mono ?_;rintro e w' ⟨rfl,rfl⟩;go_wp2_with fail;go_ret;exact ⟨rfl,0,_,HE.out⟩
theorem Zf5 (w:World):(isAgg 114).run Tryz.prog w = .ok true w:=Tryz.isAgg114 w
theorem ZeG (w:World):(Go.sizeOf 114).run Tryz.prog w = .ok 2 w:=Tryz.sizeOf114 w
theorem Uq (cur:Array Value) (F:Array Value) (h:F.size <= cur.size):(putCells id 0 F cur).toList.take F.size = F.toList:=by
 apply List.ext_getElem?;intro j;by_cases hj:j < F.size
 ·rw [List.getElem?_take_of_lt hj,Array.getElem?_toList];simp [putCells,hj,show j < cur.size by omega]
 ·rw [List.getElem?_take_eq_none (by omega),List.getElem?_eq_none (by simp;omega)]
theorem ZdU (A:Option Addr) (c base:Nat) (L:List Gm) (w:World) (h:GLo w base A c L) (hA:L ≠ []) (hsz:L.length < 4611686018427387904) :
  Calls Tryz.prog 185 #[.slice A L.length c,.func (.func 186) #[] #[]] w fun e w'=>
   e = .returned (.tuple #[]) /\ ∃ L':List Gm,L'.Perm L /\ L'.Pairwise (fun x y=>¬ J3 y.1.2.2 x.1.2.2 < 0) /\ GLo w' base A c L' /\ w.grownBy w' (Value.slice A L.length c).ownBlock:=by
 have hrow:=h.row;obtain ⟨q1,q2⟩:=hrow;rcases q2 with ⟨_,e⟩ | ⟨g,cap,cur,e,hb,hg,hn,hm,hs,ht⟩
 ·have hlen:L.length = 0:=e;exact absurd (List.length_eq_zero_iff.1 hlen) hA
 ·injection e with e1 _ e3
  subst e1 e3;have hl:(JZ L).length = L.length * 2:=Jt L
  -- the row as elements that can be read
  let d:List (GS w):=L.attach.map fun g=>⟨g.1,h.inn g.1 g.2⟩;have hd:d.map (·.1) = L:=by
   simp only [d,List.map_map];exact List.attach_map_subtype_val L
  have hdl:d.length = L.length:=by simp [d]
  have hF:(flatK ZaB 2 d.toArray).toList = JZ L:=by rw [Q4,hd]
  have hH:HoldsK ZaB 2 w g 0 d.toArray:=by
   intro j hj;refine ⟨?_,by simp [World.frozen?,hg]⟩;have hj':j < (JZ L).length:=(by rw [<- hF];simpa using hj);have h1:cur.toList[j]? = (JZ L)[j]?:=by
    rw [<- ht,List.getElem?_take_of_lt (by omega)]
   simp only [World.cell?,hg,Nat.zero_add,Option.isSome_none,Bool.false_eq_true,if_false];rw [<- Array.getElem?_toList,h1,<- hF,Array.getElem?_toList,getElem!_pos _ j hj,Array.getElem?_eq_getElem hj];rfl
  have hlt:g < w.heap.size:=(aE hg).1;have hcmp:CmpLays Tryz.prog 186 #[] (ZaB (w:=w)) 2 gcf g 0 d.toArray.size w:=by
   intro m os dk hdk x y;have key:∀ z:GS w,InT (sortWorldK ZaB 2 w g 0 m dk os) z.1.1:=fun z=>z.2.block (size_sortWorldK_c ZaB 2 w g 0 m dk os) fun b hbt=>
    XZ ZaB 2 0 m dk os hbt.lt (fun e=>by subst e;exact hbt.ne ⟨_,_,hg⟩ (by decide) rfl)
   exact QD x.1 y.1 _ (key x) (key y)
  have hcall:=AnyQ.slices_SortFunc Vb 2 Zf5 ZeG ZaB (fun _=>rfl) (fun x v hv=>by simp [ZaB] at hv;rcases hv with rfl | rfl <;> rfl) gcf (Zhn w) 186 #[] g 0 c d.toArray w
   (enters_of Tryz.func186 (by kernel_rfl) rfl) hcmp hH hlt (by simp [hdl];exact hsz)
  have hds:d.toArray.size = L.length:=by simp [hdl]
  rw [hds] at hcall;refine hcall.mono ?_;rintro e w' ⟨rfl,d',n,os,⟨p1,p2,p3⟩,hsrt,rfl⟩;refine ⟨rfl,d'.toList.map (·.1),?_,?_,?_,Va ZaB 2 0 n d' os⟩
  ·have hs2:d'.size = L.length:=by rw [p1,hds]
   have e1:(d'.extract 0 L.length).toList = d'.toList:=(by rw [<- hs2];simp);have e2:(d.toArray.extract 0 L.length).toList = d:=(by rw [<- hdl];simp);rw [e1,e2] at p3;have:=p3.map (·.1)
   rwa [hd] at this
  ·have hs2:d'.size = L.length:=by rw [p1,hds]
   rw [List.pairwise_map,List.pairwise_iff_getElem];intro i j hi hj hij;simp at hi hj;have:=of_decide_eq_false (hsrt i j (Nat.zero_le _) hij (by omega));rw [getElem!_pos d' i hi,getElem!_pos d' j hj] at this;simpa [gcf] using this
  ·have hs2:d'.size = L.length:=by rw [p1,hds]
   have hml:(d'.toList.map (·.1)).length = L.length:=(by simp [hs2]);have hFd:(flatK ZaB 2 d').toList = JZ (d'.toList.map (·.1)):=(by have:=Q4 d'.toList;simpa using this);refine ⟨⟨by rw [Jt],.inr ⟨g,c,putCells id 0 (flatK ZaB 2 d') cur,by rw [hml],hb,Qv ZaB 2 0 n d' os hg,by rw [hml];exact hn,hm,by simp [putCells,hs],?_⟩⟩,?_,?_⟩
   ·have:=Uq cur (flatK ZaB 2 d') (by simp [hs2];omega);rw [hFd] at this;rw [<- this];congr 1;simp [hs2]
   ·intro x hx;obtain ⟨z,hz,rfl⟩:=List.mem_map.1 hx;exact z.2.block (size_sortWorldK_c ZaB 2 w g 0 n d' os) fun b hbt=>
     XZ ZaB 2 0 n d' os hbt.lt (fun e=>by subst e;exact hbt.ne ⟨_,_,hg⟩ (by decide) rfl)
   ·intro x hx;have hs2:d'.size = L.length:=(by rw [p1,hds]);have e1:(d'.extract 0 L.length).toList = d'.toList:=(by rw [<- hs2];simp);have e2:(d.toArray.extract 0 L.length).toList = d:=(by rw [<- hdl];simp);rw [e1,e2] at p3;have:=p3.map (·.1);rw [hd] at this;exact h.num x (this.mem_iff.1 hx)
theorem ZdV (A:Option Addr) (c base:Nat) (L:List Gm) (w:World) (h:GLo w base A c L) (hsz:L.length < 4611686018427387904) :
  Calls Tryz.prog 185 #[.slice A L.length c,.func (.func 186) #[] #[]] w fun e w'=>
   e = .returned (.tuple #[]) /\ ∃ L':List Gm,L'.Perm L /\ L'.Pairwise (fun x y=>¬ J3 y.1.2.2 x.1.2.2 < 0) /\ GLo w' base A c L' /\ w.grownBy w' (Value.slice A L.length c).ownBlock:=by
 by_cases hA:L = []
 ·subst hA;refine (AnyF.slices_SortFunc_none Vb A c (.func (.func 186) #[] #[]) w).mono ?_;rintro e w' ⟨rfl,rfl⟩;exact ⟨rfl,[],List.Perm.refl _,List.Pairwise.nil,h,⟨rfl,rfl,rfl,Nat.le_refl _,fun _ _ _=>rfl⟩⟩
 ·exact ZdU A c base L w h hA hsz
end Go.Proofs.YtcjicjfbippmnaaGreat
namespace Go.Proofs.YtcjicjfbippmnaaGreat
open Go.RowKit Ear
set_option linter.unusedVariables false

def FL (w:World) (A:Option Addr) (n:Nat) (X:Nat -> Fr) (Q:Nat -> Rat):Prop:=
 ∀ k,k < n -> ∃ b off,A = some ⟨b,off,none⟩ /\ b < w.heap.size /\ w.cell? ⟨b,off + k * 3,none⟩ = some (.bool (X k).neg) /\ w.cell? ⟨b,off + k * 3 + 1,none⟩ = some (.slice (X k).A (X k).N.length (X k).c) /\ w.cell? ⟨b,off + k * 3 + 2,none⟩ = some (.slice (X k).B (X k).D.length (X k).d) /\ Fv w (X k) (Q k)
theorem FL.below {w w':World} {A:Option Addr} {n:Nat} {X:Nat -> Fr} {Q:Nat -> Rat} (h:FL w A n X Q) (hb:Below w.heap.size w w'):FL w' A n X Q:=fun k hk=>by
 obtain ⟨b,off,e,hlt,h0,h1,h2,h3⟩:=h k hk;exact ⟨b,off,e,Nat.lt_of_lt_of_le hlt hb.size,(hb.cell (p:=⟨b,off + k * 3,none⟩) hlt).trans h0,(hb.cell (p:=⟨b,off + k * 3 + 1,none⟩) hlt).trans h1,(hb.cell (p:=⟨b,off + k * 3 + 2,none⟩) hlt).trans h2,h3.below hb⟩
def Nb (w:World) (k:Nat) (x:Fr):Prop:=w.heap[k]? = some (.cells #[.bool x.neg,.slice x.A x.N.length x.c,.slice x.B x.D.length x.d] 119 (0,0))
theorem Nb.lt {w:World} {k:Nat} {x:Fr} (h:Nb w k x):k < w.heap.size:=(aE h).1
theorem Nb.below {w w':World} {k:Nat} {x:Fr} (h:Nb w k x) (hb:Below w.heap.size w w'):Nb w' k x:=(hb.block k h.lt).trans h
theorem Nb.facts {w:World} {k:Nat} {x:Fr} (h:Nb w k x):w.cell? ⟨k,0,none⟩ = some (.bool x.neg) /\ w.cell? ⟨k,1,none⟩ = some (.slice x.A x.N.length x.c) /\ w.cell? ⟨k,2,none⟩ = some (.slice x.B x.D.length x.d) /\ w.frozen? ⟨k,0,none⟩ = false /\ w.frozen? ⟨k,1,none⟩ = false /\ w.frozen? ⟨k,2,none⟩ = false:=
 ⟨(Xe h).1,(Xe h).2.1,(Xe h).2.2,Jp h 0,Jp h 1,Jp h 2⟩
theorem Nm.rowed {w:World} {x r:Fr} {q:Rat} {k:Nat} (h:Nm w r q) (hb:Nb w k x) (v0 v1 v2:Value):Nm (((w.setCell ⟨k,0,none⟩ v0).setCell ⟨k,1,none⟩ v1).setCell ⟨k,2,none⟩ v2) r q:=by
 have hk:∀ b,b ≠ k -> b < w.heap.size -> (((w.setCell ⟨k,0,none⟩ v0).setCell ⟨k,1,none⟩ v1).setCell ⟨k,2,none⟩ v2).heap[b]? = w.heap[b]?:=fun b hne _=>
  (Below.heap_setCell _ ⟨k,2,none⟩ v2 b hne).trans ((Below.heap_setCell _ ⟨k,1,none⟩ v1 b hne).trans (Below.heap_setCell _ ⟨k,0,none⟩ v0 b hne))
 exact ⟨h.neg,h.num,h.dn,⟨h.n.lies.apartRow hb (by simp) hk,h.n.dig,h.n.cap,h.n.nil⟩,⟨h.d.lies.apartRow hb (by simp) hk,h.d.dig,h.d.cap,h.d.nil⟩⟩
theorem Zga (n:Nat) (X:Nat -> Fr) (Q acc:Nat -> Rat) (A:Option Addr) (c:Nat) (s:Fr) (w:World) (hs:Nm w s (acc 0)) (hl:FL w A n X Q) (hn:n <= 1000000) (hacc:∀ k,k < n -> acc (k + 1) = acc k + Q k) (hsz:∀ k,k <= n -> Sz (acc k) 190000) (hq:∀ k,k < n -> Few (X k) 190000) :
  Calls Tryz.prog 134 #[s.val,.func (.func 65) #[] #[],.slice A n c] w (Qh (acc n) w):=by
 obtain ⟨W,hW⟩:∃ W:World,W = (w.alloc (.cells #[.bool s.neg,.slice s.A s.N.length s.c,.slice s.B s.D.length s.d] 119)).alloc (.cells #[.bool false,.slice none 0 0,.slice none 0 0] 119):=⟨_,rfl⟩;have HB0:Hid (Below w.heap.size w W):=zH (by rw [hW];exact al2 w _ _);have HBX:Hid (Bt 119 W (w.heap.size + 1)):=zH (by rw [hW];have:=Bt.new 119 (w.alloc (.cells #[.bool s.neg,.slice s.A s.N.length s.c,.slice s.B s.D.length s.d] 119));simpa using this);have HNB:Hid (Nb W w.heap.size s):=zH (by rw [hW];exact (Below.heap_alloc _ _ _ (by simp)).trans (heap_alloc_new w _));have HS:=zH (hs.below HB0.out);have HA:=zH hacc;have HSZ:=zH hsz;have HF:=zH hq;have HL:=zH hl;clear hs hacc hsz hq hl;go_enter Tryz.func134,Tryz.ntmps134;go_wp2_with fail;rw [<- hW];clear hW;go_loopw [8,11] (fun _ i wr=>∃ k:Nat,k <= n /\ i = .int .i64 k /\ ∃ a:Fr,Hid (Nm wr a (acc k)) /\ Hid (Nb wr w.heap.size a) /\ Hid (Bt 119 wr (w.heap.size + 1)) /\ Hid (Below w.heap.size w wr)) (fun _ i _=>n - (intOf i).toNat)
 case atStart=>exact ⟨0,by omega,rfl,s,HS,HNB,HBX,HB0⟩
 case round=>
  obtain ⟨k,hk,rfl,a,HN,HRB,HRX,HRW⟩:=hrel;clear HNB HBX HB0 HS;by_cases hlt:k < n
  ·obtain ⟨b,off,rfl,hb,x0,x1,x2,x3⟩:=(HL.out.below HRW.out) k hlt;have SA:=zH (HSZ.out k (by omega));have XF0:=HF.out k hlt;have XF:Hid (Few (X k) 390000):=zH ⟨tR XF0.n (by decide),tR XF0.d (by decide)⟩;have SQ:=zH (x3.sz XF0 (by decide));have HX3:=zH x3;have HAK:=zH (HA.out k hlt);obtain ⟨V,hV⟩:∃ V:World,V = wr.alloc (.cells #[.bool (X k).neg,.slice (X k).A (X k).N.length (X k).c,.slice (X k).B (X k).D.length (X k).d] 28):=⟨_,rfl⟩;have BV:Hid (Below wr.heap.size wr V):=zH (by rw [hV];exact bR.alloc nR _);have hwl:w.heap.size < wr.heap.size:=HRB.out.lt;have hwx:w.heap.size + 1 < wr.heap.size:=HRX.out.lt;have HC:Hid (∀ u,Below V.heap.size V u -> u.cell? ⟨w.heap.size,0,none⟩ = some (.bool a.neg) /\ u.cell? ⟨w.heap.size,1,none⟩ = some (.slice a.A a.N.length a.c) /\ u.cell? ⟨w.heap.size,2,none⟩ = some (.slice a.B a.D.length a.d) /\ u.cell? ⟨wr.heap.size,0,none⟩ = some (.bool (X k).neg) /\ u.cell? ⟨wr.heap.size,1,none⟩ = some (.slice (X k).A (X k).N.length (X k).c) /\ u.cell? ⟨wr.heap.size,2,none⟩ = some (.slice (X k).B (X k).D.length (X k).d)):=zH (fun u hu=>by
    obtain ⟨a0,a1,a2,-,-,-⟩:=((HRB.out.below BV.out).below hu).facts;have hvs:wr.heap.size < V.heap.size:=(by rw [hV];simp);refine ⟨a0,a1,a2,?_,?_,?_⟩
    ·rw [hu.cell (p:=⟨wr.heap.size,0,none⟩) hvs,hV];simp [go_sem]
    ·rw [hu.cell (p:=⟨wr.heap.size,1,none⟩) hvs,hV];simp [go_sem]
    ·rw [hu.cell (p:=⟨wr.heap.size,2,none⟩) hvs,hV];simp [go_sem])
   have HNV:=zH (HN.out.below BV.out);have HXV:=zH (HX3.out.below BV.out);have HRBV:=zH (HRB.out.below BV.out);have HRXV:=zH (HRX.out.below BV.out);have HRWV:=zH (HRW.out.trans (BV.out.mono HRW.out.size));clear x3 XF0 HN HRB HRX HRW HX3 BV;go_wp2_with fail;rw [<- hV];clear hV x0 x1 x2;refine Jl 5 22 rfl (by kernel_rfl) (by kernel_rfl) (by kernel_rfl) (by kernel_rfl) (fun u=>Below V.heap.size V u) (fun u u'=>Below u.heap.size u u') (Gl [isV (.func (.func 65) #[] #[]),isV (a.val),isV ((X k).val),isNm (Q k),isNm (acc k + Q k)]) (Gl.keep (by
     intro p hp;simp only [List.mem_cons,List.not_mem_nil,or_false] at hp;rcases hp with rfl | rfl | rfl | rfl | rfl
     ·exact Keeps.isV _
     ·exact Keeps.isV _
     ·exact Keeps.isV _
     ·exact Keeps.isNm _
     ·exact Keeps.isNm _)) ?_ ?_ ?_
   ·exact (Below.refl _ V).drew
   ·simp only [List.pop_toArray,List.dropLast,Js];refine ⟨?_,?_,?_,?_,?_,trivial⟩
    ·intro bb u su dp kp K hK;have e1:gT bb 1 = .func (.func 65) #[] #[]:=kp 1 (by kernel_rfl);go_simp;exact hK _ _ su bR rfl
    ·intro bb u su dp kp K hK;have e3:gT bb 3 = .pointer (some ⟨w.heap.size,0,none⟩):=kp 3 (by kernel_rfl);obtain ⟨cc0,cc1,cc2,cc3,cc4,cc5⟩:=HC.out u su;go_simp;exact hK _ _ su bR rfl
    ·intro bb u su dp kp K hK;have e8:gT bb 8 = .pointer (some ⟨wr.heap.size,0,none⟩):=kp 8 (by kernel_rfl);obtain ⟨cc0,cc1,cc2,cc3,cc4,cc5⟩:=HC.out u su;go_simp;exact hK _ _ su bR rfl
    ·intro bb u su dp kp K hK;have e17:gT bb 17 = (X k).val:=dp 2 _ rfl (by kernel_rfl);go_simp;refine (XU (X k) (Q k) u (HXV.out.below su) XF.out).mono ?_;rintro e w' ⟨r,rfl,hr,h4⟩;go_simp;exact hK _ _ (su.trans (h4.mono su.size)) h4 ⟨r,rfl,zH hr⟩
    ·intro bb u su dp kp K hK;have e15:gT bb 15 = .func (.func 65) #[] #[]:=dp 0 _ rfl (by kernel_rfl);have e16:gT bb 16 = a.val:=dp 1 _ rfl (by kernel_rfl);obtain ⟨r18,e18,D18⟩:∃ r:Fr,gT bb 18 = r.val /\ Hid (Nm u r (Q k)):=dp 3 _ rfl (by kernel_rfl);go_simp;refine (Zcp a r18 (acc k) (Q k) u (HNV.out.below su) D18.out (SA.out.mono (by decide)) (SQ.out.mono (by decide))).mono ?_;rintro e w' ⟨r,rfl,hr,h4⟩;go_simp;exact hK _ _ (su.trans (h4.mono su.size)) h4 ⟨r,rfl,zH hr⟩
   ·intro bb u hN hdf su hG sm;obtain ⟨r,e19,hr⟩:∃ r:Fr,gT bb 19 = r.val /\ Hid (Nm u r (acc k + Q k)):=hG 4 _ rfl;have e1:gT bb 1 = .func (.func 65) #[] #[]:=sm 1 (by kernel_rfl);have e3:gT bb 3 = .pointer (some ⟨w.heap.size,0,none⟩):=sm 3 (by kernel_rfl);have e6:gT bb 6 = .pointer (some ⟨w.heap.size + 1,0,none⟩):=sm 6 (by kernel_rfl);have e9:gT bb 9 = .slice (some ⟨b,off,none⟩) n c:=sm 9 (by kernel_rfl);have e10:gT bb 10 = .int .i64 n:=sm 10 (by kernel_rfl);have e11:gT bb 11 = .int .i64 k:=sm 11 (by kernel_rfl);have e0:gT bb 0 = s.val:=sm 0 (by kernel_rfl);have e2:gT bb 2 = .slice (some ⟨b,off,none⟩) n c:=sm 2 (by kernel_rfl);have e4:gT bb 4 = undef:=sm 4 (by kernel_rfl);have e5:gT bb 5 = undef:=sm 5 (by kernel_rfl);have e7:gT bb 7 = undef:=sm 7 (by kernel_rfl);have e21:=sm 21 (by kernel_rfl);have RB:=zH (HRBV.out.below su);have RX:=zH (HRXV.out.below su);have RW:=zH (HRWV.out.trans (su.mono HRWV.out.size));obtain ⟨c0,c1,c2,f0,f1,f2⟩:=RB.out.facts;clear su hG sm;rw [J0 bb 22 hN];simp only [show List.range 22 = [0,1,2,3,4,5,6,7,8,9,10,11,12,13,14,15,16,17,18,19,20,21] from rfl,List.map_cons,List.map_nil,e0,e1,e2,e3,e4,e5,e6,e7,e9,e10,e11,e19,e21,hdf];clear e0 e1 e2 e3 e4 e5 e6 e7 e9 e10 e11 e19 e21 hN hdf;generalize gT bb 8 = z8,gT bb 12 = z12,gT bb 13 = z13,gT bb 14 = z14,gT bb 15 = z15,gT bb 16 = z16,gT bb 17 = z17,gT bb 18 = z18,gT bb 20 = z20;obtain ⟨rn,rA,rc,rN,rB,rd,rD⟩:=r;have NR:Hid (Nm (((u.setCell ⟨w.heap.size,0,none⟩ (.bool rn)).setCell ⟨w.heap.size,1,none⟩ (.slice rA rN.length rc)).setCell ⟨w.heap.size,2,none⟩ (.slice rB rD.length rd)) ⟨rn,rA,rc,rN,rB,rd,rD⟩ (acc (k + 1))):=zH (by rw [HAK.out];exact hr.out.rowed RB.out _ _ _);have BR:Hid (Nb (((u.setCell ⟨w.heap.size,0,none⟩ (.bool rn)).setCell ⟨w.heap.size,1,none⟩ (.slice rA rN.length rc)).setCell ⟨w.heap.size,2,none⟩ (.slice rB rD.length rd)) w.heap.size ⟨rn,rA,rc,rN,rB,rd,rD⟩):=zH (row3 RB.out _ _ _);have XR:Hid (Bt 119 (((u.setCell ⟨w.heap.size,0,none⟩ (.bool rn)).setCell ⟨w.heap.size,1,none⟩ (.slice rA rN.length rc)).setCell ⟨w.heap.size,2,none⟩ (.slice rB rD.length rd)) (w.heap.size + 1)):=zH ((Below.heap_setCell _ ⟨w.heap.size,2,none⟩ _ _ (by simp)).trans ((Below.heap_setCell _ ⟨w.heap.size,1,none⟩ _ _ (by simp)).trans ((Below.heap_setCell _ ⟨w.heap.size,0,none⟩ _ _ (by simp)).trans RX.out)));have WR:Hid (Below w.heap.size w (((u.setCell ⟨w.heap.size,0,none⟩ (.bool rn)).setCell ⟨w.heap.size,1,none⟩ (.slice rA rN.length rc)).setCell ⟨w.heap.size,2,none⟩ (.slice rB rD.length rd))):=zH (Jj RW.out nR _ _ _);refine PopQ.last rfl rfl (fun K hK=>?_);go_simp;refine hK _ _ ?_;clear hK K;go_wp2_with fail;exact ⟨⟨k + 1,by omega,by go_num,_,NR,BR,XR,WR⟩,by simp [intOf];omega⟩
  ·obtain rfl:k = n:=by omega
   obtain ⟨c0,c1,c2,-,-,-⟩:=HRB.out.facts;obtain ⟨k0,k1,k2,f0,f1,f2⟩:=HRX.out.facts;go_wp2_with fail;obtain ⟨g0,g1,g2⟩:=Z6 (.bool a.neg) (.slice a.A a.N.length a.c) (.slice a.B a.D.length a.d) k0 k1 k2;refine bodyPost_ret (v:=.agg #[.bool a.neg,.slice a.A a.N.length a.c,.slice a.B a.D.length a.d]) (by simp [results,Tryz.results134,go_sem,g0,g1,g2]) rfl ?_;exact ⟨a,rfl,YG HN.out HRX.out _ _ _,Jj HRW.out (by omega) _ _ _⟩
theorem Zf9 (n:Nat) (X:Nat -> Fr) (Q acc:Nat -> Rat) (A:Option Addr) (c:Nat) (s:Fr) (w:World) (hs:Nm w s (acc 0)) (hl:FL w A n X Q) (hn:n <= 1000000) (hacc:∀ k,k < n -> acc (k + 1) = acc k * Q k) (hsz:∀ k,k <= n -> Sz (acc k) 190000) (hq:∀ k,k < n -> Few (X k) 190000) :
  Calls Tryz.prog 134 #[s.val,.func (.func 166) #[] #[],.slice A n c] w (Qh (acc n) w):=by
 obtain ⟨W,hW⟩:∃ W:World,W = (w.alloc (.cells #[.bool s.neg,.slice s.A s.N.length s.c,.slice s.B s.D.length s.d] 119)).alloc (.cells #[.bool false,.slice none 0 0,.slice none 0 0] 119):=⟨_,rfl⟩;have HB0:Hid (Below w.heap.size w W):=zH (by rw [hW];exact al2 w _ _);have HBX:Hid (Bt 119 W (w.heap.size + 1)):=zH (by rw [hW];have:=Bt.new 119 (w.alloc (.cells #[.bool s.neg,.slice s.A s.N.length s.c,.slice s.B s.D.length s.d] 119));simpa using this);have HNB:Hid (Nb W w.heap.size s):=zH (by rw [hW];exact (Below.heap_alloc _ _ _ (by simp)).trans (heap_alloc_new w _));have HS:=zH (hs.below HB0.out);have HA:=zH hacc;have HSZ:=zH hsz;have HF:=zH hq;have HL:=zH hl;clear hs hacc hsz hq hl;go_enter Tryz.func134,Tryz.ntmps134;go_wp2_with fail;rw [<- hW];clear hW;go_loopw [8,11] (fun _ i wr=>∃ k:Nat,k <= n /\ i = .int .i64 k /\ ∃ a:Fr,Hid (Nm wr a (acc k)) /\ Hid (Nb wr w.heap.size a) /\ Hid (Bt 119 wr (w.heap.size + 1)) /\ Hid (Below w.heap.size w wr)) (fun _ i _=>n - (intOf i).toNat)
 case atStart=>exact ⟨0,by omega,rfl,s,HS,HNB,HBX,HB0⟩
 case round=>
  obtain ⟨k,hk,rfl,a,HN,HRB,HRX,HRW⟩:=hrel;clear HNB HBX HB0 HS;by_cases hlt:k < n
  ·obtain ⟨b,off,rfl,hb,x0,x1,x2,x3⟩:=(HL.out.below HRW.out) k hlt;have SA:=zH (HSZ.out k (by omega));have XF0:=HF.out k hlt;have XF:Hid (Few (X k) 390000):=zH ⟨tR XF0.n (by decide),tR XF0.d (by decide)⟩;have SQ:=zH (x3.sz XF0 (by decide));have HX3:=zH x3;have HAK:=zH (HA.out k hlt);obtain ⟨V,hV⟩:∃ V:World,V = wr.alloc (.cells #[.bool (X k).neg,.slice (X k).A (X k).N.length (X k).c,.slice (X k).B (X k).D.length (X k).d] 28):=⟨_,rfl⟩;have BV:Hid (Below wr.heap.size wr V):=zH (by rw [hV];exact bR.alloc nR _);have hwl:w.heap.size < wr.heap.size:=HRB.out.lt;have hwx:w.heap.size + 1 < wr.heap.size:=HRX.out.lt;have HC:Hid (∀ u,Below V.heap.size V u -> u.cell? ⟨w.heap.size,0,none⟩ = some (.bool a.neg) /\ u.cell? ⟨w.heap.size,1,none⟩ = some (.slice a.A a.N.length a.c) /\ u.cell? ⟨w.heap.size,2,none⟩ = some (.slice a.B a.D.length a.d) /\ u.cell? ⟨wr.heap.size,0,none⟩ = some (.bool (X k).neg) /\ u.cell? ⟨wr.heap.size,1,none⟩ = some (.slice (X k).A (X k).N.length (X k).c) /\ u.cell? ⟨wr.heap.size,2,none⟩ = some (.slice (X k).B (X k).D.length (X k).d)):=zH (fun u hu=>by
    obtain ⟨a0,a1,a2,-,-,-⟩:=((HRB.out.below BV.out).below hu).facts;have hvs:wr.heap.size < V.heap.size:=(by rw [hV];simp);refine ⟨a0,a1,a2,?_,?_,?_⟩
    ·rw [hu.cell (p:=⟨wr.heap.size,0,none⟩) hvs,hV];simp [go_sem]
    ·rw [hu.cell (p:=⟨wr.heap.size,1,none⟩) hvs,hV];simp [go_sem]
    ·rw [hu.cell (p:=⟨wr.heap.size,2,none⟩) hvs,hV];simp [go_sem])
   have HNV:=zH (HN.out.below BV.out);have HXV:=zH (HX3.out.below BV.out);have HRBV:=zH (HRB.out.below BV.out);have HRXV:=zH (HRX.out.below BV.out);have HRWV:=zH (HRW.out.trans (BV.out.mono HRW.out.size));clear x3 XF0 HN HRB HRX HRW HX3 BV;go_wp2_with fail;rw [<- hV];clear hV x0 x1 x2;refine Jl 5 22 rfl (by kernel_rfl) (by kernel_rfl) (by kernel_rfl) (by kernel_rfl) (fun u=>Below V.heap.size V u) (fun u u'=>Below u.heap.size u u') (Gl [isV (.func (.func 166) #[] #[]),isV (a.val),isV ((X k).val),isNm (Q k),isNm (acc k * Q k)]) (Gl.keep (by
     intro p hp;simp only [List.mem_cons,List.not_mem_nil,or_false] at hp;rcases hp with rfl | rfl | rfl | rfl | rfl
     ·exact Keeps.isV _
     ·exact Keeps.isV _
     ·exact Keeps.isV _
     ·exact Keeps.isNm _
     ·exact Keeps.isNm _)) ?_ ?_ ?_
   ·exact (Below.refl _ V).drew
   ·simp only [List.pop_toArray,List.dropLast,Js];refine ⟨?_,?_,?_,?_,?_,trivial⟩
    ·intro bb u su dp kp K hK;have e1:gT bb 1 = .func (.func 166) #[] #[]:=kp 1 (by kernel_rfl);go_simp;exact hK _ _ su bR rfl
    ·intro bb u su dp kp K hK;have e3:gT bb 3 = .pointer (some ⟨w.heap.size,0,none⟩):=kp 3 (by kernel_rfl);obtain ⟨cc0,cc1,cc2,cc3,cc4,cc5⟩:=HC.out u su;go_simp;exact hK _ _ su bR rfl
    ·intro bb u su dp kp K hK;have e8:gT bb 8 = .pointer (some ⟨wr.heap.size,0,none⟩):=kp 8 (by kernel_rfl);obtain ⟨cc0,cc1,cc2,cc3,cc4,cc5⟩:=HC.out u su;go_simp;exact hK _ _ su bR rfl
    ·intro bb u su dp kp K hK;have e17:gT bb 17 = (X k).val:=dp 2 _ rfl (by kernel_rfl);go_simp;refine (XU (X k) (Q k) u (HXV.out.below su) XF.out).mono ?_;rintro e w' ⟨r,rfl,hr,h4⟩;go_simp;exact hK _ _ (su.trans (h4.mono su.size)) h4 ⟨r,rfl,zH hr⟩
    ·intro bb u su dp kp K hK;have e15:gT bb 15 = .func (.func 166) #[] #[]:=dp 0 _ rfl (by kernel_rfl);have e16:gT bb 16 = a.val:=dp 1 _ rfl (by kernel_rfl);obtain ⟨r18,e18,D18⟩:∃ r:Fr,gT bb 18 = r.val /\ Hid (Nm u r (Q k)):=dp 3 _ rfl (by kernel_rfl);go_simp;refine (Zco a r18 (acc k) (Q k) u (HNV.out.below su) D18.out (SA.out.mono (by decide)) (SQ.out.mono (by decide))).mono ?_;rintro e w' ⟨r,rfl,hr,h4⟩;go_simp;exact hK _ _ (su.trans (h4.mono su.size)) h4 ⟨r,rfl,zH hr⟩
   ·intro bb u hN hdf su hG sm;obtain ⟨r,e19,hr⟩:∃ r:Fr,gT bb 19 = r.val /\ Hid (Nm u r (acc k * Q k)):=hG 4 _ rfl;have e1:gT bb 1 = .func (.func 166) #[] #[]:=sm 1 (by kernel_rfl);have e3:gT bb 3 = .pointer (some ⟨w.heap.size,0,none⟩):=sm 3 (by kernel_rfl);have e6:gT bb 6 = .pointer (some ⟨w.heap.size + 1,0,none⟩):=sm 6 (by kernel_rfl);have e9:gT bb 9 = .slice (some ⟨b,off,none⟩) n c:=sm 9 (by kernel_rfl);have e10:gT bb 10 = .int .i64 n:=sm 10 (by kernel_rfl);have e11:gT bb 11 = .int .i64 k:=sm 11 (by kernel_rfl);have e0:gT bb 0 = s.val:=sm 0 (by kernel_rfl);have e2:gT bb 2 = .slice (some ⟨b,off,none⟩) n c:=sm 2 (by kernel_rfl);have e4:gT bb 4 = undef:=sm 4 (by kernel_rfl);have e5:gT bb 5 = undef:=sm 5 (by kernel_rfl);have e7:gT bb 7 = undef:=sm 7 (by kernel_rfl);have e21:=sm 21 (by kernel_rfl);have RB:=zH (HRBV.out.below su);have RX:=zH (HRXV.out.below su);have RW:=zH (HRWV.out.trans (su.mono HRWV.out.size));obtain ⟨c0,c1,c2,f0,f1,f2⟩:=RB.out.facts;clear su hG sm;rw [J0 bb 22 hN];simp only [show List.range 22 = [0,1,2,3,4,5,6,7,8,9,10,11,12,13,14,15,16,17,18,19,20,21] from rfl,List.map_cons,List.map_nil,e0,e1,e2,e3,e4,e5,e6,e7,e9,e10,e11,e19,e21,hdf];clear e0 e1 e2 e3 e4 e5 e6 e7 e9 e10 e11 e19 e21 hN hdf;generalize gT bb 8 = z8,gT bb 12 = z12,gT bb 13 = z13,gT bb 14 = z14,gT bb 15 = z15,gT bb 16 = z16,gT bb 17 = z17,gT bb 18 = z18,gT bb 20 = z20;obtain ⟨rn,rA,rc,rN,rB,rd,rD⟩:=r;have NR:Hid (Nm (((u.setCell ⟨w.heap.size,0,none⟩ (.bool rn)).setCell ⟨w.heap.size,1,none⟩ (.slice rA rN.length rc)).setCell ⟨w.heap.size,2,none⟩ (.slice rB rD.length rd)) ⟨rn,rA,rc,rN,rB,rd,rD⟩ (acc (k + 1))):=zH (by rw [HAK.out];exact hr.out.rowed RB.out _ _ _);have BR:Hid (Nb (((u.setCell ⟨w.heap.size,0,none⟩ (.bool rn)).setCell ⟨w.heap.size,1,none⟩ (.slice rA rN.length rc)).setCell ⟨w.heap.size,2,none⟩ (.slice rB rD.length rd)) w.heap.size ⟨rn,rA,rc,rN,rB,rd,rD⟩):=zH (row3 RB.out _ _ _);have XR:Hid (Bt 119 (((u.setCell ⟨w.heap.size,0,none⟩ (.bool rn)).setCell ⟨w.heap.size,1,none⟩ (.slice rA rN.length rc)).setCell ⟨w.heap.size,2,none⟩ (.slice rB rD.length rd)) (w.heap.size + 1)):=zH ((Below.heap_setCell _ ⟨w.heap.size,2,none⟩ _ _ (by simp)).trans ((Below.heap_setCell _ ⟨w.heap.size,1,none⟩ _ _ (by simp)).trans ((Below.heap_setCell _ ⟨w.heap.size,0,none⟩ _ _ (by simp)).trans RX.out)));have WR:Hid (Below w.heap.size w (((u.setCell ⟨w.heap.size,0,none⟩ (.bool rn)).setCell ⟨w.heap.size,1,none⟩ (.slice rA rN.length rc)).setCell ⟨w.heap.size,2,none⟩ (.slice rB rD.length rd))):=zH (Jj RW.out nR _ _ _);refine PopQ.last rfl rfl (fun K hK=>?_);go_simp;refine hK _ _ ?_;clear hK K;go_wp2_with fail;exact ⟨⟨k + 1,by omega,by go_num,_,NR,BR,XR,WR⟩,by simp [intOf];omega⟩
  ·obtain rfl:k = n:=by omega
   obtain ⟨c0,c1,c2,-,-,-⟩:=HRB.out.facts;obtain ⟨k0,k1,k2,f0,f1,f2⟩:=HRX.out.facts;go_wp2_with fail;obtain ⟨g0,g1,g2⟩:=Z6 (.bool a.neg) (.slice a.A a.N.length a.c) (.slice a.B a.D.length a.d) k0 k1 k2;refine bodyPost_ret (v:=.agg #[.bool a.neg,.slice a.A a.N.length a.c,.slice a.B a.D.length a.d]) (by simp [results,Tryz.results134,go_sem,g0,g1,g2]) rfl ?_;exact ⟨a,rfl,YG HN.out HRX.out _ _ _,Jj HRW.out (by omega) _ _ _⟩
end Go.Proofs.YtcjicjfbippmnaaGreat
