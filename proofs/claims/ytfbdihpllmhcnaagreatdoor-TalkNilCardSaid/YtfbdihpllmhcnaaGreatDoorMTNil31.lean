/- TalkNil -/
import Derived.Test.YtfbdihpllmhcnaaGreatDoorMTNil30
set_option maxRecDepth 100000
set_option maxHeartbeats 32000000
namespace Go.Proofs.YtfbdihpllmhcnaaGreatDoor
open Go.RowKit Ear

theorem Zda (w:World) (b j:Nat) (v:Value):w.grownBy (w.setCell ⟨b,j,none⟩ v) (some b):=
 ⟨rfl,rfl,rfl,by simp [World.setCell],fun k _ hne=>RowKit.Below.heap_setCell w _ _ k (fun e=>hne (by rw [e]))⟩
theorem DlM.hdr {w:World} {bs:Nat} {a:DlA} {D:PDl} (h:DlM w bs a D) (j:Nat) (v:Value) (D2:PDl) (hdl:(dlc a D).setIfInBounds j v = dlc a D2) (hF:D2.F = D.F) (hS:D2.S = D.S):DlM (w.setCell ⟨a.q,j,none⟩ v) bs a D2 /\ Chg w (w.setCell ⟨a.q,j,none⟩ v) a a:=by
 have hg:=Zda w a.q j v
 have hbq:BT w a.q 44:=⟨_,_,h.cell⟩
 refine ⟨⟨?_,fun w' hs hk=>?_,?_,fun f hf=>?_,h.apart,?_,h.len,h.pos,h.lt.1,h.lt.2.1,tR h.lt.2.2 hg.size⟩,?_⟩
 ·have:=Jx h.cell j v
  rw [hdl] at this
  exact this
 ·rw [hS]
  exact h.stab w' (tR hg.size hs) (fun b h1 h2 h3=>(hk b h1 h2 h3).trans (hg.block b (Nat.lt_of_lt_of_le h1 h.lt.2.2) (fun e=>by injection e with e;exact h2 e)))
 ·exact Jo h.row hg (fun b hb e=>by injection e with e;subst e;exact (BT.of_own h.row hb).ne hbq (by decide) rfl)
 ·exact Jo (h.ref f hf) hg (fun b hb e=>by injection e with e;subst e;exact (BT.of_own (h.ref f hf) hb).ne hbq (by decide) rfl)
 ·rw [hF]
  exact h.pure
 ·exact ⟨hg.os,hg.tape,hg.output,hg.size,fun b h1 h2 _ _=>hg.block b h1 (fun e=>by injection e with e;exact h2 e),fun f hf _ hb=>.inl ⟨f,hf,hb⟩,rfl,rfl⟩
def Zec:List (Int × FuncId):=[(1,97),(2,98),(3,99),(4,100)]
abbrev fnV (g:FuncId):Value:=.func (.func g) #[] #[]
abbrev EffM (w:World) (b:Nat) (m:List (Int × FuncId)):Prop:=MapIs Tryz.prog 23 (Value.int .i64) fnV w b m
theorem Zb1:Maps.Keyed Tryz.prog 23:=Maps.int_keyed Tryz.underlying23
theorem Zd8:Inj (Value.int .i64):=fun a b h=>by injection h
theorem ZfW {k:Int} (h:(Lit.int .i64 k).wf = true):∃ l,keyOf Tryz.prog 23 (.int .i64 k) = some l:=⟨_,Maps.keyOf_int_mk Tryz.underlying23 h⟩
theorem EffM.look {w:World} {b:Nat} {m:List (Int × FuncId)} (h:EffM w b m) (k:Int) (hk:(Lit.int .i64 k).wf = true):(Instr.lookup 141 (.map (some b)) (.int .i64 k) false).run Tryz.prog w = .ok (((JZ m k).map fnV).getD .nilFunc) w:=by
 obtain ⟨kl,hkl⟩:=ZfW hk
 exact MapIs.lookup (e:=37) (z:=.nilFunc) h Zb1 Zd8 Tryz.underlying141 (by kernel_rfl) k hkl
theorem EffM.put {w:World} {b:Nat} {m:List (Int × FuncId)} (h:EffM w b m) (k:Int) (g:FuncId) (hk:(Lit.int .i64 k).wf = true):∃ w',(Instr.mapUpdate 141 (.map (some b)) (.int .i64 k) (fnV g)).run Tryz.prog w = .ok () w' /\ EffM w' b (YB m k g) /\ w.grownBy w' (some b):=by
 obtain ⟨kl,hkl⟩:=ZfW hk
 exact MapIs.update (e:=37) h Zb1 Zd8 Tryz.underlying141 k g hkl
theorem Zbt (w:World):Calls Tryz.prog 57 #[] w fun e w'=>∃ b,e = .returned (.map (some b)) /\ EffM w' b Zec /\ Below w.heap.size w w':=by
 obtain ⟨V,hV⟩:∃ V:World,V = w.alloc (.map #[] 0):=⟨_,rfl⟩
 have hm:EffM V w.heap.size []:=by rw [hV];exact MapIs.made Tryz.prog 23 (Value.int .i64) fnV w
 have hb:Below w.heap.size w V:=by rw [hV];exact bR.alloc nR _
 obtain ⟨V1,u1,m1,g1⟩:=EffM.put hm 1 97 (by decide)
 obtain ⟨V2,u2,m2,g2⟩:=EffM.put m1 2 98 (by decide)
 obtain ⟨V3,u3,m3,g3⟩:=EffM.put m2 3 99 (by decide)
 obtain ⟨V4,u4,m4,g4⟩:=EffM.put m3 4 100 (by decide)
 have hsz:w.heap.size <= V.heap.size:=hb.size
 have HM:Hid (EffM V4 w.heap.size Zec):=zH m4
 have HB:Hid (Below w.heap.size w V4):=zH ((((hb.grown g1 hsz (fun k hk=>by injection hk with hk;omega)).grown g2 (tR hsz g1.size) (fun k hk=>by injection hk with hk;omega)).grown g3 (tR (tR hsz g1.size) g2.size) (fun k hk=>by injection hk with hk;omega)).grown g4 (tR (tR (tR hsz g1.size) g2.size) g3.size) (fun k hk=>by injection hk with hk;omega))
 have hmk:∀ W:World,(Instr.makeMap 141 none).run Tryz.prog W = .ok (.map (some W.heap.size)) (W.alloc (.map #[] 0)):=fun W=>rfl
 rw [hV] at u1
 clear hm hb m1 m2 m3 m4 g1 g2 g3 g4 hsz hV
 go_enter Tryz.func57,Tryz.ntmps57
 go_wp2_with fail
 go_ret
 exact ⟨_,rfl,HM.out,HB.out⟩
theorem Zea (g:FuncId):∀ W,(binOp .eql 37 (.func (.func g) #[] #[]) .nilFunc).run Tryz.prog W = .ok (.bool false) W:=fun W=>by kernel_rfl
theorem Zgg {v:BA} (h:v = ⟨#[]⟩):(ByteArray.toList v).isEmpty = true:=by rw [h,ByteArray.toList_eq];rfl
def Zdy:Int:=1099511627776
end Go.Proofs.YtfbdihpllmhcnaaGreatDoor
namespace Ear
def Xj (D:PDl) (r:Bool):PDl:=if r then { D with bad:=0 } else if D.pat < D.bad + 1 then { D with bad:=D.bad + 1,stand:=2 } else { D with bad:=D.bad + 1 }
theorem ZgB (D:PDl) (r:Bool):(Xj D r).F = D.F:=by
 unfold Xj
 split
 ·rfl
 ·split <;> rfl
def ZdR (D:PDl) (t:Int):PDl:=if Qo D.F < 0 then { D with prompt:=t,last:=t,stand:=1 } else { D with prompt:=t,last:=t }
def Jq (D:PDl) (t:Int):PDl:=if t < D.prompt + D.prm then { D with cuts:=D.cuts + 1 } else D
end Ear
namespace Go.Proofs.YtfbdihpllmhcnaaGreatDoor
open Go.RowKit Ear

theorem Fv.ku {w w':World} {x:Fr} {q:Rat} (h:Fv w x q) (k:KU w w'):Fv w' x q:=⟨h.n.ku k,h.d.ku k,h.val⟩
theorem Zd9 {w:World} {b q:Nat} {cs ds:Array Value} (h:w.heap[b]? = some (.cells cs 28 (0,0))) (k:w.heap[q]? = some (.cells ds 44 (0,0))):b ≠ q:=by
 have hb:BT w b 28:=⟨_,_,h⟩
 exact hb.ne ⟨_,_,k⟩ (by decide)
theorem DlM.foreign {w:World} {bs:Nat} {a:DlA} {D:PDl} (h:DlM w bs a D) {b:Nat} {cs:Array Value} (hb:w.heap[b]? = some (.cells cs 28 (0,0))):b ≠ a.q /\ b ≠ a.gF /\ ∀ f ∈ a.Fm,blk f.A ≠ some b:=by
 have hbt:BT w b 28:=⟨_,_,hb⟩
 exact ⟨Zd9 hb h.cell,hbt.ne (BT.of_own h.row rfl) (by decide),fun f hf e=>(BT.of_own (h.ref f hf) (by rw [Jm];exact e)).ne hbt (by decide) rfl⟩
theorem Zg5 (bs:Nat) (a:DlA) (D D2:PDl) (r:Bool) (E:EvM) (q:Rat) (g:FuncId) (w:World) (h:DlM w bs a D) (hE:Fv w E.W q) (fE:Few E.W 90000) (hkw:(Lit.int .i64 E.kind).wf = true) (hG:JZ Zec E.kind = some g) (hp:YS q = true) (hkv:E.kind = 4 ∨ E.val = ⟨#[]⟩) (x1:¬ E.at_ < 0) (x2:¬ Zdy < E.at_) (x3:¬ E.at_ < D.last) (h0:D.stand = 0) (heg:Enters Tryz.prog g)
  (heff:Hid (∀ U,DlM U bs a (Jq D E.at_) -> Fv U E.W q -> Calls Tryz.prog g #[.pointer (some ⟨a.q,0,none⟩),E.v] U (Vz bs a r D2 U))) (hD : 0 <= D.prompt /\ D.prompt <= 2199023255552 /\ 0 <= D.prm /\ D.prm <= 10000 /\ 0 <= D.cuts /\ D.cuts <= 1000000000 /\ 0 <= D2.bad /\ D2.bad <= 1000000000) (hn:D2.F.length <= 1000000) :
  Calls Tryz.prog 23 #[.pointer (some ⟨a.q,0,none⟩),E.v] w fun e w'=>∃ a',e = .returned (.int .i64 0) /\ DlM w' bs a' (ZdR (Xj D2 r) E.at_) /\ Chg w w' a a':=by
 have p1:IntKind.i64.wrap (D.prompt + D.prm) = D.prompt + D.prm:=IntWalk.i64_in _ (by omega)
 have p2:IntKind.i64.wrap (D.cuts + 1) = D.cuts + 1:=IntWalk.i64_in _ (by omega)
 have p3:IntKind.i64.wrap (D2.bad + 1) = D2.bad + 1:=IntWalk.i64_in _ (by omega)
 have hen:∀ (args:Array Value) (w:World),(callFunc g args).run Tryz.prog w = .ok (.enter g args) w:=heg
 clear hD heg
 have HG:=zH hG
 have HPB:=zH hp
 clear hG hp
 have g1:decide (E.at_ < 0) = false:=dF x1
 have g2:decide (1099511627776 < E.at_) = false:=dF x2
 have g3:decide (E.at_ < D.last) = false:=dF x3
 have X1:=zH x1
 have X2:=zH x2
 have X3:=zH x3
 clear x1 x2 x3
 obtain ⟨W0,hW0⟩:∃ W0:World,W0 = w.alloc (.cells #[.int .i64 E.kind,.string E.val,.bool E.W.neg,.slice E.W.A E.W.N.length E.W.c,.slice E.W.B E.W.D.length E.W.d,.int .i64 E.at_] 28):=⟨_,rfl⟩
 have HB0:Hid (Below w.heap.size w W0):=zH (by rw [hW0];exact bR.alloc nR _)
 have HX0:Hid (W0.heap[w.heap.size]? = some (.cells #[.int .i64 E.kind,.string E.val,.bool E.W.neg,.slice E.W.A E.W.N.length E.W.c,.slice E.W.B E.W.D.length E.W.d,.int .i64 E.at_] 28 (0,0))):=zH (by rw [hW0];exact heap_alloc_new w _)
 have HD0:=zH (h.below HB0.out)
 have HE0:=zH (hE.below HB0.out)
 have hws:w.heap.size < W0.heap.size:=(aE HX0.out).1
 clear h hE
 unfold EvM.v
 go_enter Tryz.func23,Tryz.ntmps23
 go_wp2_with fail
 rw [<- hW0]
 clear hW0
 refine (Y1 bs a D W0 HD0.out).mono ?_
 rintro e w' ⟨rfl,rfl⟩
 go_upto_region 3 with fail
 refine Jk (S:=fun w'=>w'.cell? ⟨w.heap.size,0,none⟩ = some (.int .i64 E.kind)) 5 rfl (by kernel_rfl) ((cR 0 HX0.out).trans rfl) (fun hd=>?_)
 refine JG (i:=1) 10 (v:=?_) rfl rfl (by kernel_rfl) (by kernel_rfl) (by kernel_rfl) (fun _ _ _ h=>h) ⟨by rfl,?_⟩ hd ?_
 rotate_left
 ·intro w' sw;go_simp;try with_reducible rfl
 simp only [zA,zB,zC]
 refine JG (i:=2) 11 (v:=?_) rfl rfl (by kernel_rfl) (by kernel_rfl) (by kernel_rfl) (fun _ _ _ h=>h) ⟨by rfl,?_⟩ hd ?_
 rotate_left
 ·intro w' sw;go_simp;try with_reducible rfl
 simp only [zA,zB,zC]
 refine Je 0 rfl (by kernel_rfl) rfl (fun K hK=>?_)
 go_simp
 refine (Zbt w'.drew).mono ?_
 rintro e W2 ⟨b,rfl,hm2,hb2⟩
 have hb3:=JE hb2
 go_simp
 refine hK.out _ _ ((hb3.cell (p:=⟨w.heap.size,0,none⟩) hws).trans ((cR 0 HX0.out).trans rfl)) (fun hd=>?_)
 clear hK K
 refine Je 3 rfl (by kernel_rfl) rfl (fun K hK=>?_)
 have hlk:=EffM.look hm2 E.kind hkw
 have HX2:Hid (W2.heap[w.heap.size]? = some (.cells #[.int .i64 E.kind,.string E.val,.bool E.W.neg,.slice E.W.A E.W.N.length E.W.c,.slice E.W.B E.W.D.length E.W.d,.int .i64 E.at_] 28 (0,0))):=zH ((hb3.block _ hws).trans HX0.out)
 have HD2:=zH (HD0.out.below hb3)
 have HE2:=zH (HE0.out.below hb3)
 have HB2:=zH (HB0.out.trans (hb3.mono HB0.out.size))
 have HC4:Hid (∀ w',Below W2.heap.size W2 w' -> w'.cell? ⟨w.heap.size,0,none⟩ = some (.int .i64 E.kind) /\ w'.cell? ⟨w.heap.size,1,none⟩ = some (.string E.val) /\ w'.cell? ⟨w.heap.size,2,none⟩ = some (.bool E.W.neg) /\ w'.cell? ⟨w.heap.size,3,none⟩ = some (.slice E.W.A E.W.N.length E.W.c) /\ w'.cell? ⟨w.heap.size,4,none⟩ = some (.slice E.W.B E.W.D.length E.W.d) /\ w'.cell? ⟨w.heap.size,5,none⟩ = some (.int .i64 E.at_) /\ w'.cell? ⟨a.q,9,none⟩ = some (.int .i64 D.last)):=zH (fun w' hw=>by
  obtain ⟨-,-,-,-,-,-,-,-,-,c9⟩:=(HD2.out.below hw).cells
  have hx:=(hw.block _ (aE HX2.out).1).trans HX2.out
  exact ⟨(cR 0 hx).trans rfl,(cR 1 hx).trans rfl,(cR 2 hx).trans rfl,(cR 3 hx).trans rfl,(cR 4 hx).trans rfl,(cR 5 hx).trans rfl,c9⟩)
 clear HX0 HD0 HE0 HB0 hb2 hb3 hm2
 rw [HG.out] at hlk
 simp only [Option.map_some,Option.getD_some,fnV] at hlk
 go_simp
 refine hK.out _ _ hd (fun hd=>?_)
 clear hK K
 ((refine Jb (v:=?_) rfl (by kernel_rfl) (fun _ _ _ h=>h) ⟨by rfl,?_⟩ hd ?_;rotate_left;· intro w' sw;go_simp;try with_reducible rfl);simp only [zA,zB,zC])
 refine wpAnyH_done (by kernel_rfl) ?_ _
 clear hlk hd
 have hnl:∀ W,(binOp .eql 37 (.func (.func g) #[] #[]) .nilFunc).run Tryz.prog W = .ok (.bool false) W:=Zea g
 go_upto_region 4 with fail
 go_cut [49] from 13 (fun t49 wx=>t49 = .bool false /\ Below W2.heap.size W2 wx)
 case first=>
  by_cases h4:E.kind = 4
  ·have gk:(E.kind != 4) = false:=by rw [h4];rfl
   clear h4 hkv
   refine Jk (S:=fun w'=>w'.cell? ⟨w.heap.size,0,none⟩ = some (.int .i64 E.kind) /\ w'.cell? ⟨w.heap.size,1,none⟩ = some (.string E.val) /\ w'.cell? ⟨w.heap.size,2,none⟩ = some (.bool E.W.neg) /\ w'.cell? ⟨w.heap.size,3,none⟩ = some (.slice E.W.A E.W.N.length E.W.c) /\ w'.cell? ⟨w.heap.size,4,none⟩ = some (.slice E.W.B E.W.D.length E.W.d) /\ w'.cell? ⟨w.heap.size,5,none⟩ = some (.int .i64 E.at_) /\ w'.cell? ⟨a.q,9,none⟩ = some (.int .i64 D.last)) 37 rfl (by kernel_rfl) (HC4.out W2.drew bR.drew) (fun hd=>?_)
   iterate 5 (((refine Jb (v:=?_) rfl (by kernel_rfl) (fun _ _ _ h=>h) ⟨by rfl,?_⟩ hd ?_;rotate_left;· intro w' sw;obtain ⟨hS1,hS2,hS3,hS4,hS5,hS6,hS7⟩:=sw;go_simp;try with_reducible rfl);simp only [zA,zB,zC]))
   refine JI 5 rfl (by kernel_rfl) (by rfl) (fun K hK=>?_)
   go_simp
   refine (VH E.W q W2.drew (HE2.out.below bR.drew) fE true HPB).mono ?_
   rintro e U ⟨rfl,hb2⟩
   have hb3:=JE hb2
   have hC9:=HC4.out U hb3
   have HB9:=zH hb3
   clear hb2 hb3
   go_simp
   refine hK _ _ hC9 (fun hd=>?_)
   clear hK K
   iterate 31 (first | ((refine Jb (v:=?_) rfl (by kernel_rfl) (fun _ _ _ h=>h) ⟨by rfl,?_⟩ hd ?_;rotate_left;· intro w' sw;obtain ⟨hS1,hS2,hS3,hS4,hS5,hS6,hS7⟩:=sw;go_simp;try with_reducible rfl);simp only [zA,zB,zC]) | (refine Xg rfl (by kernel_rfl) (fun _ _ _ h=>h) (by rfl) hd ?_;simp only [zA,zB,zC]))
   refine wpAnyH_done (by kernel_rfl) ?_ _
   go_wp2_with fail
   go_meet
   exact ⟨rfl,HB9.out⟩
  ·have gk:(E.kind != 4) = true:=by rw [bne_iff_ne];exact h4
   have gv:(ByteArray.toList E.val).isEmpty = true:=Zgg (hkv.resolve_left h4)
   clear h4 hkv
   refine Jk (S:=fun w'=>w'.cell? ⟨w.heap.size,0,none⟩ = some (.int .i64 E.kind) /\ w'.cell? ⟨w.heap.size,1,none⟩ = some (.string E.val) /\ w'.cell? ⟨w.heap.size,2,none⟩ = some (.bool E.W.neg) /\ w'.cell? ⟨w.heap.size,3,none⟩ = some (.slice E.W.A E.W.N.length E.W.c) /\ w'.cell? ⟨w.heap.size,4,none⟩ = some (.slice E.W.B E.W.D.length E.W.d) /\ w'.cell? ⟨w.heap.size,5,none⟩ = some (.int .i64 E.at_) /\ w'.cell? ⟨a.q,9,none⟩ = some (.int .i64 D.last)) 37 rfl (by kernel_rfl) (HC4.out W2.drew bR.drew) (fun hd=>?_)
   iterate 5 (((refine Jb (v:=?_) rfl (by kernel_rfl) (fun _ _ _ h=>h) ⟨by rfl,?_⟩ hd ?_;rotate_left;· intro w' sw;obtain ⟨hS1,hS2,hS3,hS4,hS5,hS6,hS7⟩:=sw;go_simp;try with_reducible rfl);simp only [zA,zB,zC]))
   refine JI 5 rfl (by kernel_rfl) (by rfl) (fun K hK=>?_)
   go_simp
   refine (VH E.W q W2.drew (HE2.out.below bR.drew) fE true HPB).mono ?_
   rintro e U ⟨rfl,hb2⟩
   have hb3:=JE hb2
   have hC9:=HC4.out U hb3
   have HB9:=zH hb3
   clear hb2 hb3
   go_simp
   refine hK _ _ hC9 (fun hd=>?_)
   clear hK K
   iterate 31 (((refine Jb (v:=?_) rfl (by kernel_rfl) (fun _ _ _ h=>h) ⟨by rfl,?_⟩ hd ?_;rotate_left;· intro w' sw;obtain ⟨hS1,hS2,hS3,hS4,hS5,hS6,hS7⟩:=sw;go_simp;try with_reducible rfl);simp only [zA,zB,zC]))
   refine wpAnyH_done (by kernel_rfl) ?_ _
   go_wp2_with fail
   go_meet
   exact ⟨rfl,HB9.out⟩
 case rest=>
  obtain ⟨rfl,hbx⟩:=hcut
  obtain ⟨U,rfl⟩:∃ U,U = wc:=⟨_,rfl⟩
  have HB9:=zH hbx
  clear hbx hkv
  have HD9:=zH (HD2.out.below HB9.out)
  have HXU:Hid (U.heap[w.heap.size]? = some (.cells #[.int .i64 E.kind,.string E.val,.bool E.W.neg,.slice E.W.A E.W.N.length E.W.c,.slice E.W.B E.W.D.length E.W.d,.int .i64 E.at_] 28 (0,0))):=zH ((HB9.out.block _ (aE HX2.out).1).trans HX2.out)
  have HBU:=zH (HB2.out.trans (HB9.out.mono HB2.out.size))
  have HEU:=zH (HE2.out.below HB9.out)
  obtain ⟨-,-,k2,-,-,k5,-,k7,k8,-⟩:=HD9.out.cells
  rw [h0] at k5
  have fz:U.frozen? ⟨a.q,7,none⟩ = false:=Jl HD9.out.cell 7
  have e5:=(cR 5 HXU.out).trans rfl
  clear HX2 HD2 HE2 HB2 HC4 HB9 hnl
  go_upto_region 8 with fail
  go_quiet (fail)
  go_upto_if 67 with fail
  go_cut [] from 67 (fun wx=>DlM wx bs a (Jq D E.at_) /\ Chg w wx a a /\ Fv wx E.W q /\ wx.heap[w.heap.size]? = some (.cells #[.int .i64 E.kind,.string E.val,.bool E.W.neg,.slice E.W.A E.W.N.length E.W.c,.slice E.W.B E.W.D.length E.W.d,.int .i64 E.at_] 28 (0,0)))
  case first=>
   have hdd:=HD9.out.below ((Below.refl _ U).drw nq)
   by_cases y1:E.at_ < D.prompt + D.prm
   ·have gy:decide (E.at_ < D.prompt + D.prm) = true:=decide_eq_true y1
    have hc5:Hid (Jq D E.at_ = { D with cuts:=D.cuts + 1 }):=zH (if_pos y1)
    go_wp2_with fail
    go_meet
    obtain ⟨hd5,hch⟩:=hdd.hdr 7 (.int .i64 (D.cuts + 1)) (Jq D E.at_) (by rw [hc5.out];rfl) (by rw [hc5.out]) (by rw [hc5.out])
    exact ⟨hd5,(Chg.of_below (a:=a) (HBU.out.drw nq)).trans hch,(HEU.out.below ((Below.refl _ U).drw nq)).ku (KU.set hdd.cells.2.2.2.2.2.2.2.1 (by intro n e;cases e) _),(RowKit.Below.heap_setCell (U.drewN nq) _ _ _ (fun e=>Zd9 HXU.out HD9.out.cell e)).trans HXU.out⟩
   ·have gy:decide (E.at_ < D.prompt + D.prm) = false:=dF y1
    have hc5:Hid (Jq D E.at_ = D):=zH (if_neg y1)
    go_wp2_with fail
    go_meet
    exact ⟨by rw [hc5.out];exact hdd,Chg.of_below (HBU.out.drw nq),HEU.out.below ((Below.refl _ U).drw nq),HXU.out⟩
  case rest=>
   clear k2 k5 k7 k8 fz e5 HD9 HBU HEU HXU
   obtain ⟨hd5,hch,he5,hx5⟩:=hcut
   obtain ⟨W5,rfl⟩:∃ W5,W5 = wc:=⟨_,rfl⟩
   have HD5:=zH hd5
   have HCH:=zH hch
   have HE5:=zH he5
   have HX5:=zH hx5
   clear hd5 hch he5 hx5
   have e0:=(cR 0 HX5.out).trans rfl
   have e1:=(cR 1 HX5.out).trans rfl
   have e2:=(cR 2 HX5.out).trans rfl
   have e3:=(cR 3 HX5.out).trans rfl
   have e4:=(cR 4 HX5.out).trans rfl
   have e5:=(cR 5 HX5.out).trans rfl
   go_wp2_with fail
   refine (heff.out W5 HD5.out HE5.out).mono ?_
   rintro e W6 ⟨a6,rfl,hd6,hc6⟩
   obtain ⟨eq6,eg6⟩:=hc6.same
   have hfo:=HD5.out.foreign HX5.out
   have hx6:=(hc6.block w.heap.size (aE HX5.out).1 hfo.1 hfo.2.1 hfo.2.2).trans HX5.out
   have HX6:Hid (W6.heap[w.heap.size]? = some (.cells #[.int .i64 E.kind,.string E.val,.bool E.W.neg,.slice E.W.A E.W.N.length E.W.c,.slice E.W.B E.W.D.length E.W.d,.int .i64 E.at_] 28 (0,0))):=zH hx6
   have HD6:=zH hd6
   have HC6:=zH (HCH.out.trans hc6)
   have HQ6:=zH eq6
   obtain ⟨-,k1,-,-,-,k5,k6,-,-,-⟩:=hd6.cells
   rw [eq6] at k1 k5 k6
   have fz:W6.frozen? ⟨a.q,6,none⟩ = false:=by rw [<- eq6];exact Jl hd6.cell 6
   clear e0 e1 e2 e3 e4 e5 hfo hx6 hd6 hc6 eq6 eg6 HX5 HD5 HE5 HCH
   go_upto_if 78 with fail
   go_cut [] from 79 (fun wx=>DlM wx bs a6 (Xj D2 r) /\ Chg w wx a a6 /\ wx.heap[w.heap.size]? = some (.cells #[.int .i64 E.kind,.string E.val,.bool E.W.neg,.slice E.W.A E.W.N.length E.W.c,.slice E.W.B E.W.D.length E.W.d,.int .i64 E.at_] 28 (0,0)))
   case first=>
    have hq6:=HD6.out.cell
    rw [HQ6.out] at hq6
    have hxe:∀ (k:Nat) (v:Value),(W6.setCell ⟨a.q,k,none⟩ v).heap[w.heap.size]? = some (.cells #[.int .i64 E.kind,.string E.val,.bool E.W.neg,.slice E.W.A E.W.N.length E.W.c,.slice E.W.B E.W.D.length E.W.d,.int .i64 E.at_] 28 (0,0)):=fun k v=>(RowKit.Below.heap_setCell W6 _ _ _ (fun e=>Zd9 HX6.out hq6 e)).trans HX6.out
    have HXE:=zH hxe
    clear hq6 hxe
    cases r with
    | true=>
     go_wp2_with fail
     go_meet
     obtain ⟨hd7,hc7⟩:=HD6.out.hdr 6 (.int .i64 0) (Xj D2 true) rfl rfl rfl
     rw [HQ6.out] at hd7 hc7
     exact ⟨hd7,HC6.out.trans hc7,HXE.out _ _⟩
    | false=>
     go_upto_region 13 with fail
     obtain ⟨hd7,hc7⟩:=HD6.out.hdr 6 (.int .i64 (D2.bad + 1)) { D2 with bad:=D2.bad + 1 } rfl rfl rfl
     rw [HQ6.out] at hd7 hc7
     have HD7:=zH hd7
     have HC7:=zH (HC6.out.trans hc7)
     have HX7:=zH (HXE.out 6 (.int .i64 (D2.bad + 1)))
     clear hd7 hc7 k1 k5 k6 fz HXE HD6 HC6 HX6
     generalize W6.setCell ⟨a.q,6,none⟩ (.int .i64 (D2.bad + 1)) = W7 at *
     obtain ⟨-,k1,-,-,-,k5,k6,-,-,-⟩:=HD7.out.cells
     rw [HQ6.out] at k1 k5 k6
     have k6':W7.cell? ⟨a.q,6,none⟩ = some (.int .i64 (D2.bad + 1)):=k6
     have k1':W7.cell? ⟨a.q,1,none⟩ = some (.int .i64 D2.pat):=k1
     have k5':W7.cell? ⟨a.q,5,none⟩ = some (.int .i64 D2.stand):=k5
     have fz:W7.frozen? ⟨a.q,5,none⟩ = false:=by rw [<- HQ6.out];exact Jl HD7.out.cell 5
     clear k1 k5 k6
     go_quiet (fail)
     have hdd:=HD7.out.below ((Below.refl _ W7).drw nq)
     have hcc:=HC7.out.trans (Chg.of_below ((Below.refl _ W7).drw nq))
     have HDD:=zH hdd
     have HCC:=zH hcc
     clear hdd hcc
     by_cases y2:D2.pat < D2.bad + 1
     ·have gy2:decide (D2.pat < D2.bad + 1) = true:=decide_eq_true y2
      have hc5:Hid (Xj D2 false = { D2 with bad:=D2.bad + 1,stand:=2 }):=zH (by unfold Xj;rw [if_neg (by decide),if_pos y2])
      go_wp2_with fail
      go_meet
      obtain ⟨hd5,hch⟩:=HDD.out.hdr 5 (.int .i64 2) (Xj D2 false) (by rw [hc5.out];rfl) (by rw [hc5.out]) (by rw [hc5.out])
      rw [HQ6.out] at hd5 hch
      exact ⟨hd5,HCC.out.trans hch,(RowKit.Below.heap_setCell (W7.drewN nq) _ _ _ (fun e=>by have:=HD7.out.cell;rw [HQ6.out] at this;exact Zd9 HX7.out this e)).trans HX7.out⟩
     ·have gy2:decide (D2.pat < D2.bad + 1) = false:=dF y2
      have hc5:Hid (Xj D2 false = { D2 with bad:=D2.bad + 1 }):=zH (by unfold Xj;rw [if_neg (by decide),if_neg y2])
      go_wp2_with fail
      go_meet
      exact ⟨by rw [hc5.out];exact HDD.out,HCC.out,HX7.out⟩
   case rest=>
    clear k1 k5 k6 fz HD6 HC6 HX6
    obtain ⟨hd8,hc8,hx8⟩:=hcut
    obtain ⟨W8,rfl⟩:∃ W8,W8 = wc:=⟨_,rfl⟩
    have HD8:=zH hd8
    have HC8:=zH hc8
    have HX8:=zH hx8
    clear hd8 hc8 hx8
    go_upto_region 15 with fail
    obtain ⟨-,-,-,-,-,-,-,-,k8,k9⟩:=HD8.out.cells
    rw [HQ6.out] at k8 k9
    have k8':W8.cell? ⟨a.q,8,none⟩ = some (.int .i64 (Xj D2 r).prompt):=k8
    have k9':W8.cell? ⟨a.q,9,none⟩ = some (.int .i64 (Xj D2 r).last):=k9
    have f8:W8.frozen? ⟨a.q,8,none⟩ = false:=by rw [<- HQ6.out];exact Jl HD8.out.cell 8
    have f9:W8.frozen? ⟨a.q,9,none⟩ = false:=by rw [<- HQ6.out];exact Jl HD8.out.cell 9
    clear k8 k9
    have hqe:w.heap.size ≠ a.q:=by have:=HD8.out.cell;rw [HQ6.out] at this;exact Zd9 HX8.out this
    have HX9:Hid ((W8.setCell ⟨a.q,8,none⟩ (.int .i64 E.at_)).heap[w.heap.size]? = some (.cells #[.int .i64 E.kind,.string E.val,.bool E.W.neg,.slice E.W.A E.W.N.length E.W.c,.slice E.W.B E.W.D.length E.W.d,.int .i64 E.at_] 28 (0,0))):=zH ((RowKit.Below.heap_setCell W8 _ _ _ hqe).trans HX8.out)
    have HX10:Hid (((W8.setCell ⟨a.q,8,none⟩ (.int .i64 E.at_)).setCell ⟨a.q,9,none⟩ (.int .i64 E.at_)).heap[w.heap.size]? = some (.cells #[.int .i64 E.kind,.string E.val,.bool E.W.neg,.slice E.W.A E.W.N.length E.W.c,.slice E.W.B E.W.D.length E.W.d,.int .i64 E.at_] 28 (0,0))):=zH ((RowKit.Below.heap_setCell _ _ _ _ hqe).trans HX9.out)
    clear hqe
    refine Jk (S:=fun w'=>w'.cell? ⟨w.heap.size,5,none⟩ = some (.int .i64 E.at_)) 12 rfl (by kernel_rfl) ((cR 5 HX8.out).trans rfl) (fun hd=>?_)
    iterate 8 (((refine Jb (v:=?_) rfl (by kernel_rfl) (fun _ _ _ h=>h) ⟨by rfl,?_⟩ hd ?_;rotate_left;· intro w' sw;go_simp;try with_reducible rfl);simp only [zA,zB,zC]))
    refine Je 8 rfl (by kernel_rfl) rfl (fun K hK=>?_)
    go_simp
    refine hK.out _ _ ((cR 5 HX9.out).trans rfl) (fun hd=>?_)
    clear hK K
    iterate 2 (((refine Jb (v:=?_) rfl (by kernel_rfl) (fun _ _ _ h=>h) ⟨by rfl,?_⟩ hd ?_;rotate_left;· intro w' sw;go_simp;try with_reducible rfl);simp only [zA,zB,zC]))
    refine Je 11 rfl (by kernel_rfl) rfl (fun K hK=>?_)
    go_simp
    refine hK.out _ _ ((cR 5 HX10.out).trans rfl) (fun hd=>?_)
    clear hK K
    refine wpAnyH_done (by kernel_rfl) ?_ _
    clear hd k8' k9' f8 f9 HX9 HX10 HX8
    obtain ⟨hd9,hc9⟩:=HD8.out.hdr 8 (.int .i64 E.at_) { Xj D2 r with prompt:=E.at_ } rfl rfl rfl
    obtain ⟨hd10,hc10⟩:=hd9.hdr 9 (.int .i64 E.at_) { Xj D2 r with prompt:=E.at_,last:=E.at_ } rfl rfl rfl
    have hc11:=(HC8.out.trans hc9).trans hc10
    rw [HQ6.out] at hd10 hc11
    have HD10:=zH hd10
    have HC10:=zH hc11
    clear hd9 hc9 hd10 hc10 hc11 HD8 HC8
    generalize (W8.setCell ⟨a.q,8,none⟩ (.int .i64 E.at_)).setCell ⟨a.q,9,none⟩ (.int .i64 E.at_) = W9 at *
    have hF9:(Xj D2 r).F = D2.F:=ZgB D2 r
    have hn9:a6.Fm.length <= 1000000:=by
     have:=congrArg List.length HD10.out.pure
     rw [List.length_map] at this
     rw [this]
     show (Xj D2 r).F.length <= 1000000
     rw [hF9]
     exact hn
    have HE10:=zH (HD10.out.below (Below.refl _ W9).drew)
    have HAS:=zH (Uu bs a6 _ W9.drew HE10.out hn9 (Qo D2.F) (zH (congrArg Qo hF9)))
    rw [HQ6.out] at HAS
    clear hn9
    go_wp2_with fail
    refine HAS.out.mono ?_
    rintro e W10 ⟨rfl,hb10⟩
    have HD11:=zH (HE10.out.below hb10)
    have HC11:=zH ((HC10.out.trans (Chg.of_below (Below.refl _ W9).drew)).trans (Chg.of_below hb10))
    clear hb10 HD10 HC10 HAS HE10
    obtain ⟨-,-,-,-,-,k5,-,-,-,-⟩:=HD11.out.cells
    rw [HQ6.out] at k5
    have f5:W10.frozen? ⟨a.q,5,none⟩ = false:=by rw [<- HQ6.out];exact Jl HD11.out.cell 5
    by_cases y3:Qo D2.F < 0
    ·have gy3:decide (Qo D2.F < 0) = true:=decide_eq_true y3
     have Y3:=zH y3
     clear y3
     go_wp2_with fail
     go_ret
     obtain ⟨h1,h2⟩:=HD11.out.hdr 5 (.int .i64 1) { Xj D2 r with prompt:=E.at_,last:=E.at_,stand:=1 } rfl rfl rfl
     rw [HQ6.out] at h1 h2
     refine ⟨a6,rfl,?_,HC11.out.trans h2⟩
     unfold ZdR
     rw [if_pos (show Qo (Xj D2 r).F < 0 by rw [hF9];exact Y3.out)]
     exact h1
    ·have gy3:decide (Qo D2.F < 0) = false:=dF y3
     have Y3:=zH y3
     clear y3
     go_wp2_with fail
     go_ret
     refine ⟨a6,rfl,?_,HC11.out⟩
     unfold ZdR
     rw [if_neg (show ¬ Qo (Xj D2 r).F < 0 by rw [hF9];have:=Y3.out;omega)]
     exact HD11.out
end Go.Proofs.YtfbdihpllmhcnaaGreatDoor
namespace Go.Proofs.YtfbdihpllmhcnaaGreatDoor
open Go.RowKit Ear

theorem ZfJ (bs:Nat) (a:DlA) (D:PDl) (w:World) (h:DlM w bs a D) (h0:D.stand ≠ 0):Calls Tryz.prog 24 #[.pointer (some ⟨a.q,0,none⟩)] w fun e w'=>e = .returned (.tuple #[.agg #[.int .i64 0,.bool false,.string ⟨#[]⟩,.int .i64 0],.int .i64 7]) /\ Below w.heap.size w w':=by
 obtain ⟨W0,hW0⟩:∃ W0:World,W0 = w.alloc (.cells #[.int .i64 0,.bool false,.string ⟨#[]⟩,.int .i64 0] 97):=⟨_,rfl⟩
 have HB0:Hid (Below w.heap.size w W0):=zH (by rw [hW0];exact bR.alloc nR _)
 have HX0:Hid (W0.heap[w.heap.size]? = some (.cells #[.int .i64 0,.bool false,.string ⟨#[]⟩,.int .i64 0] 97 (0,0))):=zH (by rw [hW0];exact heap_alloc_new w _)
 have HD:=zH (h.below HB0.out)
 obtain ⟨-,-,-,-,-,c5,-,-,-,-⟩:=HD.out.cells
 have d0:=(cR 0 HX0.out).trans rfl
 have d1:=(cR 1 HX0.out).trans rfl
 have d2:=(cR 2 HX0.out).trans rfl
 have d3:=(cR 3 HX0.out).trans rfl
 have f0:=Jl HX0.out 0
 have f1:=Jl HX0.out 1
 have f2:=Jl HX0.out 2
 have f3:=Jl HX0.out 3
 have hs:(D.stand != 0) = true:=by simp [h0]
 clear h
 go_enter Tryz.func24,Tryz.ntmps24
 go_wp2_with fail
 rw [<- hW0]
 clear hW0
 refine (Y1 bs a D W0 HD.out).mono ?_
 rintro e w' ⟨rfl,hw⟩
 subst hw
 go_wp2_with fail
 have hr4:((((w'.setCell ⟨w.heap.size,0,none⟩ (.int .i64 0)).setCell ⟨w.heap.size,1,none⟩ (.bool false)).setCell ⟨w.heap.size,2,none⟩ (.string ⟨#[]⟩)).setCell ⟨w.heap.size,3,none⟩ (.int .i64 0)).heap[w.heap.size]? = some (.cells #[.int .i64 0,.bool false,.string ⟨#[]⟩,.int .i64 0] 97 (0,0)):=(Jx (Jx (Jx (Jx HX0.out 0 _) 1 _) 2 _) 3 _).trans rfl
 have g0:=(cR 0 hr4).trans rfl
 have g1:=(cR 1 hr4).trans rfl
 have g2:=(cR 2 hr4).trans rfl
 have g3:=(cR 3 hr4).trans rfl
 refine bodyPost_ret (v:=.tuple #[.agg #[.int .i64 0,.bool false,.string ⟨#[]⟩,.int .i64 0],.int .i64 7]) (by simp [results,Tryz.results24,go_sem,g0,g1,g2,g3]) rfl ?_
 exact ⟨rfl,(((HB0.out.setCell nR _).setCell nR _).setCell nR _).setCell nR _⟩
theorem Zh1 (bs:Nat) (a:DlA) (D:PDl) (w:World) (h:DlM w bs a D) (h0:D.stand = 0) (k:Nat) (f:PFl) (hk:D.F[k]? = some f) (ha:Qo D.F = k) (hn:a.Fm.length <= 1000000):Calls Tryz.prog 24 #[.pointer (some ⟨a.q,0,none⟩)] w fun e w'=>e = .returned (.tuple #[.agg #[.int .i64 k,.bool (decide (f.st = 2)),.string f.val,.int .i64 D.prompt],.int .i64 0]) /\ Below w.heap.size w w':=by
 obtain ⟨W0,hW0⟩:∃ W0:World,W0 = w.alloc (.cells #[.int .i64 0,.bool false,.string ⟨#[]⟩,.int .i64 0] 97):=⟨_,rfl⟩
 have HB0:Hid (Below w.heap.size w W0):=zH (by rw [hW0];exact bR.alloc nR _)
 have HX0:Hid (W0.heap[w.heap.size]? = some (.cells #[.int .i64 0,.bool false,.string ⟨#[]⟩,.int .i64 0] 97 (0,0))):=zH (by rw [hW0];exact heap_alloc_new w _)
 have HD:=zH (h.below HB0.out)
 obtain ⟨-,-,-,-,-,c5,-,-,-,-⟩:=HD.out.cells
 have hws:w.heap.size < W0.heap.size:=(aE HX0.out).1
 rw [h0] at c5
 have HA:=zH ha
 clear h ha
 go_enter Tryz.func24,Tryz.ntmps24
 go_wp2_with fail
 rw [<- hW0]
 clear hW0
 refine (Y1 bs a D W0 HD.out).mono ?_
 rintro e w' ⟨rfl,hw⟩
 subst hw
 go_wp2_with fail
 refine (Uu bs a D w' HD.out hn k HA).mono ?_
 rintro e w1 ⟨rfl,hb1⟩
 have HD1:=zH (HD.out.below hb1)
 have HX1:Hid (w1.heap[w.heap.size]? = some (.cells #[.int .i64 0,.bool false,.string ⟨#[]⟩,.int .i64 0] 97 (0,0))):=zH ((hb1.block _ hws).trans HX0.out)
 have HB1:=zH (HB0.out.trans (hb1.mono HB0.out.size))
 clear hb1 c5
 obtain ⟨-,-,-,-,c4,-,-,-,c8,-⟩:=HD1.out.cells
 obtain ⟨hkF,efm⟩:=List.getElem?_eq_some_iff.1 (show (a.Fm.map FlM.pure)[k]? = some f by rw [HD.out.pure];exact hk)
 have hkl:k < a.Fm.length:=by simpa using hkF
 obtain ⟨k0,k1,k2,-,-,-⟩:=Z3 HD1.out.row rfl hkl
 have e1:a.Fm[k].st = f.st:=by rw [<- efm];simp [FlM.pure]
 have e2:a.Fm[k].val = f.val:=by rw [<- efm];simp [FlM.pure]
 rw [e1] at k0
 rw [e2] at k1
 have hki:(k:Int) < (a.Fm.length:Int):=by omega
 clear efm e1 e2 k2 hkF
 have d0:=(cR 0 HX1.out).trans rfl
 have d1:=(cR 1 HX1.out).trans rfl
 have d2:=(cR 2 HX1.out).trans rfl
 have d3:=(cR 3 HX1.out).trans rfl
 have f0:=Jl HX1.out 0
 have f1:=Jl HX1.out 1
 have f2:=Jl HX1.out 2
 have f3:=Jl HX1.out 3
 go_wp2_with fail
 go_still_tail 23,(by kernel_rfl)
 go_wp2_with fail
 have hr4:((((w1.setCell ⟨w.heap.size,0,none⟩ (.int .i64 k)).setCell ⟨w.heap.size,1,none⟩ (.bool (f.st == 2))).setCell ⟨w.heap.size,2,none⟩ (.string f.val)).setCell ⟨w.heap.size,3,none⟩ (.int .i64 D.prompt)).drew.heap[w.heap.size]? = some (.cells #[.int .i64 k,.bool (f.st == 2),.string f.val,.int .i64 D.prompt] 97 (0,0)):=(Jx (Jx (Jx (Jx HX1.out 0 _) 1 _) 2 _) 3 _).trans rfl
 have g0:=(cR 0 hr4).trans rfl
 have g1:=(cR 1 hr4).trans rfl
 have g2:=(cR 2 hr4).trans rfl
 have g3:=(cR 3 hr4).trans rfl
 refine bodyPost_ret (v:=.tuple #[.agg #[.int .i64 k,.bool (f.st == 2),.string f.val,.int .i64 D.prompt],.int .i64 0]) (by simp [results,Tryz.results24,go_sem,g0,g1,g2,g3]) rfl ?_
 have e:(f.st == 2) = decide (f.st = 2):=by
  by_cases h2:f.st = 2
  ·rw [decide_eq_true h2,h2];rfl
  ·rw [dF h2];simp [h2]
 exact ⟨by rw [e],((((HB1.out.setCell nR _).setCell nR _).setCell nR _).setCell nR _).drew⟩
end Go.Proofs.YtfbdihpllmhcnaaGreatDoor
