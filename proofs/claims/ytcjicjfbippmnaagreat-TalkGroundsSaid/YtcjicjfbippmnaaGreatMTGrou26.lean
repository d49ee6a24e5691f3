/- TalkGrounds -/
import Derived.Test.YtcjicjfbippmnaaGreatMTGrou25
set_option maxRecDepth 100000
set_option maxHeartbeats 32000000
namespace Go.Proofs.YtcjicjfbippmnaaGreat
open Go.RowKit Ear

theorem ZdP (w:World) (b j:Nat) (v:Value):w.grownBy (w.setCell ⟨b,j,none⟩ v) (some b):=
 ⟨rfl,rfl,rfl,by simp [World.setCell],fun k _ hne=>RowKit.Below.heap_setCell w _ _ k (fun e=>hne (by rw [e]))⟩
theorem DlM.hdr {w:World} {bs:Nat} {a:DlA} {D:PDl} (h:DlM w bs a D) (j:Nat) (v:Value) (D2:PDl) (hdl:(dlc a D).setIfInBounds j v = dlc a D2) (hF:D2.F = D.F) (hS:D2.S = D.S):DlM (w.setCell ⟨a.q,j,none⟩ v) bs a D2 /\ Chg w (w.setCell ⟨a.q,j,none⟩ v) a a:=by
 have hg:=ZdP w a.q j v
 have hbq:BT w a.q 133:=⟨_,_,h.cell⟩
 refine ⟨⟨?_,fun w' hs hk=>?_,?_,fun f hf=>?_,h.apart,?_,h.len,h.pos,h.lt.1,h.lt.2.1,tR h.lt.2.2 hg.size⟩,?_⟩
 ·have:=JN h.cell j v
  rw [hdl] at this
  exact this
 ·rw [hS]
  exact h.stab w' (tR hg.size hs) (fun b h1 h2 h3=>(hk b h1 h2 h3).trans (hg.block b (Nat.lt_of_lt_of_le h1 h.lt.2.2) (fun e=>by injection e with e;exact h2 e)))
 ·exact Jq h.row hg (fun b hb e=>by injection e with e;subst e;exact (BT.of_own h.row hb).ne hbq (by decide) rfl)
 ·exact Jq (h.ref f hf) hg (fun b hb e=>by injection e with e;subst e;exact (BT.of_own (h.ref f hf) hb).ne hbq (by decide) rfl)
 ·rw [hF]
  exact h.pure
 ·exact ⟨hg.os,hg.tape,hg.output,hg.size,fun b h1 h2 _ _=>hg.block b h1 (fun e=>by injection e with e;exact h2 e),fun f hf _ hb=>.inl ⟨f,hf,hb⟩,rfl,rfl⟩
def ZaA:List (Int × FuncId):=[(1,138),(2,139),(3,140),(4,141)]
abbrev fnV (g:FuncId):Value:=.func (.func g) #[] #[]
abbrev EffM (w:World) (b:Nat) (m:List (Int × FuncId)):Prop:=MapIs Tryz.prog 59 (Value.int .i64) fnV w b m
theorem Zcx:Maps.Keyed Tryz.prog 59:=Maps.int_keyed Tryz.underlying59
theorem ZeF:Inj (Value.int .i64):=fun a b h=>by injection h
theorem Zgw {k:Int} (h:(Lit.int .i64 k).wf = true):∃ l,keyOf Tryz.prog 59 (.int .i64 k) = some l:=⟨_,Maps.keyOf_int_mk Tryz.underlying59 h⟩
theorem EffM.look {w:World} {b:Nat} {m:List (Int × FuncId)} (h:EffM w b m) (k:Int) (hk:(Lit.int .i64 k).wf = true):(Instr.lookup 144 (.map (some b)) (.int .i64 k) false).run Tryz.prog w = .ok (((JX m k).map fnV).getD .nilFunc) w:=by
 obtain ⟨kl,hkl⟩:=Zgw hk
 exact MapIs.lookup (e:=143) (z:=.nilFunc) h Zcx ZeF Tryz.underlying144 (by kernel_rfl) k hkl
theorem EffM.put {w:World} {b:Nat} {m:List (Int × FuncId)} (h:EffM w b m) (k:Int) (g:FuncId) (hk:(Lit.int .i64 k).wf = true):∃ w',(Instr.mapUpdate 144 (.map (some b)) (.int .i64 k) (fnV g)).run Tryz.prog w = .ok () w' /\ EffM w' b (YU m k g) /\ w.grownBy w' (some b):=by
 obtain ⟨kl,hkl⟩:=Zgw hk
 exact MapIs.update (e:=143) h Zcx ZeF Tryz.underlying144 k g hkl
theorem ZW (w:World):Calls Tryz.prog 84 #[] w fun e w'=>∃ b,e = .returned (.map (some b)) /\ EffM w' b ZaA /\ Below w.heap.size w w':=by
 obtain ⟨V,hV⟩:∃ V:World,V = w.alloc (.map #[] 0):=⟨_,rfl⟩
 have hm:EffM V w.heap.size []:=by rw [hV];exact MapIs.made Tryz.prog 59 (Value.int .i64) fnV w
 have hb:Below w.heap.size w V:=by rw [hV];exact bR.alloc nR _
 obtain ⟨V1,u1,m1,g1⟩:=EffM.put hm 1 138 (by decide)
 obtain ⟨V2,u2,m2,g2⟩:=EffM.put m1 2 139 (by decide)
 obtain ⟨V3,u3,m3,g3⟩:=EffM.put m2 3 140 (by decide)
 obtain ⟨V4,u4,m4,g4⟩:=EffM.put m3 4 141 (by decide)
 have hsz:w.heap.size <= V.heap.size:=hb.size
 have HM:Hid (EffM V4 w.heap.size ZaA):=zH m4
 have HB:Hid (Below w.heap.size w V4):=zH ((((hb.grown g1 hsz (fun k hk=>by injection hk with hk;omega)).grown g2 (tR hsz g1.size) (fun k hk=>by injection hk with hk;omega)).grown g3 (tR (tR hsz g1.size) g2.size) (fun k hk=>by injection hk with hk;omega)).grown g4 (tR (tR (tR hsz g1.size) g2.size) g3.size) (fun k hk=>by injection hk with hk;omega))
 have hmk:∀ W:World,(Instr.makeMap 144 none).run Tryz.prog W = .ok (.map (some W.heap.size)) (W.alloc (.map #[] 0)):=fun W=>rfl
 rw [hV] at u1
 clear hm hb m1 m2 m3 m4 g1 g2 g3 g4 hsz hV
 go_enter Tryz.func84,Tryz.ntmps84
 go_wp2_with fail
 go_ret
 exact ⟨_,rfl,HM.out,HB.out⟩
theorem ZeH:∀ W,(binOp .eql 143 .nilFunc .nilFunc).run Tryz.prog W = .ok (.bool true) W:=fun W=>by kernel_rfl
theorem U1 (g:FuncId):∀ W,(binOp .eql 143 (.func (.func g) #[] #[]) .nilFunc).run Tryz.prog W = .ok (.bool false) W:=fun W=>by kernel_rfl
theorem Zaa {v:BA} (h:v = ⟨#[]⟩):(ByteArray.toList v).isEmpty = true:=by rw [h,ByteArray.toList_eq];rfl
theorem Zfh {v:BA} (h:¬ v = ⟨#[]⟩):(ByteArray.toList v).isEmpty = false:=by
 rw [ByteArray.toList_eq,Bool.eq_false_iff]
 intro e
 apply h
 cases v with
 | mk d=>
  have e2:=List.isEmpty_iff.1 e
  simp only at e2
  rw [Array.toList_eq_nil_iff] at e2
  rw [e2]
def Qp:Int:=1099511627776
def Zik (D:PDl) (E:EvM) (q:Rat):Prop:=JX ZaA E.kind = none ∨ Xz q = false ∨ (E.kind ≠ 4 /\ E.val ≠ ⟨#[]⟩) ∨ E.at_ < 0 ∨ Qp < E.at_ ∨ E.at_ < D.last
theorem Zgj (bs:Nat) (a:DlA) (D:PDl) (E:EvM) (q:Rat) (w:World) (h:DlM w bs a D) (hE:Fv w E.W q) (fE:Few E.W 90000) (hkw:(Lit.int .i64 E.kind).wf = true) (hbad:Zik D E q) :
  Calls Tryz.prog 33 #[.pointer (some ⟨a.q,0,none⟩),E.v] w fun e w'=>e = .returned (.int .i64 2) /\ Below w.heap.size w w':=by
 obtain ⟨W0,hW0⟩:∃ W0:World,W0 = w.alloc (.cells #[.int .i64 E.kind,.string E.val,.bool E.W.neg,.slice E.W.A E.W.N.length E.W.c,.slice E.W.B E.W.D.length E.W.d,.int .i64 E.at_] 61):=⟨_,rfl⟩
 have HB0:Hid (Below w.heap.size w W0):=zH (by rw [hW0];exact bR.alloc nR _)
 have HX0:Hid (W0.heap[w.heap.size]? = some (.cells #[.int .i64 E.kind,.string E.val,.bool E.W.neg,.slice E.W.A E.W.N.length E.W.c,.slice E.W.B E.W.D.length E.W.d,.int .i64 E.at_] 61 (0,0))):=zH (by rw [hW0];exact heap_alloc_new w _)
 have HD0:=zH (h.below HB0.out)
 have HE0:=zH (hE.below HB0.out)
 have hws:w.heap.size < W0.heap.size:=(aE HX0.out).1
 clear h hE
 unfold EvM.v
 go_enter Tryz.func33,Tryz.ntmps33
 go_wp2_with fail
 rw [<- hW0]
 clear hW0
 refine (Ye bs a D W0 HD0.out).mono ?_
 rintro e w' ⟨rfl,rfl⟩
 go_upto_region 3 with fail
 refine Jd (S:=fun w'=>w'.cell? ⟨w.heap.size,0,none⟩ = some (.int .i64 E.kind)) 5 rfl (by kernel_rfl) ((cR 0 HX0.out).trans rfl) (fun hd=>?_)
 refine JD (i:=1) 10 (v:=?_) rfl rfl (by kernel_rfl) (by kernel_rfl) (by kernel_rfl) (fun _ _ _ h=>h) ⟨by rfl,?_⟩ hd ?_
 rotate_left
 ·intro w' sw;go_simp;try with_reducible rfl
 simp only [zA,zB,zC]
 refine JD (i:=2) 11 (v:=?_) rfl rfl (by kernel_rfl) (by kernel_rfl) (by kernel_rfl) (fun _ _ _ h=>h) ⟨by rfl,?_⟩ hd ?_
 rotate_left
 ·intro w' sw;go_simp;try with_reducible rfl
 simp only [zA,zB,zC]
 refine Je 0 rfl (by kernel_rfl) rfl (fun K hK=>?_)
 go_simp
 refine (ZW w'.drew).mono ?_
 rintro e W2 ⟨b,rfl,hm2,hb2⟩
 have hb3:=Jl hb2
 go_simp
 refine hK.out _ _ ((hb3.cell (p:=⟨w.heap.size,0,none⟩) hws).trans ((cR 0 HX0.out).trans rfl)) (fun hd=>?_)
 clear hK K
 refine Je 3 rfl (by kernel_rfl) rfl (fun K hK=>?_)
 have hlk:=EffM.look hm2 E.kind hkw
 have HX2:Hid (W2.heap[w.heap.size]? = some (.cells #[.int .i64 E.kind,.string E.val,.bool E.W.neg,.slice E.W.A E.W.N.length E.W.c,.slice E.W.B E.W.D.length E.W.d,.int .i64 E.at_] 61 (0,0))):=zH ((hb3.block _ hws).trans HX0.out)
 have HD2:=zH (HD0.out.below hb3)
 have HE2:=zH (HE0.out.below hb3)
 have HB2:=zH (HB0.out.trans (hb3.mono HB0.out.size))
 have HC4:Hid (∀ w',Below W2.heap.size W2 w' -> w'.cell? ⟨w.heap.size,0,none⟩ = some (.int .i64 E.kind) /\ w'.cell? ⟨w.heap.size,1,none⟩ = some (.string E.val) /\ w'.cell? ⟨w.heap.size,2,none⟩ = some (.bool E.W.neg) /\ w'.cell? ⟨w.heap.size,3,none⟩ = some (.slice E.W.A E.W.N.length E.W.c) /\ w'.cell? ⟨w.heap.size,4,none⟩ = some (.slice E.W.B E.W.D.length E.W.d) /\ w'.cell? ⟨w.heap.size,5,none⟩ = some (.int .i64 E.at_) /\ w'.cell? ⟨a.q,9,none⟩ = some (.int .i64 D.last)):=zH (fun w' hw=>by
  obtain ⟨-,-,-,-,-,-,-,-,-,c9⟩:=(HD2.out.below hw).cells
  have hx:=(hw.block _ (aE HX2.out).1).trans HX2.out
  exact ⟨(cR 0 hx).trans rfl,(cR 1 hx).trans rfl,(cR 2 hx).trans rfl,(cR 3 hx).trans rfl,(cR 4 hx).trans rfl,(cR 5 hx).trans rfl,c9⟩)
 clear HX0 HD0 HE0 HB0 hb2 hb3 hm2
 cases hG:JX ZaA E.kind with
 | none=>
  rw [hG] at hlk
  have HG:=zH hG
  clear hG
  simp only [Option.map_none,Option.getD_none] at hlk
  go_simp
  refine hK.out _ _ hd (fun hd=>?_)
  clear hK K
  ((refine Ja (v:=?_) rfl (by kernel_rfl) (fun _ _ _ h=>h) ⟨by rfl,?_⟩ hd ?_;rotate_left;· intro w' sw;go_simp;try with_reducible rfl);simp only [zA,zB,zC])
  refine wpAnyH_done (by kernel_rfl) ?_ _
  clear hlk hd
  have hnl:=ZeH
  go_upto_region 4 with fail
  refine Jd (S:=fun w'=>w'.cell? ⟨w.heap.size,0,none⟩ = some (.int .i64 E.kind) /\ w'.cell? ⟨w.heap.size,1,none⟩ = some (.string E.val) /\ w'.cell? ⟨w.heap.size,2,none⟩ = some (.bool E.W.neg) /\ w'.cell? ⟨w.heap.size,3,none⟩ = some (.slice E.W.A E.W.N.length E.W.c) /\ w'.cell? ⟨w.heap.size,4,none⟩ = some (.slice E.W.B E.W.D.length E.W.d) /\ w'.cell? ⟨w.heap.size,5,none⟩ = some (.int .i64 E.at_) /\ w'.cell? ⟨a.q,9,none⟩ = some (.int .i64 D.last)) 37 rfl (by kernel_rfl) (HC4.out W2.drew bR.drew) (fun hd=>?_)
  iterate 37 (first | ((refine Ja (v:=?_) rfl (by kernel_rfl) (fun _ _ _ h=>h) ⟨by rfl,?_⟩ hd ?_;rotate_left;· intro w' sw;obtain ⟨hS1,hS2,hS3,hS4,hS5,hS6,hS7⟩:=sw;go_simp;try with_reducible rfl);simp only [zA,zB,zC]) | (refine Jy rfl (by kernel_rfl) (fun _ _ _ h=>h) (by rfl) hd ?_;simp only [zA,zB,zC]))
  refine wpAnyH_done (by kernel_rfl) ?_ _
  go_wp2_with fail
  go_ret
  exact ⟨rfl,HB2.out.drew⟩
 | some g=>
  rw [hG] at hlk
  have HG:=zH hG
  clear hG
  simp only [Option.map_some,Option.getD_some,fnV] at hlk
  go_simp
  refine hK.out _ _ hd (fun hd=>?_)
  clear hK K
  ((refine Ja (v:=?_) rfl (by kernel_rfl) (fun _ _ _ h=>h) ⟨by rfl,?_⟩ hd ?_;rotate_left;· intro w' sw;go_simp;try with_reducible rfl);simp only [zA,zB,zC])
  refine wpAnyH_done (by kernel_rfl) ?_ _
  clear hlk hd
  have hnl:∀ W,(binOp .eql 143 (.func (.func g) #[] #[]) .nilFunc).run Tryz.prog W = .ok (.bool false) W:=U1 g
  go_upto_region 4 with fail
  cases hp:Xz q with
  | false=>
   have HPB:=zH hp
   clear hp
   refine Jd (S:=fun w'=>w'.cell? ⟨w.heap.size,0,none⟩ = some (.int .i64 E.kind) /\ w'.cell? ⟨w.heap.size,1,none⟩ = some (.string E.val) /\ w'.cell? ⟨w.heap.size,2,none⟩ = some (.bool E.W.neg) /\ w'.cell? ⟨w.heap.size,3,none⟩ = some (.slice E.W.A E.W.N.length E.W.c) /\ w'.cell? ⟨w.heap.size,4,none⟩ = some (.slice E.W.B E.W.D.length E.W.d) /\ w'.cell? ⟨w.heap.size,5,none⟩ = some (.int .i64 E.at_) /\ w'.cell? ⟨a.q,9,none⟩ = some (.int .i64 D.last)) 37 rfl (by kernel_rfl) (HC4.out W2.drew bR.drew) (fun hd=>?_)
   iterate 5 (((refine Ja (v:=?_) rfl (by kernel_rfl) (fun _ _ _ h=>h) ⟨by rfl,?_⟩ hd ?_;rotate_left;· intro w' sw;obtain ⟨hS1,hS2,hS3,hS4,hS5,hS6,hS7⟩:=sw;go_simp;try with_reducible rfl);simp only [zA,zB,zC]))
   refine Jo 5 rfl (by kernel_rfl) (by rfl) (fun K hK=>?_)
   go_simp
   refine (J2 E.W q W2.drew (HE2.out.below bR.drew) fE false HPB).mono ?_
   rintro e U ⟨rfl,hb2⟩
   have hb3:=Jl hb2
   have hC9:=HC4.out U hb3
   have HB9:=zH hb3
   clear hb2 hb3
   go_simp
   refine hK _ _ hC9 (fun hd=>?_)
   clear hK K
   iterate 31 (first | ((refine Ja (v:=?_) rfl (by kernel_rfl) (fun _ _ _ h=>h) ⟨by rfl,?_⟩ hd ?_;rotate_left;· intro w' sw;obtain ⟨hS1,hS2,hS3,hS4,hS5,hS6,hS7⟩:=sw;go_simp;try with_reducible rfl);simp only [zA,zB,zC]) | (refine Jy rfl (by kernel_rfl) (fun _ _ _ h=>h) (by rfl) hd ?_;simp only [zA,zB,zC]))
   refine wpAnyH_done (by kernel_rfl) ?_ _
   go_wp2_with fail
   go_ret
   exact ⟨rfl,HB2.out.trans (HB9.out.mono HB2.out.size)⟩
  | true=>
   have HPB:=zH hp
   clear hp
   by_cases h4:E.kind = 4
   ·have gk:(E.kind != 4) = false:=by rw [h4];rfl
    have H4:=zH h4
    clear h4
    by_cases x1:E.at_ < 0
    ·have g1:decide (E.at_ < 0) = true:=decide_eq_true x1
     clear x1
     refine Jd (S:=fun w'=>w'.cell? ⟨w.heap.size,0,none⟩ = some (.int .i64 E.kind) /\ w'.cell? ⟨w.heap.size,1,none⟩ = some (.string E.val) /\ w'.cell? ⟨w.heap.size,2,none⟩ = some (.bool E.W.neg) /\ w'.cell? ⟨w.heap.size,3,none⟩ = some (.slice E.W.A E.W.N.length E.W.c) /\ w'.cell? ⟨w.heap.size,4,none⟩ = some (.slice E.W.B E.W.D.length E.W.d) /\ w'.cell? ⟨w.heap.size,5,none⟩ = some (.int .i64 E.at_) /\ w'.cell? ⟨a.q,9,none⟩ = some (.int .i64 D.last)) 37 rfl (by kernel_rfl) (HC4.out W2.drew bR.drew) (fun hd=>?_)
     iterate 5 (((refine Ja (v:=?_) rfl (by kernel_rfl) (fun _ _ _ h=>h) ⟨by rfl,?_⟩ hd ?_;rotate_left;· intro w' sw;obtain ⟨hS1,hS2,hS3,hS4,hS5,hS6,hS7⟩:=sw;go_simp;try with_reducible rfl);simp only [zA,zB,zC]))
     refine Jo 5 rfl (by kernel_rfl) (by rfl) (fun K hK=>?_)
     go_simp
     refine (J2 E.W q W2.drew (HE2.out.below bR.drew) fE true HPB).mono ?_
     rintro e U ⟨rfl,hb2⟩
     have hb3:=Jl hb2
     have hC9:=HC4.out U hb3
     have HB9:=zH hb3
     clear hb2 hb3
     go_simp
     refine hK _ _ hC9 (fun hd=>?_)
     clear hK K
     iterate 31 (first | ((refine Ja (v:=?_) rfl (by kernel_rfl) (fun _ _ _ h=>h) ⟨by rfl,?_⟩ hd ?_;rotate_left;· intro w' sw;obtain ⟨hS1,hS2,hS3,hS4,hS5,hS6,hS7⟩:=sw;go_simp;try with_reducible rfl);simp only [zA,zB,zC]) | (refine Jy rfl (by kernel_rfl) (fun _ _ _ h=>h) (by rfl) hd ?_;simp only [zA,zB,zC]))
     refine wpAnyH_done (by kernel_rfl) ?_ _
     go_wp2_with fail
     go_ret
     exact ⟨rfl,HB2.out.trans (HB9.out.mono HB2.out.size)⟩
    ·have g1:decide (E.at_ < 0) = false:=dF x1
     have X1:=zH x1
     clear x1
     by_cases x2 : 1099511627776 < E.at_
     ·have g2:decide (1099511627776 < E.at_) = true:=decide_eq_true x2
      clear x2
      refine Jd (S:=fun w'=>w'.cell? ⟨w.heap.size,0,none⟩ = some (.int .i64 E.kind) /\ w'.cell? ⟨w.heap.size,1,none⟩ = some (.string E.val) /\ w'.cell? ⟨w.heap.size,2,none⟩ = some (.bool E.W.neg) /\ w'.cell? ⟨w.heap.size,3,none⟩ = some (.slice E.W.A E.W.N.length E.W.c) /\ w'.cell? ⟨w.heap.size,4,none⟩ = some (.slice E.W.B E.W.D.length E.W.d) /\ w'.cell? ⟨w.heap.size,5,none⟩ = some (.int .i64 E.at_) /\ w'.cell? ⟨a.q,9,none⟩ = some (.int .i64 D.last)) 37 rfl (by kernel_rfl) (HC4.out W2.drew bR.drew) (fun hd=>?_)
      iterate 5 (((refine Ja (v:=?_) rfl (by kernel_rfl) (fun _ _ _ h=>h) ⟨by rfl,?_⟩ hd ?_;rotate_left;· intro w' sw;obtain ⟨hS1,hS2,hS3,hS4,hS5,hS6,hS7⟩:=sw;go_simp;try with_reducible rfl);simp only [zA,zB,zC]))
      refine Jo 5 rfl (by kernel_rfl) (by rfl) (fun K hK=>?_)
      go_simp
      refine (J2 E.W q W2.drew (HE2.out.below bR.drew) fE true HPB).mono ?_
      rintro e U ⟨rfl,hb2⟩
      have hb3:=Jl hb2
      have hC9:=HC4.out U hb3
      have HB9:=zH hb3
      clear hb2 hb3
      go_simp
      refine hK _ _ hC9 (fun hd=>?_)
      clear hK K
      iterate 31 (first | ((refine Ja (v:=?_) rfl (by kernel_rfl) (fun _ _ _ h=>h) ⟨by rfl,?_⟩ hd ?_;rotate_left;· intro w' sw;obtain ⟨hS1,hS2,hS3,hS4,hS5,hS6,hS7⟩:=sw;go_simp;try with_reducible rfl);simp only [zA,zB,zC]) | (refine Jy rfl (by kernel_rfl) (fun _ _ _ h=>h) (by rfl) hd ?_;simp only [zA,zB,zC]))
      refine wpAnyH_done (by kernel_rfl) ?_ _
      go_wp2_with fail
      go_ret
      exact ⟨rfl,HB2.out.trans (HB9.out.mono HB2.out.size)⟩
     ·have g2:decide (1099511627776 < E.at_) = false:=dF x2
      have X2:=zH x2
      clear x2
      by_cases x3:E.at_ < D.last
      ·have g3:decide (E.at_ < D.last) = true:=decide_eq_true x3
       clear x3
       refine Jd (S:=fun w'=>w'.cell? ⟨w.heap.size,0,none⟩ = some (.int .i64 E.kind) /\ w'.cell? ⟨w.heap.size,1,none⟩ = some (.string E.val) /\ w'.cell? ⟨w.heap.size,2,none⟩ = some (.bool E.W.neg) /\ w'.cell? ⟨w.heap.size,3,none⟩ = some (.slice E.W.A E.W.N.length E.W.c) /\ w'.cell? ⟨w.heap.size,4,none⟩ = some (.slice E.W.B E.W.D.length E.W.d) /\ w'.cell? ⟨w.heap.size,5,none⟩ = some (.int .i64 E.at_) /\ w'.cell? ⟨a.q,9,none⟩ = some (.int .i64 D.last)) 37 rfl (by kernel_rfl) (HC4.out W2.drew bR.drew) (fun hd=>?_)
       iterate 5 (((refine Ja (v:=?_) rfl (by kernel_rfl) (fun _ _ _ h=>h) ⟨by rfl,?_⟩ hd ?_;rotate_left;· intro w' sw;obtain ⟨hS1,hS2,hS3,hS4,hS5,hS6,hS7⟩:=sw;go_simp;try with_reducible rfl);simp only [zA,zB,zC]))
       refine Jo 5 rfl (by kernel_rfl) (by rfl) (fun K hK=>?_)
       go_simp
       refine (J2 E.W q W2.drew (HE2.out.below bR.drew) fE true HPB).mono ?_
       rintro e U ⟨rfl,hb2⟩
       have hb3:=Jl hb2
       have hC9:=HC4.out U hb3
       have HB9:=zH hb3
       clear hb2 hb3
       go_simp
       refine hK _ _ hC9 (fun hd=>?_)
       clear hK K
       iterate 31 (first | ((refine Ja (v:=?_) rfl (by kernel_rfl) (fun _ _ _ h=>h) ⟨by rfl,?_⟩ hd ?_;rotate_left;· intro w' sw;obtain ⟨hS1,hS2,hS3,hS4,hS5,hS6,hS7⟩:=sw;go_simp;try with_reducible rfl);simp only [zA,zB,zC]) | (refine Jy rfl (by kernel_rfl) (fun _ _ _ h=>h) (by rfl) hd ?_;simp only [zA,zB,zC]))
       refine wpAnyH_done (by kernel_rfl) ?_ _
       go_wp2_with fail
       go_ret
       exact ⟨rfl,HB2.out.trans (HB9.out.mono HB2.out.size)⟩
      ·have g3:decide (E.at_ < D.last) = false:=dF x3
       have X3:=zH x3
       clear x3
       exfalso
       rcases hbad with h | h | h | h | h | h
       ·rw [HG.out] at h;cases h
       ·rw [HPB.out] at h;cases h
       ·exact h.1 H4.out
       ·exact X1.out h
       ·exact X2.out h
       ·exact X3.out h
   ·have gk:(E.kind != 4) = true:=by rw [bne_iff_ne];exact h4
    have H4:=zH h4
    clear h4
    by_cases hv:E.val = ⟨#[]⟩
    ·have HV:=zH hv
     have gv:=Zaa hv
     clear hv
     by_cases x1:E.at_ < 0
     ·have g1:decide (E.at_ < 0) = true:=decide_eq_true x1
      clear x1
      refine Jd (S:=fun w'=>w'.cell? ⟨w.heap.size,0,none⟩ = some (.int .i64 E.kind) /\ w'.cell? ⟨w.heap.size,1,none⟩ = some (.string E.val) /\ w'.cell? ⟨w.heap.size,2,none⟩ = some (.bool E.W.neg) /\ w'.cell? ⟨w.heap.size,3,none⟩ = some (.slice E.W.A E.W.N.length E.W.c) /\ w'.cell? ⟨w.heap.size,4,none⟩ = some (.slice E.W.B E.W.D.length E.W.d) /\ w'.cell? ⟨w.heap.size,5,none⟩ = some (.int .i64 E.at_) /\ w'.cell? ⟨a.q,9,none⟩ = some (.int .i64 D.last)) 37 rfl (by kernel_rfl) (HC4.out W2.drew bR.drew) (fun hd=>?_)
      iterate 5 (((refine Ja (v:=?_) rfl (by kernel_rfl) (fun _ _ _ h=>h) ⟨by rfl,?_⟩ hd ?_;rotate_left;· intro w' sw;obtain ⟨hS1,hS2,hS3,hS4,hS5,hS6,hS7⟩:=sw;go_simp;try with_reducible rfl);simp only [zA,zB,zC]))
      refine Jo 5 rfl (by kernel_rfl) (by rfl) (fun K hK=>?_)
      go_simp
      refine (J2 E.W q W2.drew (HE2.out.below bR.drew) fE true HPB).mono ?_
      rintro e U ⟨rfl,hb2⟩
      have hb3:=Jl hb2
      have hC9:=HC4.out U hb3
      have HB9:=zH hb3
      clear hb2 hb3
      go_simp
      refine hK _ _ hC9 (fun hd=>?_)
      clear hK K
      iterate 31 (first | ((refine Ja (v:=?_) rfl (by kernel_rfl) (fun _ _ _ h=>h) ⟨by rfl,?_⟩ hd ?_;rotate_left;· intro w' sw;obtain ⟨hS1,hS2,hS3,hS4,hS5,hS6,hS7⟩:=sw;go_simp;try with_reducible rfl);simp only [zA,zB,zC]) | (refine Jy rfl (by kernel_rfl) (fun _ _ _ h=>h) (by rfl) hd ?_;simp only [zA,zB,zC]))
      refine wpAnyH_done (by kernel_rfl) ?_ _
      go_wp2_with fail
      go_ret
      exact ⟨rfl,HB2.out.trans (HB9.out.mono HB2.out.size)⟩
     ·have g1:decide (E.at_ < 0) = false:=dF x1
      have X1:=zH x1
      clear x1
      by_cases x2 : 1099511627776 < E.at_
      ·have g2:decide (1099511627776 < E.at_) = true:=decide_eq_true x2
       clear x2
       refine Jd (S:=fun w'=>w'.cell? ⟨w.heap.size,0,none⟩ = some (.int .i64 E.kind) /\ w'.cell? ⟨w.heap.size,1,none⟩ = some (.string E.val) /\ w'.cell? ⟨w.heap.size,2,none⟩ = some (.bool E.W.neg) /\ w'.cell? ⟨w.heap.size,3,none⟩ = some (.slice E.W.A E.W.N.length E.W.c) /\ w'.cell? ⟨w.heap.size,4,none⟩ = some (.slice E.W.B E.W.D.length E.W.d) /\ w'.cell? ⟨w.heap.size,5,none⟩ = some (.int .i64 E.at_) /\ w'.cell? ⟨a.q,9,none⟩ = some (.int .i64 D.last)) 37 rfl (by kernel_rfl) (HC4.out W2.drew bR.drew) (fun hd=>?_)
       iterate 5 (((refine Ja (v:=?_) rfl (by kernel_rfl) (fun _ _ _ h=>h) ⟨by rfl,?_⟩ hd ?_;rotate_left;· intro w' sw;obtain ⟨hS1,hS2,hS3,hS4,hS5,hS6,hS7⟩:=sw;go_simp;try with_reducible rfl);simp only [zA,zB,zC]))
       refine Jo 5 rfl (by kernel_rfl) (by rfl) (fun K hK=>?_)
       go_simp
       refine (J2 E.W q W2.drew (HE2.out.below bR.drew) fE true HPB).mono ?_
       rintro e U ⟨rfl,hb2⟩
       have hb3:=Jl hb2
       have hC9:=HC4.out U hb3
       have HB9:=zH hb3
       clear hb2 hb3
       go_simp
       refine hK _ _ hC9 (fun hd=>?_)
       clear hK K
       iterate 31 (first | ((refine Ja (v:=?_) rfl (by kernel_rfl) (fun _ _ _ h=>h) ⟨by rfl,?_⟩ hd ?_;rotate_left;· intro w' sw;obtain ⟨hS1,hS2,hS3,hS4,hS5,hS6,hS7⟩:=sw;go_simp;try with_reducible rfl);simp only [zA,zB,zC]) | (refine Jy rfl (by kernel_rfl) (fun _ _ _ h=>h) (by rfl) hd ?_;simp only [zA,zB,zC]))
       refine wpAnyH_done (by kernel_rfl) ?_ _
       go_wp2_with fail
       go_ret
       exact ⟨rfl,HB2.out.trans (HB9.out.mono HB2.out.size)⟩
      ·have g2:decide (1099511627776 < E.at_) = false:=dF x2
       have X2:=zH x2
       clear x2
       by_cases x3:E.at_ < D.last
       ·have g3:decide (E.at_ < D.last) = true:=decide_eq_true x3
        clear x3
        refine Jd (S:=fun w'=>w'.cell? ⟨w.heap.size,0,none⟩ = some (.int .i64 E.kind) /\ w'.cell? ⟨w.heap.size,1,none⟩ = some (.string E.val) /\ w'.cell? ⟨w.heap.size,2,none⟩ = some (.bool E.W.neg) /\ w'.cell? ⟨w.heap.size,3,none⟩ = some (.slice E.W.A E.W.N.length E.W.c) /\ w'.cell? ⟨w.heap.size,4,none⟩ = some (.slice E.W.B E.W.D.length E.W.d) /\ w'.cell? ⟨w.heap.size,5,none⟩ = some (.int .i64 E.at_) /\ w'.cell? ⟨a.q,9,none⟩ = some (.int .i64 D.last)) 37 rfl (by kernel_rfl) (HC4.out W2.drew bR.drew) (fun hd=>?_)
        iterate 5 (((refine Ja (v:=?_) rfl (by kernel_rfl) (fun _ _ _ h=>h) ⟨by rfl,?_⟩ hd ?_;rotate_left;· intro w' sw;obtain ⟨hS1,hS2,hS3,hS4,hS5,hS6,hS7⟩:=sw;go_simp;try with_reducible rfl);simp only [zA,zB,zC]))
        refine Jo 5 rfl (by kernel_rfl) (by rfl) (fun K hK=>?_)
        go_simp
        refine (J2 E.W q W2.drew (HE2.out.below bR.drew) fE true HPB).mono ?_
        rintro e U ⟨rfl,hb2⟩
        have hb3:=Jl hb2
        have hC9:=HC4.out U hb3
        have HB9:=zH hb3
        clear hb2 hb3
        go_simp
        refine hK _ _ hC9 (fun hd=>?_)
        clear hK K
        iterate 31 (((refine Ja (v:=?_) rfl (by kernel_rfl) (fun _ _ _ h=>h) ⟨by rfl,?_⟩ hd ?_;rotate_left;· intro w' sw;obtain ⟨hS1,hS2,hS3,hS4,hS5,hS6,hS7⟩:=sw;go_simp;try with_reducible rfl);simp only [zA,zB,zC]))
        refine wpAnyH_done (by kernel_rfl) ?_ _
        go_wp2_with fail
        go_ret
        exact ⟨rfl,HB2.out.trans (HB9.out.mono HB2.out.size)⟩
       ·have g3:decide (E.at_ < D.last) = false:=dF x3
        have X3:=zH x3
        clear x3
        exfalso
        rcases hbad with h | h | h | h | h | h
        ·rw [HG.out] at h;cases h
        ·rw [HPB.out] at h;cases h
        ·exact h.2 HV.out
        ·exact X1.out h
        ·exact X2.out h
        ·exact X3.out h
    ·have HV:=zH hv
     have gv:=Zfh hv
     clear hv
     refine Jd (S:=fun w'=>w'.cell? ⟨w.heap.size,0,none⟩ = some (.int .i64 E.kind) /\ w'.cell? ⟨w.heap.size,1,none⟩ = some (.string E.val) /\ w'.cell? ⟨w.heap.size,2,none⟩ = some (.bool E.W.neg) /\ w'.cell? ⟨w.heap.size,3,none⟩ = some (.slice E.W.A E.W.N.length E.W.c) /\ w'.cell? ⟨w.heap.size,4,none⟩ = some (.slice E.W.B E.W.D.length E.W.d) /\ w'.cell? ⟨w.heap.size,5,none⟩ = some (.int .i64 E.at_) /\ w'.cell? ⟨a.q,9,none⟩ = some (.int .i64 D.last)) 37 rfl (by kernel_rfl) (HC4.out W2.drew bR.drew) (fun hd=>?_)
     iterate 5 (((refine Ja (v:=?_) rfl (by kernel_rfl) (fun _ _ _ h=>h) ⟨by rfl,?_⟩ hd ?_;rotate_left;· intro w' sw;obtain ⟨hS1,hS2,hS3,hS4,hS5,hS6,hS7⟩:=sw;go_simp;try with_reducible rfl);simp only [zA,zB,zC]))
     refine Jo 5 rfl (by kernel_rfl) (by rfl) (fun K hK=>?_)
     go_simp
     refine (J2 E.W q W2.drew (HE2.out.below bR.drew) fE true HPB).mono ?_
     rintro e U ⟨rfl,hb2⟩
     have hb3:=Jl hb2
     have hC9:=HC4.out U hb3
     have HB9:=zH hb3
     clear hb2 hb3
     go_simp
     refine hK _ _ hC9 (fun hd=>?_)
     clear hK K
     iterate 31 (first | ((refine Ja (v:=?_) rfl (by kernel_rfl) (fun _ _ _ h=>h) ⟨by rfl,?_⟩ hd ?_;rotate_left;· intro w' sw;obtain ⟨hS1,hS2,hS3,hS4,hS5,hS6,hS7⟩:=sw;go_simp;try with_reducible rfl);simp only [zA,zB,zC]) | (refine Jy rfl (by kernel_rfl) (fun _ _ _ h=>h) (by rfl) hd ?_;simp only [zA,zB,zC]))
     refine wpAnyH_done (by kernel_rfl) ?_ _
     go_wp2_with fail
     go_ret
     exact ⟨rfl,HB2.out.trans (HB9.out.mono HB2.out.size)⟩
end Go.Proofs.YtcjicjfbippmnaaGreat
