/- a part of TalkSettles -/
import Derived.Test.YtcjicjfbippmnaaGreatMTSett43
set_option maxRecDepth 100000
set_option maxHeartbeats 32000000
namespace Go.Proofs.YtcjicjfbippmnaaGreat
open Go.RowKit Ear

structure Fz (w:World) (x:Fr) (z:Int):Prop where
 ok:FrOk w x
 neg:x.neg = decide (z < 0)
 num:x.N = nd z.natAbs
 den:x.D = []
theorem Fz.boxed {w:World} {x:Fr} {z:Int} {k:Nat} (h:Fz w x z) (hb:Bx w k) (v0 v1 v2:Value):Fz (((w.setCell ⟨k,0,none⟩ v0).setCell ⟨k,1,none⟩ v1).setCell ⟨k,2,none⟩ v2) x z:=⟨h.ok.boxed hb v0 v1 v2,h.neg,h.num,h.den⟩
def RetFz (z:Int) (w:World) (e:Ending) (w':World):Prop:=∃ x:Fr,e = .returned x.val /\ Fz w' x z /\ Below w.heap.size w w'
theorem RetFr.fz {b:Bool} {n:Nat} {z:Int} {w w':World} {e:Ending} (h:RetFr b n 1 w e w') (hb:b = decide (z < 0)) (hn:n = z.natAbs):RetFz z w e w':=by
 obtain ⟨x,he,hx,h1,h2,h3,h4⟩:=h
 exact ⟨x,he,⟨hx,h1.trans hb,by rw [h2,hn],by rw [h3];rfl⟩,h4⟩
theorem rOf_any (z:Int) (w:World) (h1 : -9223372036854775808 <= z) (h2:z <= 9223372036854775807):Calls Tryz.prog 39 #[.int .i64 z] w (RetFz z w):=by
 have b1:z.natAbs <= 9223372036854775808:=by omega
 have HL:Hid ((nd z.natAbs).length <= 1000000):=zH (Nat.le_trans (nd_len_le (k:=2) (by simp;omega)) (by decide))
 have HV:=zH (vl_nd z.natAbs)
 have HD:=zH (dgs_nd z.natAbs)
 have HS:=zH (fun W=>size_any z W h1 h2)
 have HE:Hid (decide (z < 0) && decide (z.natAbs ≠ 0)) = Hid (decide (z < 0)):=by
  by_cases h:z < 0
  ·have:z.natAbs ≠ 0:=by omega
   simp [h,this]
  ·simp [h]
 have HE':=zH HE
 have HB:Hid ((decide (z < 0) && decide (z.natAbs ≠ 0)) = decide (z < 0)):=zH (by
  by_cases h:z < 0
  ·have:z.natAbs ≠ 0:=by omega
   simp [h,this]
  ·simp [h])
 clear HE HE'
 go_enter Tryz.func39,Tryz.ntmps39
 go_wp2_with fail
 refine (HS.out _).mono ?_
 rintro e w' ⟨rfl,rfl⟩
 generalize hn:z.natAbs = n at *
 have HN:=zH hn
 clear hn
 go_wp2_with fail
 refine (natural_any n _ (by omega)).mono ?_
 rintro e w1 ⟨A,c,rfl,hA,hc,hnil,hb⟩
 generalize hd:nd n = ds at *
 have HDS:=zH hd
 clear hd
 have hs1:w.heap.size < w1.heap.size:=by have:=hb.size;simp at this;omega
 have hb0:=zH (((Below.refl _ w).alloc nR _).trans (hb.mono (by simp)))
 have BX:=zH ((Bx.new w).below hb)
 have HM:=zH (make1_one (decide (z < 0)) A none c 0 ds [] w1 ⟨hA,HD.out,hc,hnil⟩ (Dg.none _) HL.out (by simp) n HV (zH (.inl rfl)))
 clear hb hA hnil
 go_wp2_with fail
 refine HM.out.mono ?_
 clear HM
 intro e w2 hR
 obtain ⟨x,rfl,hx,hb2⟩:=hR.fz HB.out HN.out.symm
 have BX2:=BX.out.below hb2
 obtain ⟨c0,c1,c2,f0,f1,f2⟩:=BX2.facts
 have HX:=zH hx
 have HB2:=zH (hb0.out.trans (hb2.mono hb0.out.size))
 have BXH:=zH BX2
 clear hx hb2 hR BX2 HB
 obtain ⟨xn,xA,xc,xN,xB,xd,xD⟩:=x
 go_wp2_with fail
 obtain ⟨e0,e1,e2⟩:=box3 (.bool xn) (.slice xA xN.length xc) (.slice xB xD.length xd) c0 c1 c2
 refine bodyPost_ret (v:=.agg #[.bool xn,.slice xA xN.length xc,.slice xB xD.length xd]) (by simp [results,Tryz.results39,go_sem,e0,e1,e2]) rfl ?_
 exact ⟨⟨xn,xA,xc,xN,xB,xd,xD⟩,rfl,HX.out.boxed BXH.out _ _ _,((HB2.out.setCell nR _).setCell nR _).setCell nR _⟩
end Go.Proofs.YtcjicjfbippmnaaGreat
namespace Go.Proofs.YtcjicjfbippmnaaGreat
open Go.RowKit Ear
set_option linter.unusedVariables false

theorem rqNeg_any (x:Fr) (p:Rat) (w:World) (hx:Fv w x p) (fx:Few x 90000):Calls Tryz.prog 119 #[x.val] w (RetFq (-p) w):=by
 obtain ⟨W,hW⟩:∃ W:World,W = (w.alloc (.cells #[.bool x.neg,.slice x.A x.N.length x.c,.slice x.B x.D.length x.d] 28)).alloc (.cells #[.bool false,.slice none 0 0,.slice none 0 0] 28):=⟨_,rfl⟩
 have HB0:Hid (Below w.heap.size w W):=zH (by rw [hW];exact al2 w _ _)
 have HBX:Hid (Bt 28 W (w.heap.size + 1)):=zH (by rw [hW];have:=Bt.new 28 (w.alloc (.cells #[.bool x.neg,.slice x.A x.N.length x.c,.slice x.B x.D.length x.d] 28));simpa using this)
 have hb:=hx.below HB0.out
 have e1:vl x.N = ((vl x.N).toNat:Nat):=by have:=vl_nonneg hx.n.dig;omega
 have e2:vl x.D = ((vl x.D).toNat:Nat):=by have:=vl_nonneg hx.d.dig;omega
 have C1:=zH (make1_any (!x.neg) x.A x.B x.c x.d x.N x.D W hb.n hb.d (Nat.le_trans fx.n (by decide)) (Nat.le_trans fx.d (by decide)) _ _ (zH e1) (zH e2))
 have HE:Hid (fq (!x.neg) (vl x.N).toNat (vl x.D).toNat = -p):=zH (by rw [<- fq_neg,hx.val])
 rw [HE.out] at C1
 obtain ⟨xn,xA,xc,xN,xB,xd,xD⟩:=x
 clear hx fx hb e1 e2 HE
 simp only at C1
 go_enter Tryz.func119,Tryz.ntmps119
 go_wp2_with fail
 rw [<- hW]
 clear hW
 refine C1.out.mono ?_
 clear C1
 rintro e w3 ⟨f,rfl,hf,hb3⟩
 have R3:=zH hf
 have X3:=zH (HBX.out.below hb3)
 have BW:=zH (HB0.out.trans (hb3.mono HB0.out.size))
 clear hf hb3 HBX HB0
 obtain ⟨k0,k1,k2,f0,f1,f2⟩:=X3.out.facts
 obtain ⟨rn,rA,rc,rN,rB,rd,rD⟩:=f
 go_wp2_with fail
 obtain ⟨g0,g1,g2⟩:=box3 (.bool rn) (.slice rA rN.length rc) (.slice rB rD.length rd) k0 k1 k2
 refine bodyPost_ret (v:=.agg #[.bool rn,.slice rA rN.length rc,.slice rB rD.length rd]) (by simp [results,Tryz.results119,go_sem,g0,g1,g2]) rfl ?_
 exact ⟨⟨rn,rA,rc,rN,rB,rd,rD⟩,rfl,fq_boxed R3.out X3.out _ _ _,below_boxed BW.out (by omega) _ _ _⟩
theorem rqSub_any (x y:Fr) (p q:Rat) (w:World) (hx:Fv w x p) (hy:Fv w y q) (fx:Few x 80000) (fy:Few y 80000):Calls Tryz.prog 59 #[x.val,y.val] w (RetFq (p + -q) w):=by
 have sq:=hy.sz fy (by decide)
 have FX:Hid (Few x 90000):=zH ⟨Nat.le_trans fx.n (by decide),Nat.le_trans fx.d (by decide)⟩
 have FY:Hid (Few y 90000):=zH ⟨Nat.le_trans fy.n (by decide),Nat.le_trans fy.d (by decide)⟩
 obtain ⟨W,hW⟩:∃ W:World,W = ((w.alloc (.cells #[.bool x.neg,.slice x.A x.N.length x.c,.slice x.B x.D.length x.d] 28)).alloc (.cells #[.bool y.neg,.slice y.A y.N.length y.c,.slice y.B y.D.length y.d] 28)).alloc (.cells #[.bool false,.slice none 0 0,.slice none 0 0] 28):=⟨_,rfl⟩
 have hs:W.heap.size = w.heap.size + 3:=by rw [hW];simp
 have HB0:Hid (Below w.heap.size w W):=zH (by rw [hW];exact (al2 w _ _).alloc (by simp;omega) _)
 have HBX:Hid (Bt 28 W (w.heap.size + 1 + 1)):=zH (by rw [hW];have:=Bt.new 28 ((w.alloc (.cells #[.bool x.neg,.slice x.A x.N.length x.c,.slice x.B x.D.length x.d] 28)).alloc (.cells #[.bool y.neg,.slice y.A y.N.length y.c,.slice y.B y.D.length y.d] 28));simpa using this)
 have HC:Hid (∀ u,Below W.heap.size W u -> u.cell? ⟨w.heap.size,0,none⟩ = some (.bool x.neg) /\ u.cell? ⟨w.heap.size,1,none⟩ = some (.slice x.A x.N.length x.c) /\ u.cell? ⟨w.heap.size,2,none⟩ = some (.slice x.B x.D.length x.d) /\ u.cell? ⟨w.heap.size + 1,0,none⟩ = some (.bool y.neg) /\ u.cell? ⟨w.heap.size + 1,1,none⟩ = some (.slice y.A y.N.length y.c) /\ u.cell? ⟨w.heap.size + 1,2,none⟩ = some (.slice y.B y.D.length y.d)):=zH (fun u hu=>by
  rw [hu.cell (p:=⟨w.heap.size,0,none⟩) (by simp;omega),hu.cell (p:=⟨w.heap.size,1,none⟩) (by simp;omega),hu.cell (p:=⟨w.heap.size,2,none⟩) (by simp;omega),hu.cell (p:=⟨w.heap.size + 1,0,none⟩) (by simp;omega),hu.cell (p:=⟨w.heap.size + 1,1,none⟩) (by simp;omega),hu.cell (p:=⟨w.heap.size + 1,2,none⟩) (by simp;omega),hW]
  simp [go_sem])
 have HX:=zH (hx.below HB0.out)
 have HY:=zH (hy.below HB0.out)
 clear hx hy
 go_enter Tryz.func59,Tryz.ntmps59
 go_wp2_with fail
 rw [<- hW]
 clear hW
 refine wp_region_slots_pop 4 9 rfl (by kernel_rfl) (by kernel_rfl) (by kernel_rfl) (by kernel_rfl) (fun u=>Below W.heap.size W u) (fun u u'=>Below u.heap.size u u') (Gl [isV (x.val),isV (y.val),isFq (-q),isFq (p + -q)]) (Gl.keep (by
   intro p hp
   simp only [List.mem_cons,List.not_mem_nil,or_false] at hp
   rcases hp with rfl | rfl | rfl | rfl
   ·exact Keeps.isV _
   ·exact Keeps.isV _
   ·exact Keeps.isFq _
   ·exact Keeps.isFq _)) ?_ ?_ ?_
 ·exact (Below.refl _ W).drew
 ·simp only [List.pop_toArray,List.dropLast,StepsFrom]
  refine ⟨?_,?_,?_,?_,trivial⟩
  ·intro bb u su dp kp K hK
   have e2:gT bb 2 = .pointer (some ⟨w.heap.size,0,none⟩):=kp 2 (by kernel_rfl)
   obtain ⟨cc0,cc1,cc2,cc3,cc4,cc5⟩:=HC.out u su
   go_simp
   exact hK _ _ su bR rfl
  ·intro bb u su dp kp K hK
   have e3:gT bb 3 = .pointer (some ⟨w.heap.size + 1,0,none⟩):=kp 3 (by kernel_rfl)
   obtain ⟨cc0,cc1,cc2,cc3,cc4,cc5⟩:=HC.out u su
   go_simp
   exact hK _ _ su bR rfl
  ·intro bb u su dp kp K hK
   have e6:gT bb 6 = y.val:=dp 1 _ rfl (by kernel_rfl)
   go_simp
   refine (rqNeg_any y (q) u (HY.out.below su) FY.out).mono ?_
   rintro e w' ⟨r,rfl,hr,h4⟩
   go_simp
   exact hK _ _ (su.trans (h4.mono su.size)) h4 ⟨r,rfl,zH hr⟩
  ·intro bb u su dp kp K hK
   have e5:gT bb 5 = x.val:=dp 0 _ rfl (by kernel_rfl)
   obtain ⟨r7,e7,D7⟩:∃ r:Fr,gT bb 7 = r.val /\ Hid (Fq u r (-q)):=dp 2 _ rfl (by kernel_rfl)
   go_simp
   refine (rqAdd_any x r7 (p) (-q) u (HX.out.below su) (D7.out).fv FX.out ((D7.out).few (sq.neg.mono (by decide)))).mono ?_
   rintro e w' ⟨r,rfl,hr,h4⟩
   go_simp
   exact hK _ _ (su.trans (h4.mono su.size)) h4 ⟨r,rfl,zH hr⟩
 ·intro bb u hN hdf su hG sm
  obtain ⟨r,e8,hr⟩:∃ r:Fr,gT bb 8 = r.val /\ Hid (Fq u r (p + -q)):=hG 3 _ rfl
  have e4:gT bb 4 = .pointer (some ⟨w.heap.size + 1 + 1,0,none⟩):=sm 4 (by kernel_rfl)
  have BX2:=zH (HBX.out.below su)
  obtain ⟨c0,c1,c2,f0,f1,f2⟩:=BX2.out.facts
  have HB2:=zH (HB0.out.trans (su.mono HB0.out.size))
  clear su hG sm
  rw [frame_lit bb 9 hN]
  simp only [show List.range 9 = [0,1,2,3,4,5,6,7,8] from rfl,List.map_cons,List.map_nil,e4,e8,hdf]
  clear e4 e8 hN hdf
  generalize gT bb 0 = z0,gT bb 1 = z1,gT bb 2 = z2,gT bb 3 = z3,gT bb 5 = z5,gT bb 6 = z6,gT bb 7 = z7
  obtain ⟨rn,rA,rc,rN,rB,rd,rD⟩:=r
  refine PopQ.last rfl rfl (fun K hK=>?_)
  go_simp
  refine hK _ _ ?_
  clear hK K
  go_wp2_with fail
  obtain ⟨g0,g1,g2⟩:=box3 (.bool rn) (.slice rA rN.length rc) (.slice rB rD.length rd) c0 c1 c2
  refine bodyPost_ret (v:=.agg #[.bool rn,.slice rA rN.length rc,.slice rB rD.length rd]) (by simp [results,Tryz.results59,go_sem,g0,g1,g2]) rfl ?_
  exact ⟨⟨rn,rA,rc,rN,rB,rd,rD⟩,rfl,fq_boxed hr.out BX2.out _ _ _,below_boxed HB2.out (by omega) _ _ _⟩
theorem Fz.fq' {w:World} {x:Fr} {z:Int} (h:Fz w x z):Fq w x (z:Rat):=by
 obtain ⟨p1,p2,p3⟩:=int_parts z
 exact ⟨h.ok,by rw [p1];exact h.neg,by rw [p2];exact h.num,by rw [p3];exact h.den⟩
theorem rqOf_any (z:Int) (w:World) (h1 : -9223372036854775808 <= z) (h2:z <= 9223372036854775807):Calls Tryz.prog 39 #[.int .i64 z] w (RetFq (z:Rat) w):=
 (rOf_any z w h1 h2).mono fun _ _ ⟨x,he,hx,hb⟩=>⟨x,he,hx.fq',hb⟩
theorem rqMake_any (a b:Int) (w:World) (h1 : -9223372036854775808 <= a) (h2:a <= 9223372036854775807) (h3 : -9223372036854775808 <= b) (h4:b <= 9223372036854775807):Calls Tryz.prog 52 #[.int .i64 a,.int .i64 b] w (RetFq (fq (decide (a < 0) != decide (b < 0)) a.natAbs b.natAbs) w):=by
 obtain ⟨W,hW⟩:∃ W:World,W = w.alloc (.cells #[.bool false,.slice none 0 0,.slice none 0 0] 28):=⟨_,rfl⟩
 have HB0:Hid (Below w.heap.size w W):=zH (by rw [hW];exact bR.alloc nR _)
 have HBX:Hid (Bt 28 W w.heap.size):=zH (by rw [hW];exact Bt.new _ w)
 have S1:=zH (fun u=>size_any a u h1 h2)
 have S2:=zH (fun u=>size_any b u h3 h4)
 have N1:=zH (fun u=>natural_any a.natAbs u (by omega))
 have N2:=zH (fun u=>natural_any b.natAbs u (by omega))
 have l1:(nd a.natAbs).length <= 400000:=Nat.le_trans (nd_len_le (k:=2) (by simp;omega)) (by decide)
 have l2:(nd b.natAbs).length <= 400000:=Nat.le_trans (nd_len_le (k:=2) (by simp;omega)) (by decide)
 generalize a.natAbs = n at *
 generalize b.natAbs = m at *
 generalize hd1:decide (a < 0) = d1 at *
 generalize hd2:decide (b < 0) = d2 at *
 go_enter Tryz.func52,Tryz.ntmps52
 go_wp2_with fail
 rw [<- hW]
 clear hW
 refine (S1.out _).mono ?_
 rintro e w' ⟨rfl,rfl⟩
 go_wp2_with fail
 refine (N1.out _).mono ?_
 rintro e w1 ⟨A1,c1,rfl,s1,s2,s3,s4⟩
 have D1:=zH (dg_ret s1 s2 s3)
 have B1:=zH s4
 clear s1 s2 s3 s4
 go_wp2_with fail
 refine (S2.out _).mono ?_
 rintro e w' ⟨rfl,rfl⟩
 go_wp2_with fail
 refine (N2.out _).mono ?_
 rintro e w2 ⟨A2,c2,rfl,s1,s2,s3,s4⟩
 have D2:=zH (dg_ret s1 s2 s3)
 have D1':=zH (D1.out.below s4)
 have B2:=zH (B1.out.trans (s4.mono B1.out.size))
 clear s1 s2 s3 s4 D1 B1 S1 S2 N1 N2
 have C1:=zH (make1_any (d1 != d2) A1 A2 c1 c2 (nd n) (nd m) w2 D1'.out D2.out l1 l2 n m (zH (vl_nd _)) (zH (vl_nd _)))
 go_wp2_with fail
 refine C1.out.mono ?_
 clear C1
 rintro e w3 ⟨f,rfl,hf,hb3⟩
 have R3:=zH hf
 have B3:=zH (B2.out.trans (hb3.mono B2.out.size))
 have X3:=zH (HBX.out.below B3.out)
 have BW:=zH (HB0.out.trans (B3.out.mono HB0.out.size))
 clear hf hb3 HBX HB0 B2 B3
 obtain ⟨k0,k1,k2,f0,f1,f2⟩:=X3.out.facts
 obtain ⟨rn,rA,rc,rN,rB,rd,rD⟩:=f
 go_wp2_with fail
 obtain ⟨g0,g1,g2⟩:=box3 (.bool rn) (.slice rA rN.length rc) (.slice rB rD.length rd) k0 k1 k2
 refine bodyPost_ret (v:=.agg #[.bool rn,.slice rA rN.length rc,.slice rB rD.length rd]) (by simp [results,Tryz.results52,go_sem,g0,g1,g2]) rfl ?_
 exact ⟨⟨rn,rA,rc,rN,rB,rd,rD⟩,rfl,fq_boxed R3.out X3.out _ _ _,below_boxed BW.out nR _ _ _⟩
theorem rqSign_any (x:Fr) (p:Rat) (w:World) (hx:Fv w x p) (fx:Few x 90000) (r:Int) (hr:Hid (qsgn p = r)):Calls Tryz.prog 24 #[x.val] w fun e w'=>e = .returned (.int .i64 r) /\ Below w.heap.size w w':=by
 obtain ⟨n,d,hp,hT,hD,hL,d0,ln,ld⟩:=hx.opened fx
 have HR:Hid (r = if n = 0 then 0 else if x.neg then -1 else 1):=zH (by rw [<- hr.out,hp,fq_sgn d0])
 have HT:=zH (hT.out _ ((Below.refl w.heap.size w).alloc nR (.cells #[.bool x.neg,.slice x.A x.N.length x.c,.slice x.B x.D.length x.d] 28)))
 obtain ⟨xn,xA,xc,xN,xB,xd,xD⟩:=x
 simp only at HR HT
 clear hx fx hp hT hD hL hr
 by_cases h0:n = 0
 ·have hl:(nd n).length = 0:=by rw [h0,nd_zero];rfl
  have HR1:Hid (r = 0):=zH (by rw [HR.out,if_pos h0])
  rw [hl] at HT
  clear HR hl h0
  go_enter Tryz.func24,Tryz.ntmps24
  go_wp2_with fail
  refine HT.out.mono ?_
  rintro e w' ⟨rfl,rfl⟩
  go_wp2_with fail
  go_ret
  exact ⟨ret_int (by rw [HR1.out]),bR.alloc nR _⟩
 ·have hl:(nd n).length ≠ 0:=fun e=>h0 (nd_len_zero.1 e)
  have hq:(((nd n).length:Int) == 0) = false:=beq_eq_false_iff_ne.2 (by omega)
  cases xn with
  | true=>
   have HR1:Hid (r = -1):=zH (by rw [HR.out,if_neg h0];rfl)
   clear HR hl h0
   go_enter Tryz.func24,Tryz.ntmps24
   go_wp2_with fail
   refine HT.out.mono ?_
   rintro e w' ⟨rfl,rfl⟩
   go_wp2_with fail
   go_ret
   exact ⟨ret_int (by rw [HR1.out]),bR.alloc nR _⟩
  | false=>
   have HR1:Hid (r = 1):=zH (by rw [HR.out,if_neg h0];rfl)
   clear HR hl h0
   go_enter Tryz.func24,Tryz.ntmps24
   go_wp2_with fail
   refine HT.out.mono ?_
   rintro e w' ⟨rfl,rfl⟩
   go_wp2_with fail
   go_ret
   exact ⟨ret_int (by rw [HR1.out]),bR.alloc nR _⟩
theorem rqCmp_any (x y:Fr) (p q:Rat) (w:World) (hx:Fv w x p) (hy:Fv w y q) (fx:Few x 40000) (fy:Few y 40000) (r:Int) (hr:Hid (qsgn (p + -q) = r)):Calls Tryz.prog 72 #[x.val,y.val] w fun e w'=>e = .returned (.int .i64 r) /\ Below w.heap.size w w':=by
 obtain ⟨W,hW⟩:∃ W:World,W = (w.alloc (.cells #[.bool x.neg,.slice x.A x.N.length x.c,.slice x.B x.D.length x.d] 28)).alloc (.cells #[.bool y.neg,.slice y.A y.N.length y.c,.slice y.B y.D.length y.d] 28):=⟨_,rfl⟩
 have HB0:Hid (Below w.heap.size w W):=zH (by rw [hW];exact al2 w _ _)
 have sp:=hx.sz fx (by decide)
 have sq:=hy.sz fy (by decide)
 have C1:=zH (rqSub_any x y p q W (hx.below HB0.out) (hy.below HB0.out) ⟨Nat.le_trans fx.n (by decide),Nat.le_trans fx.d (by decide)⟩ ⟨Nat.le_trans fy.n (by decide),Nat.le_trans fy.d (by decide)⟩)
 have C2:=zH (fun (f:Fr) (u:World) (hf:Fq u f (p + -q))=>rqSign_any f (p + -q) u hf.fv (hf.few ((sp.add sq.neg).mono (by decide))) r hr)
 obtain ⟨xn,xA,xc,xN,xB,xd,xD⟩:=x
 obtain ⟨yn,yA,yc,yN,yB,yd,yD⟩:=y
 clear hx hy fx fy sp sq
 go_enter Tryz.func72,Tryz.ntmps72
 go_wp2_with fail
 rw [<- hW]
 clear hW
 refine C1.out.mono ?_
 rintro e w3 ⟨f,rfl,hf,hb3⟩
 have R3:=zH hf
 have B3:=zH hb3
 clear hf hb3
 go_wp2_with fail
 refine (C2.out f w3 R3.out).mono ?_
 rintro e w4 ⟨rfl,hb4⟩
 have B4:=zH (B3.out.trans (hb4.mono B3.out.size))
 clear hb4
 go_wp2_with fail
 go_ret
 exact ⟨rfl,HB0.out.trans (B4.out.mono HB0.out.size)⟩
end Go.Proofs.YtcjicjfbippmnaaGreat
namespace Go.Proofs.YtcjicjfbippmnaaGreat
open Go.RowKit Ear

theorem sameDigits_any (A B:Option Addr) (c d:Nat) (a b:List Int) (w:World) (hA:Lies w A (ucs a)) (hB:Lies w B (ucs b)) (hn:a.length <= 1000000) (r:Bool) (hr:Hid (decide (a = b) = r)) :
  Calls Tryz.prog 58 #[.slice A a.length c,.slice B b.length d] w fun e w'=>e = .returned (.bool r) /\ ∃ n,w' = w.drewN n:=by
 by_cases hl:a.length = b.length
 ·rw [<- hl]
  have HL:=zH hl
  clear hl
  go_enter Tryz.func58,Tryz.ntmps58
  go_wp2_with fail
  go_loopw [5] (fun i wr=>∃ k:Nat,k <= a.length /\ i = .int .i64 k /\ Hid (∀ j,j < k -> a[j]?.getD 0 = b[j]?.getD 0) /\ ∃ n,wr = w.drewN n) (fun i _=>a.length - (intOf i).toNat)
  case atStart=>exact ⟨0,by omega,rfl,zH (fun j hj=>by omega),0,rfl⟩
  case round=>
   obtain ⟨k,hk,rfl,HE,n,hwd⟩:=hrel
   have L1:Lies wr A (ucs a):=by rw [hwd];exact hA.drewN n
   have L2:Lies wr B (ucs b):=by rw [hwd];exact hB.drewN n
   have WD:=zH hwd
   clear hwd
   by_cases hlt:k < a.length
   ·obtain ⟨b1,o1,rfl,hb1,hc1⟩:=L1.uat hlt
    obtain ⟨b2,o2,rfl,hb2,hc2⟩:=L2.uat (k:=k) (by rw [<- HL.out];exact hlt)
    by_cases he:a[k]?.getD 0 = b[k]?.getD 0
    ·have HN:Hid (∀ j,j < k + 1 -> a[j]?.getD 0 = b[j]?.getD 0):=zH (fun j hj=>by
      rcases Nat.lt_or_ge j k with h | h
      ·exact HE.out j h
      ·obtain rfl:j = k:=by omega
       exact he)
     rw [<- he] at hc2
     clear he
     generalize a[k]?.getD 0 = x at *
     go_wp2_with fail
     go_quiet (fail)
     go_wp2_with fail
     exact ⟨⟨k + 1,by omega,by go_num,HN,by rw [WD.out];exact drewN_ex _ _ _⟩,by simp [intOf];omega⟩
    ·have HR:Hid (r = false):=zH (by rw [<- hr.out];exact decide_eq_false (fun e=>he (by rw [e])))
     generalize a[k]?.getD 0 = x at *
     generalize b[k]?.getD 0 = y at *
     have q:(x != y) = true:=by simpa using he
     go_wp2_with fail
     go_quiet (fail)
     go_wp2_with fail
     go_ret
     exact ⟨ret_bool (by rw [HR.out]),by rw [WD.out];exact drewN_ex _ _ _⟩
   ·obtain rfl:k = a.length:=by omega
    have HR:Hid (r = true):=zH (by
     rw [<- hr.out]
     refine decide_eq_true (List.ext_getElem HL.out fun j h1 h2=>?_)
     have:=HE.out j h1
     rw [gE h1,gE h2] at this
     simpa using this)
    go_wp2_with fail
    go_ret
    exact ⟨ret_bool (by rw [HR.out]),n,WD.out⟩
 ·have HR:Hid (r = false):=zH (by rw [<- hr.out];exact decide_eq_false (fun e=>hl (by rw [e])))
  have q:((a.length:Int) != (b.length:Int)) = true:=by simp;omega
  go_enter Tryz.func58,Tryz.ntmps58
  go_wp2_with fail
  go_ret
  exact ⟨ret_bool (by rw [HR.out]),0,rfl⟩
theorem den_inj {d e:Nat} (hd:d ≠ 0) (he:e ≠ 0) (h:den d = den e):d = e:=by
 unfold den at h
 split at h <;> split at h
 ·omega
 ·exact absurd (nd_nil.1 h.symm) he
 ·exact absurd (nd_nil.1 h) hd
 ·exact nd_inj h
theorem fq_same {w:World} {x y:Fr} {p q:Rat} (hx:Fq w x p) (hy:Fq w y q):p = q ↔ x.neg = y.neg /\ x.N = y.N /\ x.D = y.D:=by
 constructor
 ·rintro rfl
  exact ⟨by rw [hx.neg,hy.neg],by rw [hx.num,hy.num],by rw [hx.dn,hy.dn]⟩
 ·rintro ⟨h1,h2,h3⟩
  rw [hx.neg,hy.neg] at h1
  rw [hx.num,hy.num] at h2
  rw [hx.dn,hy.dn] at h3
  rw [<- fq_canon p,<- fq_canon q,h1,nd_inj h2,den_inj p.den_nz q.den_nz h3]
theorem rqSame_any (x y:Fr) (p q:Rat) (w:World) (hx:Fq w x p) (hy:Fq w y q) (fx:Few x 1000000) (r:Bool) (hr:Hid (decide (p = q) = r)):Calls Tryz.prog 17 #[x.val,y.val] w fun e w'=>e = .returned (.bool r) /\ Below w.heap.size w w':=by
 have HS:Hid ((p = q) ↔ x.neg = y.neg /\ x.N = y.N /\ x.D = y.D):=zH (fq_same hx hy)
 obtain ⟨W,hW⟩:∃ W:World,W = (w.alloc (.cells #[.bool x.neg,.slice x.A x.N.length x.c,.slice x.B x.D.length x.d] 28)).alloc (.cells #[.bool y.neg,.slice y.A y.N.length y.c,.slice y.B y.D.length y.d] 28):=⟨_,rfl⟩
 have HB0:Hid (Below w.heap.size w W):=zH (by rw [hW];exact al2 w _ _)
 have HX:=(hx.below HB0.out).ok
 have HY:=(hy.below HB0.out).ok
 have S1:=zH (fun n=>sameDigits_any x.A y.A x.c y.c x.N y.N (W.drewN n) (HX.n.below (below_drewN' _ _)).lies (HY.n.below (below_drewN' _ _)).lies fx.n (decide (x.N = y.N)) (zH rfl))
 have S2:=zH (fun n=>sameDigits_any x.B y.B x.d y.d x.D y.D (W.drewN n) (HX.d.below (below_drewN' _ _)).lies (HY.d.below (below_drewN' _ _)).lies fx.d (decide (x.D = y.D)) (zH rfl))
 have HC:Hid (∀ n,((W.drewN n).cell? ⟨w.heap.size,2,none⟩ = some (.slice x.B x.D.length x.d) /\ (W.drewN n).cell? ⟨w.heap.size + 1,2,none⟩ = some (.slice y.B y.D.length y.d))):=zH (fun n=>by
  show W.cell? _ = _ /\ W.cell? _ = _
  rw [hW]
  simp [go_sem])
 obtain ⟨xn,xA,xc,xN,xB,xd,xD⟩:=x
 obtain ⟨yn,yA,yc,yN,yB,yd,yD⟩:=y
 simp only at HS S1 S2 HC
 clear hx hy HX HY fx
 by_cases h1:xn = yn
 ·subst h1
  have q1:(xn == xn) = true:=by simp
  by_cases h2:xN = yN
  ·have HR:Hid (r = decide (xD = yD)):=zH (by rw [<- hr.out,decide_eq_decide,HS.out];simp [h2])
   have d2:decide (xN = yN) = true:=decide_eq_true h2
   rw [d2] at S1
   have Z1:=zH (S1.out 0)
   clear HS hr h2 d2 S1
   go_enter Tryz.func17,Tryz.ntmps17
   go_wp2_with fail
   rw [<- hW]
   clear hW
   refine Z1.out.mono ?_
   rintro e w' ⟨rfl,n,rfl⟩
   have Z2:=zH (S2.out n)
   obtain ⟨c1,c2⟩:=HC.out n
   have B2:Hid (Below w.heap.size w (W.drewN n)):=zH (HB0.out.trans (below_drewN' _ _))
   clear Z1 S2 HC
   change Hid (Calls _ _ _ (W.drewN n) _) at Z2
   generalize hWn:(W.drewN 0).drewN n = Wn at *
   have e0:Wn = W.drewN n:=hWn.symm.trans (by rw [World.drewN_drewN];simp)
   rw [<- e0] at Z2 c1 c2 B2
   clear hWn e0
   go_wp2_with fail
   refine Z2.out.mono ?_
   rintro e w' ⟨rfl,m,rfl⟩
   go_wp2_with fail
   go_ret
   exact ⟨ret_bool (by rw [HR.out]),B2.out.trans (below_drewN' _ _)⟩
  ·have HR:Hid (r = false):=zH (by rw [<- hr.out];exact decide_eq_false (fun e=>h2 (HS.out.1 e).2.1))
   have d2:decide (xN = yN) = false:=decide_eq_false h2
   rw [d2] at S1
   have Z1:=zH (S1.out 0)
   clear HS hr h2 d2 S1 S2 HC
   go_enter Tryz.func17,Tryz.ntmps17
   go_wp2_with fail
   rw [<- hW]
   clear hW
   refine Z1.out.mono ?_
   rintro e w' ⟨rfl,n,rfl⟩
   go_wp2_with fail
   go_ret
   exact ⟨ret_bool (by rw [HR.out]),HB0.out.trans (below_drewN' _ _)⟩
 ·have HR:Hid (r = false):=zH (by rw [<- hr.out];exact decide_eq_false (fun e=>h1 (HS.out.1 e).1))
  have q1:(xn == yn) = false:=by simpa using h1
  clear HS hr h1 S1 S2 HC hW
  go_enter Tryz.func17,Tryz.ntmps17
  go_wp2_with fail
  go_ret
  exact ⟨ret_bool (by rw [HR.out]),al2 w _ _⟩
theorem row4 {t:TypeId} {w:World} {k:Nat} {u0 u1 u2 u3:Value} (h:w.heap[k]? = some (.cells #[u0,u1,u2,u3] t (0,0))) (v0 v1 v2 v3:Value):((((w.setCell ⟨k,0,none⟩ v0).setCell ⟨k,1,none⟩ v1).setCell ⟨k,2,none⟩ v2).setCell ⟨k,3,none⟩ v3).heap[k]? = some (.cells #[v0,v1,v2,v3] t (0,0)):=by
 simp [World.setCell,Array.getElem?_modify,h]
theorem kv_quart:fq (decide ((1:Int) < 0) != decide ((4:Int) < 0)) (1:Int).natAbs (4:Int).natAbs = mkRat 1 4:=by decide +kernel
theorem kv_three:fq (decide ((3:Int) < 0) != decide ((4:Int) < 0)) (3:Int).natAbs (4:Int).natAbs = mkRat 3 4:=by decide +kernel
theorem sz_one {q:Rat} (h1:qn q < 4294967296) (h2:q.den < 4294967296):Sz q 90000:=
 ⟨Nat.le_trans (nd_len_le (k:=1) (by simpa using h1)) (by decide),Nat.le_trans (nd_len_le (k:=1) (by simpa using h2)) (by decide)⟩
theorem _root_.Go.RowKit.Below.heap_cell4 (V:World) {g:Nat} {v0 v1 v2 v3:Value} (b k:Nat) (hb:b ≠ g):((((V.setCell ⟨g,0,none⟩ v0).setCell ⟨g,1,none⟩ v1).setCell ⟨g,2,none⟩ v2).setCell ⟨g,3,none⟩ v3).cell? ⟨b,k,none⟩ = V.cell? ⟨b,k,none⟩:=
 World.cell?_of_block (a:=⟨b,k,none⟩) (by rw [Below.heap_setCell _ _ _ b hb,Below.heap_setCell _ _ _ b hb,Below.heap_setCell _ _ _ b hb,Below.heap_setCell _ _ _ b hb])
theorem lplan_any (w:World):Calls Tryz.prog 54 #[] w fun e w'=>∃ A s,e = .returned (.agg #[.slice A 1 1,.int .i64 1,.int .i64 10,.int .i64 4]) /\ PlM w' A [s] kPs /\ s.nm = ⟨#[99,111,108,111,114]⟩ /\ s.vs = [redB,blueB] /\ Below w.heap.size w w':=by
 obtain ⟨W,hW⟩:∃ W:World,W = (w.alloc (.cells #[.slice none 0 0,.int .i64 0,.int .i64 0,.int .i64 0] 48)).alloc (.cells #[.string ⟨#[114,101,100]⟩,.string ⟨#[98,108,117,101]⟩] 9):=⟨_,rfl⟩
 have HB0:Hid (Below w.heap.size w W):=zH (by rw [hW];exact al2 w _ _)
 have HX0:Hid (W.heap[w.heap.size]? = some (.cells #[.slice none 0 0,.int .i64 0,.int .i64 0,.int .i64 0] 48 (0,0))):=zH (by rw [hW];exact two_fst _ _ _)
 have HX1:Hid (W.heap[w.heap.size + 1]? = some (.cells #[.string ⟨#[114,101,100]⟩,.string ⟨#[98,108,117,101]⟩] 9 (0,0))):=zH (by rw [hW];exact two_snd _ _ _)
 go_enter Tryz.func54,Tryz.ntmps54
 go_wp2_with fail
 rw [<- hW]
 clear hW
 refine (rqMake_any 1 4 W (by decide) (by decide) (by decide) (by decide)).mono ?_
 rintro e w1 ⟨x,rfl,hx,hb1⟩
 rw [kv_quart] at hx
 have HB1:=zH (HB0.out.trans (hb1.mono HB0.out.size))
 have HR0:Hid (w1.heap[w.heap.size]? = _):=zH ((hb1.block _ (aE HX0.out).1).trans HX0.out)
 have HR1:Hid (w1.heap[w.heap.size + 1]? = _):=zH ((hb1.block _ (aE HX1.out).1).trans HX1.out)
 have HFX:=zH hx
 clear hx hb1 HX0 HX1 HB0
 go_wp2_with fail
 refine (rqMake_any 3 4 w1 (by decide) (by decide) (by decide) (by decide)).mono ?_
 rintro e w2 ⟨y,rfl,hy,hb2⟩
 rw [kv_three] at hy
 have HB2:=zH (HB1.out.trans (hb2.mono HB1.out.size))
 have HS0:Hid (w2.heap[w.heap.size]? = _):=zH ((hb2.block _ (aE HR0.out).1).trans HR0.out)
 have HS1:Hid (w2.heap[w.heap.size + 1]? = _):=zH ((hb2.block _ (aE HR1.out).1).trans HR1.out)
 have HFX2:=zH (HFX.out.below hb2)
 have HFY:=zH hy
 clear hy hb2 HR0 HR1 HB1 HFX
 obtain ⟨V,hV⟩:∃ V:World,V = w2.alloc (.cells #[.string ⟨#[99,111,108,111,114]⟩,.slice (some ⟨w.heap.size + 1,0,none⟩) 2 2,.bool x.neg,.slice x.A x.N.length x.c,.slice x.B x.D.length x.d,.bool y.neg,.slice y.A y.N.length y.c,.slice y.B y.D.length y.d] 79):=⟨_,rfl⟩
 have HBV:Hid (Below w2.heap.size w2 V):=zH (by rw [hV];exact bR.alloc nR _)
 have HV0:Hid (V.heap[w.heap.size]? = _):=zH ((HBV.out.block _ (aE HS0.out).1).trans HS0.out)
 have HV1:Hid (V.heap[w.heap.size + 1]? = _):=zH ((HBV.out.block _ (aE HS1.out).1).trans HS1.out)
 have HV2:Hid (V.heap[w2.heap.size]? = some (.cells #[.string ⟨#[99,111,108,111,114]⟩,.slice (some ⟨w.heap.size + 1,0,none⟩) 2 2,.bool x.neg,.slice x.A x.N.length x.c,.slice x.B x.D.length x.d,.bool y.neg,.slice y.A y.N.length y.c,.slice y.B y.D.length y.d] 79 (0,0))):=zH (by rw [hV];exact heap_alloc_new w2 _)
 have HFX3:=zH (HFX2.out.below HBV.out)
 have HFY3:=zH (HFY.out.below HBV.out)
 have HB3:=zH (HB2.out.trans (HBV.out.mono HB2.out.size))
 have hs2:=HB2.out.size
 have hs1:w.heap.size + 1 < w2.heap.size:=(aE HS1.out).1
 clear HFX2 HFY HB2 HS0 HS1 HBV
 have f0:=rowfz HV0.out 0
 have f1:=rowfz HV0.out 1
 have f2:=rowfz HV0.out 2
 have f3:=rowfz HV0.out 3
 have c0:V.cell? ⟨w.heap.size,0,none⟩ = some (.slice none 0 0):=(cR 0 HV0.out).trans rfl
 have c1:V.cell? ⟨w.heap.size,1,none⟩ = some (.int .i64 0):=(cR 1 HV0.out).trans rfl
 have c2:V.cell? ⟨w.heap.size,2,none⟩ = some (.int .i64 0):=(cR 2 HV0.out).trans rfl
 have c3:V.cell? ⟨w.heap.size,3,none⟩ = some (.int .i64 0):=(cR 3 HV0.out).trans rfl
 rw [hV] at f0 f1 f2 f3 c0 c1 c2 c3
 go_wp2_with fail
 rw [<- hV]
 clear hV f0 f1 f2 f3 c0 c1 c2 c3
 have hr4:=row4 HV0.out (.slice (some ⟨w2.heap.size,0,none⟩) 1 1) (.int .i64 1) (.int .i64 10) (.int .i64 4)
 have g0:=(cR 0 hr4).trans rfl
 have g1:=(cR 1 hr4).trans rfl
 have g2:=(cR 2 hr4).trans rfl
 have g3:=(cR 3 hr4).trans rfl
 refine bodyPost_ret (v:=.agg #[.slice (some ⟨w2.heap.size,0,none⟩) 1 1,.int .i64 1,.int .i64 10,.int .i64 4]) (by simp [results,Tryz.results54,go_sem,g0,g1,g2,g3]) rfl ?_
 refine ⟨some ⟨w2.heap.size,0,none⟩,⟨⟨#[99,111,108,111,114]⟩,some ⟨w.heap.size + 1,0,none⟩,2,[redB,blueB],x,y⟩,rfl,⟨?_,rfl,?_⟩,rfl,rfl,(((HB3.out.setCell nR _).setCell nR _).setCell nR _).setCell nR _⟩
 ·have hb:∀ b,b ≠ w.heap.size -> (((( V.setCell ⟨w.heap.size,0,none⟩ (.slice (some ⟨w2.heap.size,0,none⟩) 1 1)).setCell ⟨w.heap.size,1,none⟩ (.int .i64 1)).setCell ⟨w.heap.size,2,none⟩ (.int .i64 10)).setCell ⟨w.heap.size,3,none⟩ (.int .i64 4)).heap[b]? = V.heap[b]?:=fun b hb=>by
   rw [Below.heap_setCell _ _ _ b hb,Below.heap_setCell _ _ _ b hb,Below.heap_setCell _ _ _ b hb,Below.heap_setCell _ _ _ b hb]
  exact fun _=>⟨w2.heap.size,0,rfl,by simp [World.setCell];exact (aE HV2.out).1,fun k v hk=>by
   rw [Nat.zero_add,World.cell?_of_block (a:=⟨w2.heap.size,k,none⟩) (hb w2.heap.size (by omega)),cell_of_row _ _ k _ _ _ HV2.out]
   simpa [slcs,slc] using hk⟩
 ·intro k s P h1 h2
  cases k with
  | succ k=>simp at h1
  | zero=>
   simp only [List.getElem?_cons_zero,Option.some.injEq,kPs] at h1 h2
   subst h1 h2
   have hku:KU V ((((V.setCell ⟨w.heap.size,0,none⟩ (.slice (some ⟨w2.heap.size,0,none⟩) 1 1)).setCell ⟨w.heap.size,1,none⟩ (.int .i64 1)).setCell ⟨w.heap.size,2,none⟩ (.int .i64 10)).setCell ⟨w.heap.size,3,none⟩ (.int .i64 4)):=
    KU.sets [.slice (some ⟨w2.heap.size,0,none⟩) 1 1,.int .i64 1,.int .i64 10,.int .i64 4] 0 V (fun j hj=>by
     match j,hj with
     | 0,_=>exact ⟨_,(cR 0 HV0.out).trans rfl,by intro n h;cases h⟩
     | 1,_=>exact ⟨_,(cR 1 HV0.out).trans rfl,by intro n h;cases h⟩
     | 2,_=>exact ⟨_,(cR 2 HV0.out).trans rfl,by intro n h;cases h⟩
     | 3,_=>exact ⟨_,(cR 3 HV0.out).trans rfl,by intro n h;cases h⟩)
   have hFX:=HFX3.out.ku hku
   have hFY:=HFY3.out.ku hku
   refine ⟨rfl,rfl,fun _=>⟨w.heap.size + 1,0,rfl,by simp [World.setCell];exact (aE HV1.out).1,fun k v hk=>?_⟩,(fun e=>by cases e),hFX.fv,hFY.fv,hFX.few (sz_one (by decide +kernel) (by decide +kernel)),hFY.few (sz_one (by decide +kernel) (by decide +kernel))⟩
   rw [Nat.zero_add,Below.heap_cell4 V (w.heap.size + 1) k (by omega),cell_of_row _ _ k _ _ _ HV1.out]
   simpa [redB,blueB] using hk
theorem LrI.btp {w:World} {base p cap:Nat} {B:Option Addr} {Ts:List TT} (h:LrI w base p B cap Ts):BT w p 157:=⟨_,_,h.cell⟩
theorem LrI.geB {w:World} {base p cap:Nat} {B:Option Addr} {Ts:List TT} (h:LrI w base p B cap Ts) (hn : 0 < Ts.length):∀ k,blk B = some k -> base <= k:=fun k hk=>by
 obtain ⟨g,cap',hv,hg,_⟩:=h.row.form hn
 injection hv with e1
 subst e1
 have hk':some g = some k:=hk
 injection hk' with e2
 omega
end Go.Proofs.YtcjicjfbippmnaaGreat
