/- TalkBetter -/
import Derived.Test.YtcjicjfbippmnaaGreatMTBett15
set_option maxRecDepth 100000
set_option maxHeartbeats 32000000
namespace Go
section
variable {P:Program} {ops:Array Oper} {Q:Exit -> Act -> World -> Prop}
theorem ZN {id:Nat} {a:Act} {w:World} (n N:Nat) (hN:a.tmps.size = N) (hm:P.follows .mixedOrders = true) (hP1:Region.popB .any ops (n + 1) = true) (hP2:Region.popB .any ops.pop n = true) (hB:Region.backB ops.pop.pop = true) (hD:Region.dstB ops.pop.pop N = true) (S:World -> Prop) (T:World -> World -> Prop) (G:Nat -> Value -> World -> Prop)
  (hG:∀ j v w w',G j v w -> T w w' -> G j v w') (hS:S w.drew) (hs:Jl P ops.pop.pop (PopQ P ops.pop n (PopQ P ops (n + 1) Q)) a S T G ops.pop.pop.toList 0)
  (hend:∀ b u,b.tmps.size = N -> b.defers = a.defers -> S u -> (∀ j o,ops.pop.pop[j]? = some o -> G j (o.left b) u) -> (∀ k,Region.freeB ops.pop.pop k = true -> b.tmps.getD k undef = a.tmps.getD k undef) -> PopQ P ops.pop n (PopQ P ops (n + 1) Q) .normal b u):(Code.region id ops true).wp P Q a w:=by
 have hs1:=Region.popB_size hP1;have hs2:=Region.popB_size hP2;have hsz:ops.pop.pop.size = n:=by simp [hs1]
 refine wp_region_any hm ?_;have key:=ZV (P:=P) (ops:=ops.pop.pop) (Q:=PopQ P ops.pop n (PopQ P ops (n + 1) Q)) (a:=a) N hN hB hD S T G hG hs hend n (Array.replicate n false) a w.drew hS ⟨rfl,rfl,by simp [hs1],?_,fun _ _=>rfl,?_⟩ ?_ ?_
 ·have h2:=Va hP2 n (Array.replicate n false) a w.drew (by simp) (ClosedL.start' _) key;rw [show ((Array.replicate n false).push false) = Array.replicate (n + 1) false from Array.replicate_succ.symm] at h2;have h1:=Va hP1 (n + 1) (Array.replicate (n + 1) false) a w.drew (by simp) (ClosedL.start' _) h2;rw [hs1,show (Array.replicate (n + 1 + 1) false) = (Array.replicate (n + 1) false).push false from Array.replicate_succ];exact h1
 ·intro j o ho hl;rw [Array.getD_eq_getD_getElem?,Array.getElem?_replicate] at hl;split at hl <;> simp at hl
 ·intro j o ho hl;rw [Array.getD_eq_getD_getElem?,Array.getElem?_replicate] at hl;split at hl <;> simp at hl
 ·intro h0;unfold Region.ready;rw [hsz,h0];rfl
 ·simp only [Array.toList_replicate,List.countP_replicate];split <;> omega
end
end Go
namespace Go.Proofs.YtcjicjfbippmnaaGreat
open Go.RowKit Ear
set_option linter.unusedVariables false

theorem ZcX (x y:Fr) (p q:Rat) (w:World) (hx:Fv w x p) (hy:Fv w y q) (fx:Few x 90000) (fy:Few y 90000) (q0:q ≠ 0):Calls Tryz.prog 117 #[x.val,y.val] w fun e w'=>∃ r:Fr,e = .returned (.tuple #[r.val,.int .i64 0]) /\ Fq w' r (p * q⁻¹) /\ Below w.heap.size w w':=by
 have sp:=hx.sz fx (by decide);have sq:=hy.sz fy (by decide);obtain ⟨W,hW⟩:∃ W:World,W = ((w.alloc (.cells #[.bool x.neg,.slice x.A x.N.length x.c,.slice x.B x.D.length x.d] 28)).alloc (.cells #[.bool y.neg,.slice y.A y.N.length y.c,.slice y.B y.D.length y.d] 28)).alloc (.cells #[.bool false,.slice none 0 0,.slice none 0 0] 28):=⟨_,rfl⟩;have HB0:Hid (Below w.heap.size w W):=zH (by rw [hW];exact (al2 w _ _).alloc (by simp;omega) _);have HBX:Hid (Bt 28 W (w.heap.size + 1 + 1)):=zH (by rw [hW];have:=(Bt.new 28 ((w.alloc (.cells #[.bool x.neg,.slice x.A x.N.length x.c,.slice x.B x.D.length x.d] 28)).alloc (.cells #[.bool y.neg,.slice y.A y.N.length y.c,.slice y.B y.D.length y.d] 28)));simpa using this);have HC0:Hid (∀ u,Below W.heap.size W u -> u.cell? ⟨w.heap.size,0,none⟩ = some (.bool x.neg) /\ u.cell? ⟨w.heap.size,1,none⟩ = some (.slice x.A x.N.length x.c) /\ u.cell? ⟨w.heap.size,2,none⟩ = some (.slice x.B x.D.length x.d)):=zH (fun u hu=>by
  have hs:W.heap.size = w.heap.size + 3:=by rw [hW];simp
  rw [hu.cell (p:=⟨w.heap.size,0,none⟩) (by simp;omega),hu.cell (p:=⟨w.heap.size,1,none⟩) (by simp;omega),hu.cell (p:=⟨w.heap.size,2,none⟩) (by simp;omega),hW];simp [go_sem])
 have C1:=zH (XY y q W (hy.below HB0.out) ⟨tR fy.n (by decide),tR fy.d (by decide)⟩);have HX:=zH (hx.below HB0.out);have XF:Hid (Few x 390000):=zH ⟨tR fx.n (by decide),tR fx.d (by decide)⟩;clear hx hy fx fy;go_enter Tryz.func117,Tryz.ntmps117;go_wp2_with fail;rw [<- hW];clear hW;refine C1.out.mono ?_;clear C1;rintro e w1 ⟨r,rfl,hr,hb1⟩;obtain ⟨V,hV⟩:∃ V:World,V = w1.alloc (.cells #[.bool r.neg,.slice r.A r.N.length r.c,.slice r.B r.D.length r.d] 119):=⟨_,rfl⟩;have BV0:Hid (Below w1.heap.size w1 V):=zH (by rw [hV];exact bR.alloc nR _);have B1:=zH (hb1.trans (BV0.out.mono hb1.size));have HR:=zH (hr.below BV0.out);have HBXV:=zH (HBX.out.below B1.out);have HB0V:=zH (HB0.out.trans (B1.out.mono HB0.out.size));have HXV:=zH (HX.out.below B1.out);have HCV:Hid (∀ u,Below V.heap.size V u -> u.cell? ⟨w.heap.size,0,none⟩ = some (.bool x.neg) /\ u.cell? ⟨w.heap.size,1,none⟩ = some (.slice x.A x.N.length x.c) /\ u.cell? ⟨w.heap.size,2,none⟩ = some (.slice x.B x.D.length x.d) /\ u.cell? ⟨w1.heap.size,0,none⟩ = some (.bool r.neg) /\ u.cell? ⟨w1.heap.size,1,none⟩ = some (.slice r.A r.N.length r.c) /\ u.cell? ⟨w1.heap.size,2,none⟩ = some (.slice r.B r.D.length r.d)):=zH (fun u hu=>by
  obtain ⟨a0,a1,a2⟩:=HC0.out u (B1.out.trans (hu.mono B1.out.size));have hvs:w1.heap.size < V.heap.size:=by rw [hV];simp
  refine ⟨a0,a1,a2,?_,?_,?_⟩
  ·rw [hu.cell (p:=⟨w1.heap.size,0,none⟩) hvs,hV];simp [go_sem]
  ·rw [hu.cell (p:=⟨w1.heap.size,1,none⟩) hvs,hV];simp [go_sem]
  ·rw [hu.cell (p:=⟨w1.heap.size,2,none⟩) hvs,hV];simp [go_sem])
 obtain ⟨y0,y1,y2,y3,y4,y5⟩:=HCV.out V bR;have Z1:=zH (ZaX r q V HR.out false (zH (by simp [q0])));clear hr hb1 BV0 B1 HBX HB0 HC0 HX;go_wp2_with fail;rw [<- hV];clear hV;refine Z1.out.mono ?_;rintro e w2 ⟨rfl,hb2⟩;have X2:=zH (HBXV.out.below hb2);have B2:=zH (HB0V.out.trans (hb2.mono HB0V.out.size));have R2:=zH (HR.out.below hb2);have HX2:=zH (HXV.out.below hb2);have HC2:=zH (fun u (hu:Below w2.heap.size w2 u)=>HCV.out u (hb2.trans (hu.mono hb2.size)));clear Z1 HBXV HB0V HR HXV HCV y0 y1 y2 y3 y4 y5 hb2;go_wp2_with fail
 -- MARK
 have hi:=Zv q0;have si:Sz q⁻¹ 90000:=⟨by rw [hi.2.1];exact sq.den,by rw [hi.2.2];exact sq.num⟩;have sr:Sz (p * q⁻¹) 900000:=(sp.mul si).mono (by decide);clear hi sq;refine ZN 6 18 rfl (by kernel_rfl) (by kernel_rfl) (by kernel_rfl) (by kernel_rfl) (by kernel_rfl) (fun u=>Below w2.heap.size w2 u) (fun u u'=>Below u.heap.size u u') (Gl [isV (x.val),isNm (p),isV (r.val),isNm ((q)⁻¹),isNm (p * (q)⁻¹),isFq (p * (q)⁻¹)]) (Gl.keep (by
   intro p hp;simp only [List.mem_cons,List.not_mem_nil,or_false] at hp;rcases hp with rfl | rfl | rfl | rfl | rfl | rfl
   ·exact Keeps.isV _
   ·exact Keeps.isNm _
   ·exact Keeps.isV _
   ·exact Keeps.isNm _
   ·exact Keeps.isNm _
   ·exact Keeps.isFq _)) ?_ ?_ ?_
 ·exact (Below.refl _ w2).drew
 ·simp only [List.pop_toArray,List.dropLast,Jl];refine ⟨?_,?_,?_,?_,?_,?_,trivial⟩
  ·intro bb u su dp kp K hK;have e2:gT bb 2 = .pointer (some ⟨w.heap.size,0,none⟩):=kp 2 (by kernel_rfl);obtain ⟨cc0,cc1,cc2,cc3,cc4,cc5⟩:=HC2.out u su;go_simp;exact hK _ _ su bR rfl
  ·intro bb u su dp kp K hK;have e12:gT bb 12 = x.val:=dp 0 _ rfl (by kernel_rfl);go_simp;refine (XY x (p) u (HX2.out.below su) XF.out).mono ?_;rintro e w' ⟨r,rfl,hr,h4⟩;go_simp;exact hK _ _ (su.trans (h4.mono su.size)) h4 ⟨r,rfl,zH hr⟩
  ·intro bb u su dp kp K hK;have e6:gT bb 6 = .pointer (some ⟨w1.heap.size,0,none⟩):=kp 6 (by kernel_rfl);obtain ⟨cc0,cc1,cc2,cc3,cc4,cc5⟩:=HC2.out u su;go_simp;exact hK _ _ su bR rfl
  ·intro bb u su dp kp K hK;have e14:gT bb 14 = r.val:=dp 2 _ rfl (by kernel_rfl);go_simp;refine (Zgf r (q) u (R2.out.below su) q0).mono ?_;rintro e w' ⟨r,rfl,hr,h4⟩;go_simp;exact hK _ _ (su.trans (h4.mono su.size)) h4 ⟨r,rfl,zH hr⟩
  ·intro bb u su dp kp K hK;obtain ⟨r13,e13,D13⟩:∃ r:Fr,gT bb 13 = r.val /\ Hid (Nm u r (p)):=dp 1 _ rfl (by kernel_rfl);obtain ⟨r15,e15,D15⟩:∃ r:Fr,gT bb 15 = r.val /\ Hid (Nm u r ((q)⁻¹)):=dp 3 _ rfl (by kernel_rfl);go_simp;refine (ZcD r13 r15 (p) ((q)⁻¹) u D13.out D15.out (sp.mono (by decide)) (si.mono (by decide))).mono ?_;rintro e w' ⟨r,rfl,hr,h4⟩;go_simp;exact hK _ _ (su.trans (h4.mono su.size)) h4 ⟨r,rfl,zH hr⟩
  ·intro bb u su dp kp K hK;obtain ⟨r16,e16,D16⟩:∃ r:Fr,gT bb 16 = r.val /\ Hid (Nm u r (p * (q)⁻¹)):=dp 4 _ rfl (by kernel_rfl);go_simp;refine (Zi r16 (p * (q)⁻¹) u D16.out sr).mono ?_;rintro e w' ⟨r,rfl,hr,h4⟩;go_simp;exact hK _ _ (su.trans (h4.mono su.size)) h4 ⟨r,rfl,zH hr⟩
 ·intro bb u hN hdf su hG sm;obtain ⟨f,e17,hr⟩:∃ r:Fr,gT bb 17 = r.val /\ Hid (Fq u r (p * q⁻¹)):=hG 5 _ rfl;have e4:gT bb 4 = .pointer (some ⟨w.heap.size + 1 + 1,0,none⟩):=sm 4 (by kernel_rfl);have e5:gT bb 5 = .int .i64 0:=sm 5 (by kernel_rfl);have BX2:=zH (X2.out.below su);obtain ⟨c0,c1,c2,f0,f1,f2⟩:=BX2.out.facts;have HB2:=zH (B2.out.trans (su.mono B2.out.size));clear su hG sm;rw [J6 bb 18 hN];simp only [show List.range 18 = [0,1,2,3,4,5,6,7,8,9,10,11,12,13,14,15,16,17] from rfl,List.map_cons,List.map_nil,e4,e5,e17,hdf];clear e4 e5 e17 hN hdf;generalize gT bb 0 = z0,gT bb 1 = z1,gT bb 2 = z2,gT bb 3 = z3,gT bb 6 = z6,gT bb 7 = z7,gT bb 8 = z8,gT bb 9 = z9,gT bb 10 = z10,gT bb 11 = z11,gT bb 12 = z12,gT bb 13 = z13,gT bb 14 = z14,gT bb 15 = z15,gT bb 16 = z16;obtain ⟨rn,rA,rc,rN,rB,rd,rD⟩:=f;refine PopQ.last rfl rfl (fun K hK=>?_);go_simp;refine hK _ _ ?_;clear hK K;refine PopQ.last rfl rfl (fun K hK=>?_);go_simp;refine hK _ _ ?_;clear hK K;go_wp2_with fail;obtain ⟨g0,g1,g2⟩:=Z7 (.bool rn) (.slice rA rN.length rc) (.slice rB rD.length rd) c0 c1 c2;refine bodyPost_ret (v:=.tuple #[.agg #[.bool rn,.slice rA rN.length rc,.slice rB rD.length rd],.int .i64 0]) (by simp [results,Tryz.results117,go_sem,g0,g1,g2]) rfl ?_;exact ⟨⟨rn,rA,rc,rN,rB,rd,rD⟩,rfl,J2 hr.out BX2.out _ _ _,Ji HB2.out (by omega) _ _ _⟩
theorem XJ (x y:Fr) (p q:Rat) (w:World) (hx:Fv w x p) (hy:Fv w y q) (fx:Few x 90000) (fy:Few y 90000) (r:Int) (hr:Hid (Yu (p + -q) = r)):Calls Tryz.prog 20 #[x.val,y.val] w fun e w'=>e = .returned (.int .i64 r) /\ Below w.heap.size w w':=by
 have sp:=hx.sz fx (by decide);have sq:=hy.sz fy (by decide);obtain ⟨W,hW⟩:∃ W:World,W = (w.alloc (.cells #[.bool x.neg,.slice x.A x.N.length x.c,.slice x.B x.D.length x.d] 28)).alloc (.cells #[.bool y.neg,.slice y.A y.N.length y.c,.slice y.B y.D.length y.d] 28):=⟨_,rfl⟩;have HB0:Hid (Below w.heap.size w W):=zH (by rw [hW];exact al2 w _ _);have HC:Hid (∀ u,Below W.heap.size W u -> u.cell? ⟨w.heap.size,0,none⟩ = some (.bool x.neg) /\ u.cell? ⟨w.heap.size,1,none⟩ = some (.slice x.A x.N.length x.c) /\ u.cell? ⟨w.heap.size,2,none⟩ = some (.slice x.B x.D.length x.d) /\ u.cell? ⟨w.heap.size + 1,0,none⟩ = some (.bool y.neg) /\ u.cell? ⟨w.heap.size + 1,1,none⟩ = some (.slice y.A y.N.length y.c) /\ u.cell? ⟨w.heap.size + 1,2,none⟩ = some (.slice y.B y.D.length y.d)):=zH (fun u hu=>by
  have hs:W.heap.size = w.heap.size + 2:=by rw [hW];simp
  rw [hu.cell (p:=⟨w.heap.size,0,none⟩) (by simp;omega),hu.cell (p:=⟨w.heap.size,1,none⟩) (by simp;omega),hu.cell (p:=⟨w.heap.size,2,none⟩) (by simp;omega),hu.cell (p:=⟨w.heap.size + 1,0,none⟩) (by simp;omega),hu.cell (p:=⟨w.heap.size + 1,1,none⟩) (by simp;omega),hu.cell (p:=⟨w.heap.size + 1,2,none⟩) (by simp;omega),hW];simp [go_sem])
 have HX:=zH (hx.below HB0.out);have HY:=zH (hy.below HB0.out);have XF:Hid (Few x 390000):=zH ⟨tR fx.n (by decide),tR fx.d (by decide)⟩;have YF:Hid (Few y 390000):=zH ⟨tR fy.n (by decide),tR fy.d (by decide)⟩;clear hx hy fx fy;go_enter Tryz.func20,Tryz.ntmps20;go_wp2_with fail;rw [<- hW];clear hW;refine XD 12 rfl (by kernel_rfl) (by kernel_rfl) (by kernel_rfl) (fun u=>Below W.heap.size W u) (fun u u'=>Below u.heap.size u u') (Gl [isV (x.val),isNm (p),isV (y.val),isNm (q),isNm (-q),isNm (p + -q),isV (.int .i64 (Yu (p + -q))),isV (.int .i64 (Yu (p + -q)))]) (Gl.keep (by
   intro p hp;simp only [List.mem_cons,List.not_mem_nil,or_false] at hp;rcases hp with rfl | rfl | rfl | rfl | rfl | rfl | rfl | rfl
   ·exact Keeps.isV _
   ·exact Keeps.isNm _
   ·exact Keeps.isV _
   ·exact Keeps.isNm _
   ·exact Keeps.isNm _
   ·exact Keeps.isNm _
   ·exact Keeps.isV _
   ·exact Keeps.isV _)) ?_ ?_ ?_
 ·exact (Below.refl _ W).drew
 ·simp only [Jl];refine ⟨?_,?_,?_,?_,?_,?_,?_,?_,trivial⟩
  ·intro bb u su dp kp K hK;have e2:gT bb 2 = .pointer (some ⟨w.heap.size,0,none⟩):=kp 2 (by kernel_rfl);obtain ⟨cc0,cc1,cc2,cc3,cc4,cc5⟩:=HC.out u su;go_simp;exact hK _ _ su bR rfl
  ·intro bb u su dp kp K hK;have e5:gT bb 5 = x.val:=dp 0 _ rfl (by kernel_rfl);go_simp;refine (XY x (p) u (HX.out.below su) XF.out).mono ?_;rintro e w' ⟨r,rfl,hr,h4⟩;go_simp;exact hK _ _ (su.trans (h4.mono su.size)) h4 ⟨r,rfl,zH hr⟩
  ·intro bb u su dp kp K hK;have e3:gT bb 3 = .pointer (some ⟨w.heap.size + 1,0,none⟩):=kp 3 (by kernel_rfl);obtain ⟨cc0,cc1,cc2,cc3,cc4,cc5⟩:=HC.out u su;go_simp;exact hK _ _ su bR rfl
  ·intro bb u su dp kp K hK;have e7:gT bb 7 = y.val:=dp 2 _ rfl (by kernel_rfl);go_simp;refine (XY y (q) u (HY.out.below su) YF.out).mono ?_;rintro e w' ⟨r,rfl,hr,h4⟩;go_simp;exact hK _ _ (su.trans (h4.mono su.size)) h4 ⟨r,rfl,zH hr⟩
  ·intro bb u su dp kp K hK;obtain ⟨r8,e8,D8⟩:∃ r:Fr,gT bb 8 = r.val /\ Hid (Nm u r (q)):=dp 3 _ rfl (by kernel_rfl);go_simp;refine (Zds r8 (q) u D8.out).mono ?_;rintro e w' ⟨r,rfl,hr,h4⟩;go_simp;exact hK _ _ (su.trans (h4.mono su.size)) h4 ⟨r,rfl,zH hr⟩
  ·intro bb u su dp kp K hK;obtain ⟨r6,e6,D6⟩:∃ r:Fr,gT bb 6 = r.val /\ Hid (Nm u r (p)):=dp 1 _ rfl (by kernel_rfl);obtain ⟨r9,e9,D9⟩:∃ r:Fr,gT bb 9 = r.val /\ Hid (Nm u r (-q)):=dp 4 _ rfl (by kernel_rfl);go_simp;refine (ZcE r6 r9 (p) (-q) u D6.out D9.out (sp.mono (by decide)) (sq.neg.mono (by decide))).mono ?_;rintro e w' ⟨r,rfl,hr,h4⟩;go_simp;exact hK _ _ (su.trans (h4.mono su.size)) h4 ⟨r,rfl,zH hr⟩
  ·intro bb u su dp kp K hK;obtain ⟨r10,e10,D10⟩:∃ r:Fr,gT bb 10 = r.val /\ Hid (Nm u r (p + -q)):=dp 5 _ rfl (by kernel_rfl);go_simp;refine (ZaY r10 (p + -q) u D10.out (Yu (p + -q)) (zH rfl)).mono ?_;rintro e w' ⟨rfl,h4⟩;go_simp;exact hK _ _ (su.trans (h4.mono su.size)) h4 rfl
  ·intro bb u su dp kp K hK;have e11:gT bb 11 = .int .i64 (Yu (p + -q)):=dp 6 _ rfl (by kernel_rfl);go_simp;exact hK _ _ su bR rfl
 ·intro bb u hN hdf su hG sm;have e4:gT bb 4 = .int .i64 (Yu (p + -q)):=hG 7 _ rfl;have HB2:=zH (HB0.out.trans (su.mono HB0.out.size));clear su hG sm;rw [J6 bb 12 hN];simp only [show List.range 12 = [0,1,2,3,4,5,6,7,8,9,10,11] from rfl,List.map_cons,List.map_nil,e4,hdf];clear e4 hN hdf;generalize gT bb 0 = z0,gT bb 1 = z1,gT bb 2 = z2,gT bb 3 = z3,gT bb 5 = z5,gT bb 6 = z6,gT bb 7 = z7,gT bb 8 = z8,gT bb 9 = z9,gT bb 10 = z10,gT bb 11 = z11;go_wp2_with fail;go_ret;exact ⟨by rw [<- hr.out];rfl,HB2.out⟩
end Go.Proofs.YtcjicjfbippmnaaGreat
namespace Go
def Z5 (t:Array Value):List Bool -> Nat -> List Value -> List Value
 | [],_,_=>[]
 | _ :: _,_,[]=>[]
 | true :: ms,k,_ :: vs=>t.getD k undef :: Z5 t ms (k + 1) vs
 | false :: ms,k,v :: vs=>v :: Z5 t ms (k + 1) vs
theorem UX (t:Array Value):∀ (m:List Bool) (k:Nat) (l:List Value),l.length = m.length -> (Z5 t m k l).length = m.length:=by
 intro m
 induction m with
 | nil=>intro k l _;rfl
 | cons b m ih=>
  intro k l h;cases l with
  | nil=>simp at h
  | cons v l=>cases b <;> simp [Z5,ih (k + 1) l (by simpa using h)]
theorem ZgT (t:Array Value):∀ (m:List Bool) (k:Nat) (l:List Value),l.length = m.length -> ∀ j,j < m.length -> (Z5 t m k l)[j]?.getD undef = if m[j]?.getD true then t.getD (k + j) undef else l[j]?.getD undef:=by
 intro m
 induction m with
 | nil=>intro k l _ j hj;simp at hj
 | cons b m ih=>
  intro k l h j hj;cases l with
  | nil=>simp at h
  | cons v l=>
   cases j with
   | zero=>cases b <;> simp [Z5]
   | succ j=>
    have:=ih (k + 1) l (by simpa using h) j (by simpa using hj);rw [show k + 1 + j = k + (j + 1) by omega] at this;cases b <;> simpa [Z5] using this
def Region.maskB (ops:Array Oper) (mask:List Bool):Bool:=(List.range mask.length).all fun k=>mask[k]?.getD true || Region.freeB ops k
theorem JD {ops:Array Oper} (bb a:Act) (mask:List Bool) (l:List Value) (hl:a.tmps = l.toArray) (hN:bb.tmps.size = mask.length) (ha:l.length = mask.length) (hm:Region.maskB ops mask = true) (hd:bb.defers = a.defers)
  (hs:∀ k,Region.freeB ops k = true -> bb.tmps.getD k undef = a.tmps.getD k undef):bb = { tmps:=(Z5 bb.tmps mask 0 l).toArray,defers:=a.defers }:=by
 obtain ⟨t,d⟩:=bb;simp only at *
 congr 1;apply Array.ext
 ·simp [UX _ _ _ _ ha,hN]
 ·intro i h1 h2;have hi:i < mask.length:=by rw [<- hN];exact h1
  have h3:=ZgT t mask 0 l ha i hi;have h4:(Z5 t mask 0 l).toArray[i] = (Z5 t mask 0 l)[i]?.getD undef:=by
   rw [List.getElem?_eq_getElem (by rw [UX _ _ _ _ ha];exact hi)];rfl
  rw [h4,h3];have h5:t[i] = t.getD i undef:=by rw [Array.getD_eq_getD_getElem?,Array.getElem?_eq_getElem h1];rfl
  rw [Nat.zero_add];refine h5.trans ?_;by_cases hb:mask[i]?.getD true = true
  ·rw [if_pos hb]
  ·rw [if_neg hb];have:=List.all_eq_true.1 hm i (List.mem_range.2 hi);simp only [Bool.or_eq_true] at this;rcases this with h | h
   ·exact absurd h hb
   ·rw [hs i h,hl,Array.getD_eq_getD_getElem?];simp
end Go
namespace Go.Proofs.YtcjicjfbippmnaaGreat
open Go.RowKit Ear

def Fb (w:World) (k:Nat) (x:Fr):Prop:=w.heap[k]? = some (.cells #[.bool x.neg,.slice x.A x.N.length x.c,.slice x.B x.D.length x.d] 28 (0,0))
theorem Fb.lt {w:World} {k:Nat} {x:Fr} (h:Fb w k x):k < w.heap.size:=(aE h).1
theorem Fb.below {w w':World} {k:Nat} {x:Fr} (h:Fb w k x) (hb:Below w.heap.size w w'):Fb w' k x:=(hb.block k h.lt).trans h
theorem Fb.facts {w:World} {k:Nat} {x:Fr} (h:Fb w k x):w.cell? ⟨k,0,none⟩ = some (.bool x.neg) /\ w.cell? ⟨k,1,none⟩ = some (.slice x.A x.N.length x.c) /\ w.cell? ⟨k,2,none⟩ = some (.slice x.B x.D.length x.d) /\ w.frozen? ⟨k,0,none⟩ = false /\ w.frozen? ⟨k,1,none⟩ = false /\ w.frozen? ⟨k,2,none⟩ = false:=
 ⟨(Zz h).1,(Zz h).2.1,(Zz h).2.2,Jm h 0,Jm h 1,Jm h 2⟩
theorem Fb.new (w:World) (x:Fr):Fb (w.alloc (.cells #[.bool x.neg,.slice x.A x.N.length x.c,.slice x.B x.D.length x.d] 28)) w.heap.size x:=heap_alloc_new w _
theorem J5 {w:World} {k b:Nat} (hne:b ≠ k) (v0 v1 v2:Value):(((w.setCell ⟨k,0,none⟩ v0).setCell ⟨k,1,none⟩ v1).setCell ⟨k,2,none⟩ v2).heap[b]? = w.heap[b]?:=
 (Below.heap_setCell _ ⟨k,2,none⟩ v2 b hne).trans ((Below.heap_setCell _ ⟨k,1,none⟩ v1 b hne).trans (Below.heap_setCell _ ⟨k,0,none⟩ v0 b hne))
theorem Fb.rowed {w:World} {r:Fr} {j k:Nat} (h:Fb w j r) (hne:j ≠ k) (v0 v1 v2:Value):Fb (((w.setCell ⟨k,0,none⟩ v0).setCell ⟨k,1,none⟩ v1).setCell ⟨k,2,none⟩ v2) j r:=(J5 hne v0 v1 v2).trans h
theorem Bt.rowed {t:TypeId} {w:World} {j k:Nat} (h:Bt t w j) (hne:j ≠ k) (v0 v1 v2:Value):Bt t (((w.setCell ⟨k,0,none⟩ v0).setCell ⟨k,1,none⟩ v1).setCell ⟨k,2,none⟩ v2) j:=(J5 hne v0 v1 v2).trans h
theorem Fb.put {w:World} {x r:Fr} {k:Nat} (h:Fb w k x):Fb (((w.setCell ⟨k,0,none⟩ (.bool r.neg)).setCell ⟨k,1,none⟩ (.slice r.A r.N.length r.c)).setCell ⟨k,2,none⟩ (.slice r.B r.D.length r.d)) k r:=ZaR h _ _ _
theorem Bt.put {w:World} {r:Fr} {k:Nat} (h:Bt 28 w k):Fb (((w.setCell ⟨k,0,none⟩ (.bool r.neg)).setCell ⟨k,1,none⟩ (.slice r.A r.N.length r.c)).setCell ⟨k,2,none⟩ (.slice r.B r.D.length r.d)) k r:=ZaR h _ _ _
theorem Zdh {w:World} {x:Fr} {k c:Nat} {A:Option Addr} {l:List Int} (h:Dg w A c l) (hb:Fb w k x) (v0 v1 v2:Value):Dg (((w.setCell ⟨k,0,none⟩ v0).setCell ⟨k,1,none⟩ v1).setCell ⟨k,2,none⟩ v2) A c l:=
 ⟨h.lies.apartRow hb (by simp) (fun b hne _=>J5 hne v0 v1 v2),h.dig,h.cap,h.nil⟩
theorem Fq.rowed {w:World} {x r:Fr} {q:Rat} {k:Nat} (h:Fq w r q) (hb:Fb w k x) (v0 v1 v2:Value):Fq (((w.setCell ⟨k,0,none⟩ v0).setCell ⟨k,1,none⟩ v1).setCell ⟨k,2,none⟩ v2) r q:=
 ⟨⟨Zdh h.ok.n hb v0 v1 v2,Zdh h.ok.d hb v0 v1 v2⟩,h.neg,h.num,h.dn⟩
def J1:Fr:=⟨false,none,0,[],none,0,[]⟩
theorem Fq.zero (w:World):Fq w J1 ((0:Int):Rat):=⟨⟨Dg.none w,Dg.none w⟩,by decide,by rw [show qn ((0:Int):Rat) = 0 by decide,JC];rfl,by decide⟩
theorem Bt.zero {w:World} {k:Nat} (h:Bt 28 w k):Fb w k J1:=h
def isTq (q:Rat):Value -> World -> Prop:=fun x w=>∃ r:Fr,x = .tuple #[r.val,.int .i64 0] /\ Hid (Fq w r q)
theorem Keeps.isTq (q:Rat):Keeps (isTq q):=fun _ _ _ ⟨r,h1,h2⟩ hb=>⟨r,h1,zH (h2.out.below hb)⟩
theorem Zbl {w:World} {A:Option Addr} {l:List Int} {k:Nat} {x:Fr} (h:Lies w A (ics l)) (hb:Fb w k x) (v0 v1 v2:Value):Lies (((w.setCell ⟨k,0,none⟩ v0).setCell ⟨k,1,none⟩ v1).setCell ⟨k,2,none⟩ v2) A (ics l):=fun h0=>by
 obtain ⟨b,off,e,hlt,hc⟩:=h h0;have hne:b ≠ k:=by
  rintro rfl;have hl : 0 < l.length:=by simpa using h0
  have:=hc 0 (.int .i64 l[0]) (by simp [gE hl]);rw [cell_of_row w b _ _ _ _ hb] at this;rcases (show off + 0 = 0 ∨ off + 0 = 1 ∨ off + 0 = 2 ∨ 3 <= off + 0 by omega) with e | e | e | e
  ·rw [e] at this;simp at this
  ·rw [e] at this;simp at this
  ·rw [e] at this;simp at this
  ·rw [Array.getElem?_eq_none (by simpa using e)] at this;cases this
 exact ⟨b,off,e,by simpa using hlt,fun j u hu=>by
  rw [<- hc j u hu];exact World.cell?_of_block (a:=⟨b,off + j,none⟩) (J5 hne v0 v1 v2)⟩
end Go.Proofs.YtcjicjfbippmnaaGreat
