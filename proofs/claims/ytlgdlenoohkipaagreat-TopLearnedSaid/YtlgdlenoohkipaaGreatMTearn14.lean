/- TopLearned -/
import Derived.Test.YtlgdlenoohkipaaGreatMTearn13
set_option maxRecDepth 100000
set_option maxHeartbeats 32000000
namespace Go
section
variable {P:Program} {ops:Array Oper} {Q:Exit -> Act -> World -> Prop}
theorem Zs {id:Nat} {a:Act} {w:World} (n N:Nat) (hN:a.tmps.size = N) (hm:P.follows .mixedOrders = true) (hP1:Region.popB .any ops (n + 1) = true) (hP2:Region.popB .any ops.pop n = true) (hB:Region.backB ops.pop.pop = true) (hD:Region.dstB ops.pop.pop N = true) (S:World -> Prop) (T:World -> World -> Prop) (G:Nat -> Value -> World -> Prop)
  (hG:∀ j v w w',G j v w -> T w w' -> G j v w') (hS:S w.drew) (hs:Jj P ops.pop.pop (PopQ P ops.pop n (PopQ P ops (n + 1) Q)) a S T G ops.pop.pop.toList 0)
  (hend:∀ b u,b.tmps.size = N -> b.defers = a.defers -> S u -> (∀ j o,ops.pop.pop[j]? = some o -> G j (o.left b) u) -> (∀ k,Region.freeB ops.pop.pop k = true -> b.tmps.getD k undef = a.tmps.getD k undef) -> PopQ P ops.pop n (PopQ P ops (n + 1) Q) .normal b u):(Code.region id ops true).wp P Q a w:=by
 have hs1:=Region.popB_size hP1;have hs2:=Region.popB_size hP2;have hsz:ops.pop.pop.size = n:=by simp [hs1]
 refine wp_region_any hm ?_;have key:=Zz (P:=P) (ops:=ops.pop.pop) (Q:=PopQ P ops.pop n (PopQ P ops (n + 1) Q)) (a:=a) N hN hB hD S T G hG hs hend n (Array.replicate n false) a w.drew hS ⟨rfl,rfl,by simp [hs1],?_,fun _ _=>rfl,?_⟩ ?_ ?_
 ·have h2:=ZM hP2 n (Array.replicate n false) a w.drew (by simp) (ClosedL.start' _) key;rw [show ((Array.replicate n false).push false) = Array.replicate (n + 1) false from Array.replicate_succ.symm] at h2;have h1:=ZM hP1 (n + 1) (Array.replicate (n + 1) false) a w.drew (by simp) (ClosedL.start' _) h2;rw [hs1,show (Array.replicate (n + 1 + 1) false) = (Array.replicate (n + 1) false).push false from Array.replicate_succ];exact h1
 ·intro j o ho hl;rw [Array.getD_eq_getD_getElem?,Array.getElem?_replicate] at hl;split at hl <;> simp at hl
 ·intro j o ho hl;rw [Array.getD_eq_getD_getElem?,Array.getElem?_replicate] at hl;split at hl <;> simp at hl
 ·intro h0;unfold Region.ready;rw [hsz,h0];rfl
 ·simp only [Array.toList_replicate,List.countP_replicate];split <;> omega
end
end Go
namespace Go.Proofs.YtlgdlenoohkipaaGreat
open Go.RowKit Ear
set_option linter.unusedVariables false

theorem ZcB (x y:Fr) (p q:Rat) (w:World) (hx:Fv w x p) (hy:Fv w y q) (fx:Few x 90000) (fy:Few y 90000) (q0:q ≠ 0):Calls Tryz.prog 110 #[x.val,y.val] w fun e w'=>∃ r:Fr,e = .returned (.tuple #[r.val,.int .i64 0]) /\ Fq w' r (p * q⁻¹) /\ Below w.heap.size w w':=by
 have sp:=hx.sz fx (by decide);have sq:=hy.sz fy (by decide);obtain ⟨W,hW⟩:∃ W:World,W = ((w.alloc (.cells #[.bool x.neg,.slice x.A x.N.length x.c,.slice x.B x.D.length x.d] 31)).alloc (.cells #[.bool y.neg,.slice y.A y.N.length y.c,.slice y.B y.D.length y.d] 31)).alloc (.cells #[.bool false,.slice none 0 0,.slice none 0 0] 31):=⟨_,rfl⟩;have HB0:Hid (Below w.heap.size w W):=zH (by rw [hW];exact (al2 w _ _).alloc (by simp;omega) _);have HBX:Hid (Bt 31 W (w.heap.size + 1 + 1)):=zH (by rw [hW];have:=(Bt.new 31 ((w.alloc (.cells #[.bool x.neg,.slice x.A x.N.length x.c,.slice x.B x.D.length x.d] 31)).alloc (.cells #[.bool y.neg,.slice y.A y.N.length y.c,.slice y.B y.D.length y.d] 31)));simpa using this);have HC0:Hid (∀ u,Below W.heap.size W u -> u.cell? ⟨w.heap.size,0,none⟩ = some (.bool x.neg) /\ u.cell? ⟨w.heap.size,1,none⟩ = some (.slice x.A x.N.length x.c) /\ u.cell? ⟨w.heap.size,2,none⟩ = some (.slice x.B x.D.length x.d)):=zH (fun u hu=>by
  have hs:W.heap.size = w.heap.size + 3:=by rw [hW];simp
  rw [hu.cell (p:=⟨w.heap.size,0,none⟩) (by simp;omega),hu.cell (p:=⟨w.heap.size,1,none⟩) (by simp;omega),hu.cell (p:=⟨w.heap.size,2,none⟩) (by simp;omega),hW];simp [go_sem])
 have C1:=zH (Xy y q W (hy.below HB0.out) ⟨tR fy.n (by decide),tR fy.d (by decide)⟩);have HX:=zH (hx.below HB0.out);have XF:Hid (Few x 390000):=zH ⟨tR fx.n (by decide),tR fx.d (by decide)⟩;clear hx hy fx fy;go_enter Tryz.func110,Tryz.ntmps110;go_wp2_with fail;rw [<- hW];clear hW;refine C1.out.mono ?_;clear C1;rintro e w1 ⟨r,rfl,hr,hb1⟩;obtain ⟨V,hV⟩:∃ V:World,V = w1.alloc (.cells #[.bool r.neg,.slice r.A r.N.length r.c,.slice r.B r.D.length r.d] 196):=⟨_,rfl⟩;have BV0:Hid (Below w1.heap.size w1 V):=zH (by rw [hV];exact bR.alloc nR _);have B1:=zH (hb1.trans (BV0.out.mono hb1.size));have HR:=zH (hr.below BV0.out);have HBXV:=zH (HBX.out.below B1.out);have HB0V:=zH (HB0.out.trans (B1.out.mono HB0.out.size));have HXV:=zH (HX.out.below B1.out);have HCV:Hid (∀ u,Below V.heap.size V u -> u.cell? ⟨w.heap.size,0,none⟩ = some (.bool x.neg) /\ u.cell? ⟨w.heap.size,1,none⟩ = some (.slice x.A x.N.length x.c) /\ u.cell? ⟨w.heap.size,2,none⟩ = some (.slice x.B x.D.length x.d) /\ u.cell? ⟨w1.heap.size,0,none⟩ = some (.bool r.neg) /\ u.cell? ⟨w1.heap.size,1,none⟩ = some (.slice r.A r.N.length r.c) /\ u.cell? ⟨w1.heap.size,2,none⟩ = some (.slice r.B r.D.length r.d)):=zH (fun u hu=>by
  obtain ⟨a0,a1,a2⟩:=HC0.out u (B1.out.trans (hu.mono B1.out.size));have hvs:w1.heap.size < V.heap.size:=by rw [hV];simp
  refine ⟨a0,a1,a2,?_,?_,?_⟩
  ·rw [hu.cell (p:=⟨w1.heap.size,0,none⟩) hvs,hV];simp [go_sem]
  ·rw [hu.cell (p:=⟨w1.heap.size,1,none⟩) hvs,hV];simp [go_sem]
  ·rw [hu.cell (p:=⟨w1.heap.size,2,none⟩) hvs,hV];simp [go_sem])
 obtain ⟨y0,y1,y2,y3,y4,y5⟩:=HCV.out V bR;have Z1:=zH (ZaF r q V HR.out false (zH (by simp [q0])));clear hr hb1 BV0 B1 HBX HB0 HC0 HX;go_wp2_with fail;rw [<- hV];clear hV;refine Z1.out.mono ?_;rintro e w2 ⟨rfl,hb2⟩;have X2:=zH (HBXV.out.below hb2);have B2:=zH (HB0V.out.trans (hb2.mono HB0V.out.size));have R2:=zH (HR.out.below hb2);have HX2:=zH (HXV.out.below hb2);have HC2:=zH (fun u (hu:Below w2.heap.size w2 u)=>HCV.out u (hb2.trans (hu.mono hb2.size)));clear Z1 HBXV HB0V HR HXV HCV y0 y1 y2 y3 y4 y5 hb2;go_wp2_with fail
 -- MARK
 have hi:=Vi q0;have si:Sz q⁻¹ 90000:=⟨by rw [hi.2.1];exact sq.den,by rw [hi.2.2];exact sq.num⟩;have sr:Sz (p * q⁻¹) 900000:=(sp.mul si).mono (by decide);clear hi sq;refine Zs 6 18 rfl (by kernel_rfl) (by kernel_rfl) (by kernel_rfl) (by kernel_rfl) (by kernel_rfl) (fun u=>Below w2.heap.size w2 u) (fun u u'=>Below u.heap.size u u') (Gl [isV (x.val),isNm (p),isV (r.val),isNm ((q)⁻¹),isNm (p * (q)⁻¹),isFq (p * (q)⁻¹)]) (Gl.keepL ⟨Keeps.isV _,Keeps.isNm _,Keeps.isV _,Keeps.isNm _,Keeps.isNm _,Keeps.isFq _,trivial⟩) ?_ ?_ ?_
 ·exact (Below.refl _ w2).drew
 ·simp only [List.pop_toArray,List.dropLast,Jj];refine ⟨?_,?_,?_,?_,?_,?_,trivial⟩
  ·intro bb u su dp kp K hK;have e2:gT bb 2 = .pointer (some ⟨w.heap.size,0,none⟩):=kp 2 (by kernel_rfl);obtain ⟨cc0,cc1,cc2,cc3,cc4,cc5⟩:=HC2.out u su;go_simp;exact hK _ _ su bR rfl
  ·intro bb u su dp kp K hK;have e12:gT bb 12 = x.val:=dp 0 _ rfl (by kernel_rfl);go_simp;refine (Xy x (p) u (HX2.out.below su) XF.out).mono ?_;rintro e w' ⟨r,rfl,hr,h4⟩;go_simp;exact hK _ _ (su.trans (h4.mono su.size)) h4 ⟨r,rfl,zH hr⟩
  ·intro bb u su dp kp K hK;have e6:gT bb 6 = .pointer (some ⟨w1.heap.size,0,none⟩):=kp 6 (by kernel_rfl);obtain ⟨cc0,cc1,cc2,cc3,cc4,cc5⟩:=HC2.out u su;go_simp;exact hK _ _ su bR rfl
  ·intro bb u su dp kp K hK;have e14:gT bb 14 = r.val:=dp 2 _ rfl (by kernel_rfl);go_simp;refine (ZfO r (q) u (R2.out.below su) q0).mono ?_;rintro e w' ⟨r,rfl,hr,h4⟩;go_simp;exact hK _ _ (su.trans (h4.mono su.size)) h4 ⟨r,rfl,zH hr⟩
  ·intro bb u su dp kp K hK;obtain ⟨r13,e13,D13⟩:∃ r:Fr,gT bb 13 = r.val /\ Hid (Nm u r (p)):=dp 1 _ rfl (by kernel_rfl);obtain ⟨r15,e15,D15⟩:∃ r:Fr,gT bb 15 = r.val /\ Hid (Nm u r ((q)⁻¹)):=dp 3 _ rfl (by kernel_rfl);go_simp;refine (Zck r13 r15 (p) ((q)⁻¹) u D13.out D15.out (sp.mono (by decide)) (si.mono (by decide))).mono ?_;rintro e w' ⟨r,rfl,hr,h4⟩;go_simp;exact hK _ _ (su.trans (h4.mono su.size)) h4 ⟨r,rfl,zH hr⟩
  ·intro bb u su dp kp K hK;obtain ⟨r16,e16,D16⟩:∃ r:Fr,gT bb 16 = r.val /\ Hid (Nm u r (p * (q)⁻¹)):=dp 4 _ rfl (by kernel_rfl);go_simp;refine (Y3 r16 (p * (q)⁻¹) u D16.out sr).mono ?_;rintro e w' ⟨r,rfl,hr,h4⟩;go_simp;exact hK _ _ (su.trans (h4.mono su.size)) h4 ⟨r,rfl,zH hr⟩
 ·intro bb u hN hdf su hG sm;obtain ⟨f,e17,hr⟩:∃ r:Fr,gT bb 17 = r.val /\ Hid (Fq u r (p * q⁻¹)):=hG 5 _ rfl;have e4:gT bb 4 = .pointer (some ⟨w.heap.size + 1 + 1,0,none⟩):=sm 4 (by kernel_rfl);have e5:gT bb 5 = .int .i64 0:=sm 5 (by kernel_rfl);have BX2:=zH (X2.out.below su);obtain ⟨c0,c1,c2,f0,f1,f2⟩:=BX2.out.facts;have HB2:=zH (B2.out.trans (su.mono B2.out.size));clear su hG sm;rw [JM bb 18 hN];simp only [show List.range 18 = [0,1,2,3,4,5,6,7,8,9,10,11,12,13,14,15,16,17] from rfl,List.map_cons,List.map_nil,e4,e5,e17,hdf];clear e4 e5 e17 hN hdf;generalize bb.tmps.getD 0 undef = z0,bb.tmps.getD 1 undef = z1,bb.tmps.getD 2 undef = z2,bb.tmps.getD 3 undef = z3,bb.tmps.getD 6 undef = z6,bb.tmps.getD 7 undef = z7,bb.tmps.getD 8 undef = z8,bb.tmps.getD 9 undef = z9,bb.tmps.getD 10 undef = z10,bb.tmps.getD 11 undef = z11,bb.tmps.getD 12 undef = z12,bb.tmps.getD 13 undef = z13,bb.tmps.getD 14 undef = z14,bb.tmps.getD 15 undef = z15,bb.tmps.getD 16 undef = z16;obtain ⟨rn,rA,rc,rN,rB,rd,rD⟩:=f;refine PopQ.last rfl rfl (fun K hK=>?_);go_simp;refine hK _ _ ?_;clear hK K;refine PopQ.last rfl rfl (fun K hK=>?_);go_simp;refine hK _ _ ?_;clear hK K;go_wp2_with fail;obtain ⟨g0,g1,g2⟩:=Zf (.bool rn) (.slice rA rN.length rc) (.slice rB rD.length rd) c0 c1 c2;refine bodyPost_ret (v:=.tuple #[.agg #[.bool rn,.slice rA rN.length rc,.slice rB rD.length rd],.int .i64 0]) (by simp [results,Tryz.results110,go_sem,g0,g1,g2]) rfl ?_;exact ⟨⟨rn,rA,rc,rN,rB,rd,rD⟩,rfl,J2 hr.out BX2.out _ _ _,Jf HB2.out (by omega) _ _ _⟩
theorem Q3 (x y:Fr) (p q:Rat) (w:World) (hx:Fv w x p) (hy:Fv w y q) (fx:Few x 90000) (fy:Few y 90000) (r:Int) (hr:Hid (Yu (p + -q) = r)):Calls Tryz.prog 116 #[x.val,y.val] w fun e w'=>e = .returned (.int .i64 r) /\ Below w.heap.size w w':=by
 have sp:=hx.sz fx (by decide);have sq:=hy.sz fy (by decide);obtain ⟨W,hW⟩:∃ W:World,W = (w.alloc (.cells #[.bool x.neg,.slice x.A x.N.length x.c,.slice x.B x.D.length x.d] 31)).alloc (.cells #[.bool y.neg,.slice y.A y.N.length y.c,.slice y.B y.D.length y.d] 31):=⟨_,rfl⟩;have HB0:Hid (Below w.heap.size w W):=zH (by rw [hW];exact al2 w _ _);have HC:Hid (∀ u,Below W.heap.size W u -> u.cell? ⟨w.heap.size,0,none⟩ = some (.bool x.neg) /\ u.cell? ⟨w.heap.size,1,none⟩ = some (.slice x.A x.N.length x.c) /\ u.cell? ⟨w.heap.size,2,none⟩ = some (.slice x.B x.D.length x.d) /\ u.cell? ⟨w.heap.size + 1,0,none⟩ = some (.bool y.neg) /\ u.cell? ⟨w.heap.size + 1,1,none⟩ = some (.slice y.A y.N.length y.c) /\ u.cell? ⟨w.heap.size + 1,2,none⟩ = some (.slice y.B y.D.length y.d)):=zH (fun u hu=>by
  have hs:W.heap.size = w.heap.size + 2:=by rw [hW];simp
  rw [hu.cell (p:=⟨w.heap.size,0,none⟩) (by simp;omega),hu.cell (p:=⟨w.heap.size,1,none⟩) (by simp;omega),hu.cell (p:=⟨w.heap.size,2,none⟩) (by simp;omega),hu.cell (p:=⟨w.heap.size + 1,0,none⟩) (by simp;omega),hu.cell (p:=⟨w.heap.size + 1,1,none⟩) (by simp;omega),hu.cell (p:=⟨w.heap.size + 1,2,none⟩) (by simp;omega),hW];simp [go_sem])
 have HX:=zH (hx.below HB0.out);have HY:=zH (hy.below HB0.out);have XF:Hid (Few x 390000):=zH ⟨tR fx.n (by decide),tR fx.d (by decide)⟩;have YF:Hid (Few y 390000):=zH ⟨tR fy.n (by decide),tR fy.d (by decide)⟩;clear hx hy fx fy;go_enter Tryz.func116,Tryz.ntmps116;go_wp2_with fail;rw [<- hW];clear hW;refine Jq 12 rfl (by kernel_rfl) (by kernel_rfl) (by kernel_rfl) (fun u=>Below W.heap.size W u) (fun u u'=>Below u.heap.size u u') (Gl [isV (x.val),isNm (p),isV (y.val),isNm (q),isNm (-q),isNm (p + -q),isV (.int .i64 (Yu (p + -q))),isV (.int .i64 (Yu (p + -q)))]) (Gl.keepL ⟨Keeps.isV _,Keeps.isNm _,Keeps.isV _,Keeps.isNm _,Keeps.isNm _,Keeps.isNm _,Keeps.isV _,Keeps.isV _,trivial⟩) ?_ ?_ ?_
 ·exact (Below.refl _ W).drew
 ·simp only [Jj];refine ⟨?_,?_,?_,?_,?_,?_,?_,?_,trivial⟩
  ·intro bb u su dp kp K hK;have e2:gT bb 2 = .pointer (some ⟨w.heap.size,0,none⟩):=kp 2 (by kernel_rfl);obtain ⟨cc0,cc1,cc2,cc3,cc4,cc5⟩:=HC.out u su;go_simp;exact hK _ _ su bR rfl
  ·intro bb u su dp kp K hK;have e5:gT bb 5 = x.val:=dp 0 _ rfl (by kernel_rfl);go_simp;refine (Xy x (p) u (HX.out.below su) XF.out).mono ?_;rintro e w' ⟨r,rfl,hr,h4⟩;go_simp;exact hK _ _ (su.trans (h4.mono su.size)) h4 ⟨r,rfl,zH hr⟩
  ·intro bb u su dp kp K hK;have e3:gT bb 3 = .pointer (some ⟨w.heap.size + 1,0,none⟩):=kp 3 (by kernel_rfl);obtain ⟨cc0,cc1,cc2,cc3,cc4,cc5⟩:=HC.out u su;go_simp;exact hK _ _ su bR rfl
  ·intro bb u su dp kp K hK;have e7:gT bb 7 = y.val:=dp 2 _ rfl (by kernel_rfl);go_simp;refine (Xy y (q) u (HY.out.below su) YF.out).mono ?_;rintro e w' ⟨r,rfl,hr,h4⟩;go_simp;exact hK _ _ (su.trans (h4.mono su.size)) h4 ⟨r,rfl,zH hr⟩
  ·intro bb u su dp kp K hK;obtain ⟨r8,e8,D8⟩:∃ r:Fr,gT bb 8 = r.val /\ Hid (Nm u r (q)):=dp 3 _ rfl (by kernel_rfl);go_simp;refine (Ql r8 (q) u D8.out).mono ?_;rintro e w' ⟨r,rfl,hr,h4⟩;go_simp;exact hK _ _ (su.trans (h4.mono su.size)) h4 ⟨r,rfl,zH hr⟩
  ·intro bb u su dp kp K hK;obtain ⟨r6,e6,D6⟩:∃ r:Fr,gT bb 6 = r.val /\ Hid (Nm u r (p)):=dp 1 _ rfl (by kernel_rfl);obtain ⟨r9,e9,D9⟩:∃ r:Fr,gT bb 9 = r.val /\ Hid (Nm u r (-q)):=dp 4 _ rfl (by kernel_rfl);go_simp;refine (QQ r6 r9 (p) (-q) u D6.out D9.out (sp.mono (by decide)) (sq.neg.mono (by decide))).mono ?_;rintro e w' ⟨r,rfl,hr,h4⟩;go_simp;exact hK _ _ (su.trans (h4.mono su.size)) h4 ⟨r,rfl,zH hr⟩
  ·intro bb u su dp kp K hK;obtain ⟨r10,e10,D10⟩:∃ r:Fr,gT bb 10 = r.val /\ Hid (Nm u r (p + -q)):=dp 5 _ rfl (by kernel_rfl);go_simp;refine (ZaG r10 (p + -q) u D10.out (Yu (p + -q)) (zH rfl)).mono ?_;rintro e w' ⟨rfl,h4⟩;go_simp;exact hK _ _ (su.trans (h4.mono su.size)) h4 rfl
  ·intro bb u su dp kp K hK;have e11:gT bb 11 = .int .i64 (Yu (p + -q)):=dp 6 _ rfl (by kernel_rfl);go_simp;exact hK _ _ su bR rfl
 ·intro bb u hN hdf su hG sm;have e4:gT bb 4 = .int .i64 (Yu (p + -q)):=hG 7 _ rfl;have HB2:=zH (HB0.out.trans (su.mono HB0.out.size));clear su hG sm;rw [JM bb 12 hN];simp only [show List.range 12 = [0,1,2,3,4,5,6,7,8,9,10,11] from rfl,List.map_cons,List.map_nil,e4,hdf];clear e4 hN hdf;generalize bb.tmps.getD 0 undef = z0,bb.tmps.getD 1 undef = z1,bb.tmps.getD 2 undef = z2,bb.tmps.getD 3 undef = z3,bb.tmps.getD 5 undef = z5,bb.tmps.getD 6 undef = z6,bb.tmps.getD 7 undef = z7,bb.tmps.getD 8 undef = z8,bb.tmps.getD 9 undef = z9,bb.tmps.getD 10 undef = z10,bb.tmps.getD 11 undef = z11;go_wp2_with fail;go_ret;exact ⟨by rw [<- hr.out];rfl,HB2.out⟩
end Go.Proofs.YtlgdlenoohkipaaGreat
namespace Ear

def Zp (x y:Int):Int:=if x < y then -1 else if y < x then 1 else 0
def J8:List Int -> List Int -> Int
 | [],[]=>0
 | [],_ :: _=>-1
 | _ :: _,[]=>1
 | x :: a,y :: b=>if Zp x y ≠ 0 then Zp x y else J8 a b
theorem Vu {x y:Int}:Zp x y = 0 ↔ x = y:=by unfold Zp;split;omega;split <;> omega
theorem XU:∀ {a b:List Int},J8 a b = 0 ↔ a = b
 | [],[]=>by simp [J8]
 | [],_ :: _=>by simp [J8]
 | _ :: _,[]=>by simp [J8]
 | x :: a,y :: b=>by
  unfold J8;split
  ·rename_i h;constructor
   ·intro e;exact absurd e h
   ·intro e;injection e with e1 _;exact absurd (Vu.2 e1) h
  ·rename_i h;have h':x = y:=Vu.1 (by omega);rw [XU (a:=a) (b:=b),h'];simp
theorem Vt:∀ (a b:List Int),J8 a b = -J8 b a
 | [],[]=>rfl
 | [],_ :: _=>rfl
 | _ :: _,[]=>rfl
 | x :: a,y :: b=>by
  unfold J8;rw [Vt a b];have:Zp x y = -Zp y x:=by unfold Zp;split <;> split <;> (try split) <;> omega
  rw [this];split
  ·rename_i h;rw [if_pos (by omega)]
  ·rename_i h;rw [if_neg (by omega)]
theorem XH:∀ {a b c:List Int},J8 a b < 0 -> J8 b c < 0 -> J8 a c < 0
 | [],[],_=>by simp [J8]
 | [],_ :: _,[]=>by simp [J8]
 | [],_ :: _,_ :: _=>by simp [J8]
 | _ :: _,[],_=>by simp [J8]
 | _ :: _,_ :: _,[]=>by simp [J8]
 | x :: a,y :: b,z :: c=>by
  have ih:=@XH a b c;unfold J8;intro h1 h2;unfold Zp at *
  grind
theorem UV {a b:List Int} (k:Nat) (h:a.take k = b.take k) (ha:k <= a.length) (hb:k <= b.length):J8 a b = J8 (a.drop k) (b.drop k):=by
 induction k generalizing a b with
 | zero=>simp
 | succ k ih=>
  cases a with
  | nil=>simp at ha
  | cons x a=>
   cases b with
   | nil=>simp at hb
   | cons y b=>
    simp only [List.take_succ_cons,List.cons.injEq] at h;obtain ⟨rfl,h⟩:=h;rw [List.drop_succ_cons,List.drop_succ_cons,<- ih h (by simpa using ha) (by simpa using hb)];simp [J8,Zp]
theorem ZfC {a b:List Int} {k:Nat} (h:a.take k = b.take k) (ha:k < a.length) (hb:k < b.length) (hne:Zp a[k] b[k] ≠ 0):J8 a b = Zp a[k] b[k]:=by
 rw [UV k h (by omega) (by omega),List.drop_eq_getElem_cons ha,List.drop_eq_getElem_cons hb,J8,if_pos hne]
theorem ZdL {a b:List Int} {k:Nat} (h:a.take k = b.take k) (ha:k < a.length) (hb:b.length = k):J8 a b = 1:=by
 rw [UV k h (by omega) (by omega),List.drop_eq_getElem_cons ha,List.drop_eq_nil_of_le («as»:=b) (by omega)];rfl
theorem Zc1 {a b:List Int} (h:a = b.take a.length) (hb:a.length <= b.length):J8 a b = if a.length < b.length then -1 else 0:=by
 rw [UV a.length (by simpa using h) (Nat.le_refl _) hb,List.drop_eq_nil_of_le (Nat.le_refl _)];split
 ·rename_i hl;rw [List.drop_eq_getElem_cons hl];rfl
 ·rw [List.drop_eq_nil_of_le (by omega)];rfl
theorem V0 {a b:List Int} {k:Nat} (h:a.take k = b.take k) (ha:k < a.length) (hb:k < b.length) (he:a[k] = b[k]):a.take (k + 1) = b.take (k + 1):=by
 rw [List.take_succ_eq_append_getElem ha,List.take_succ_eq_append_getElem hb,h,he]
end Ear
namespace Go.Proofs.YtlgdlenoohkipaaGreat
open Go.RowKit Ear

theorem UN (x:Int) (w:World):Calls Tryz.prog 179 #[.int .i64 x] w fun e w'=>e = .returned (.bool false) /\ w = w':=by
 go_enter Tryz.func179,Tryz.ntmps179;go_wp2_with fail;go_ret;exact ⟨Jm (by simp),rfl⟩
theorem Zq (x y:Int) (w:World) (r:Int) (hr:Hid (Zp x y = r)):Calls Tryz.prog 138 #[.int .i64 x,.int .i64 y] w fun e w'=>e = .returned (.int .i64 r) /\ w = w':=by
 have hr0:=hr.out;unfold Zp at hr0;clear hr;rcases (show x < y ∨ (¬ x < y /\ y < x) ∨ (¬ x < y /\ ¬ y < x) by omega) with h | ⟨h1,h2⟩ | ⟨h1,h2⟩
 ·rw [if_pos h] at hr0;subst hr0;go_enter Tryz.func138,Tryz.ntmps138;go_wp2_with (go_at_call 179;refine (UN _ _).mono ?_;rintro e w' ⟨rfl,rfl⟩);go_ret;exact ⟨rfl,rfl⟩
 ·rw [if_neg h1,if_pos h2] at hr0;subst hr0;go_enter Tryz.func138,Tryz.ntmps138;go_wp2_with (go_at_call 179;refine (UN _ _).mono ?_;rintro e w' ⟨rfl,rfl⟩);go_ret;exact ⟨rfl,rfl⟩
 ·rw [if_neg h1,if_neg h2] at hr0;subst hr0;go_enter Tryz.func138,Tryz.ntmps138;go_wp2_with (go_at_call 179;refine (UN _ _).mono ?_;rintro e w' ⟨rfl,rfl⟩);go_ret;exact ⟨rfl,rfl⟩
theorem V6 (A B:Option Addr) (c d:Nat) (a b:List Int) (w:World) (hA:Lies w A (ics a)) (hB:Lies w B (ics b)) (ha:a.length <= 9223372036854775807) (hb:b.length <= 9223372036854775807) (r:Int) (hr:Hid (J8 a b = r)) :
  Calls Tryz.prog 82 #[.slice A a.length c,.slice B b.length d] w fun e w'=>e = .returned (.int .i64 r) /\ w = w':=by
 go_enter Tryz.func82,Tryz.ntmps82;go_wp2_with fail;go_loop [11] (fun i=>∃ k:Nat,k <= a.length /\ k <= b.length /\ i = .int .i64 k /\ Hid (a.take k = b.take k)) (fun i=>a.length - (intOf i).toNat)
 case atStart=>exact ⟨0,by omega,by omega,rfl,zH (by simp)⟩
 case round=>
  obtain ⟨k,hk,hk2,rfl,HT⟩:=hrel;by_cases hlt:k < a.length
  ·obtain ⟨bx,ox,rfl,hbx,hcx⟩:=hA.at_ hlt;by_cases hlb:k < b.length
   ·obtain ⟨bY,oY,rfl,hby,hcy⟩:=hB.at_ hlb;have HAT:=zH (fun hne=>ZfC (k:=k) HT.out hlt hlb hne);have HSU:=zH (fun he=>V0 (k:=k) HT.out hlt hlb he);have e1:a[k]?.getD 0 = a[k]:=(by rw [gE hlt];rfl);have e2:b[k]?.getD 0 = b[k]:=(by rw [gE hlb];rfl);rw [e1] at hcx;rw [e2] at hcy;clear e1 e2;generalize a[k] = x at *
    generalize b[k] = y at *
    obtain ⟨s,hs⟩:∃ s,s = Zp x y:=⟨_,rfl⟩;have HS:=zH hs.symm;by_cases h0:s = 0
    ·have HT2:=zH (HSU.out (Vu.1 (hs.symm.trans h0)));subst h0;clear hs HAT HSU;go_wp2_with (go_at_call 138;refine (Zq _ _ _ 0 HS).mono ?_;rintro e w' ⟨rfl,rfl⟩);exact ⟨⟨k + 1,by omega,by omega,by go_num,HT2⟩,by simp [intOf];omega⟩
    ·have hz:r = s:=(by rw [<- hr.out,HAT.out (by rw [<- hs];exact h0),<- hs]);subst hz;have q0:(r != 0) = true:=(by simp [h0]);clear hs HAT HSU h0;go_wp2_with (go_at_call 138;refine (Zq _ _ _ r HS).mono ?_;rintro e w' ⟨rfl,rfl⟩);go_ret;exact ⟨rfl,rfl⟩
   ·obtain rfl:k = b.length:=(by omega);have hz:r = 1:=(by rw [<- hr.out,ZdL HT.out hlt rfl]);subst hz;go_wp2_with fail;go_ret;exact ⟨rfl,rfl⟩
  ·obtain rfl:k = a.length:=by omega
   have hz:=hr.out;rw [Zc1 (by simpa using HT.out) hk2] at hz;clear hr;by_cases hl:a.length < b.length
   ·rw [if_pos hl] at hz;subst hz;go_wp2_with fail;go_ret;exact ⟨rfl,rfl⟩
   ·rw [if_neg hl] at hz;subst hz;go_wp2_with fail;go_ret;exact ⟨rfl,rfl⟩
theorem Zn (o v:Int) (w:World) (r:Bool) (hr:Hid ((decide (1 <= o) && decide (o <= 4) && decide (1 <= v) && decide (v <= 2000)) = r)):Calls Tryz.prog 80 #[.int .i64 o,.int .i64 v] w fun e w'=>e = .returned (.bool r) /\ w = w':=by
 have hr0:=hr.out;clear hr;rcases (show ¬ 1 <= o ∨ (1 <= o /\ ¬ o <= 4) ∨ (1 <= o /\ o <= 4 /\ ¬ 1 <= v) ∨ (1 <= o /\ o <= 4 /\ 1 <= v /\ ¬ v <= 2000) ∨ (1 <= o /\ o <= 4 /\ 1 <= v /\ v <= 2000) by omega) with h1 | ⟨h1,h2⟩ | ⟨h1,h2,h3⟩ | ⟨h1,h2,h3,h4⟩ | ⟨h1,h2,h3,h4⟩
 all_goals
  simp only [h1,decide_true,decide_false,Bool.true_and,Bool.false_and] at hr0;try simp only [h2,decide_true,decide_false,Bool.true_and,Bool.false_and] at hr0
  try simp only [h3,decide_true,decide_false,Bool.true_and,Bool.false_and] at hr0
  try simp only [h4,decide_true,decide_false] at hr0
  subst hr0;go_enter Tryz.func80,Tryz.ntmps80;go_wp2_with fail;go_ret;exact ⟨Jm (by simp;try omega),rfl⟩
structure PredD (g:FuncId) (q q2:Value) (p:Int -> Bool) (w:World):Prop where
 enter:∀ (args:Array Value) (w:World),(callFunc g args).run Tryz.prog w = .ok (.enter g args) w
 gives:∀ (x:Int),Calls Tryz.prog g #[.int .i64 x,q,q2] w fun e w'=>e = .returned (.bool (p x)) /\ w = w'

theorem ZgV (g:FuncId) (q q2:Value) (p:Int -> Bool) (A:Option Addr) (c:Nat) (l:List Int) (w:World) (hp:PredD g q q2 p w) (h:Lies w A (ics l)) (hn:l.length <= 9223372036854775807) :
  Calls Tryz.prog 178 #[.slice A l.length c,.func (.func g) #[] #[q,q2]] w (ZiD p l w):=by
 have heg:=hp.enter;go_enter Tryz.func178,Tryz.ntmps178;go_wp2;go_loop [5,8] (fun _ i=>∃ k:Nat,k <= l.length /\ i = .int .i64 k /\ (l.take k).any p = false) (fun _ i=>l.length - (intOf i).toNat)
 case atStart=>exact ⟨0,Nat.zero_le _,rfl,rfl⟩
 case round=>
  obtain ⟨k,hk,rfl,hp'⟩:=hrel;have HP:=zH hp';clear hp';by_cases hlt:k < l.length
  ·obtain ⟨bk,off,rfl,hb,hc⟩:=h.at_ hlt;go_wp2_with fail;refine (hp.gives _).mono ?_;rintro e w' ⟨rfl,rfl⟩;cases hpx:p l[k] with
   | true=>
    have HX:=zH hpx;clear hpx;go_wp2_with fail;go_ret;exact ⟨k,rfl,rfl,by rw [Zcg hlt HX.out];simp⟩
   | false=>
    have HX:=zH hpx;clear hpx;go_wp2_with fail;exact ⟨⟨k + 1,by omega,by go_num,Zat hlt HP.out HX.out⟩,by simp [intOf];omega⟩
  ·go_wp2;go_ret;exact ⟨-1,rfl,rfl,by have hh:=HP.out;rw [List.take_of_length_le (by omega)] at hh;rw [hh];rfl⟩

theorem Zcj (g:FuncId) (q q2:Value) (p:Int -> Bool) (A:Option Addr) (c:Nat) (l:List Int) (w:World) (hp:PredD g q q2 p w) (h:Lies w A (ics l)) (hn:l.length <= 9223372036854775807) :
  Calls Tryz.prog 136 #[.slice A l.length c,.func (.func g) #[] #[q,q2]] w fun e w'=>e = .returned (.bool (l.any p)) /\ w = w':=by
 go_enter Tryz.func136,Tryz.ntmps136;go_wp2_with fail;refine (ZgV g q q2 p A c l _ hp h hn).mono ?_;rintro e w' ⟨r,rfl,rfl,hr⟩;have HR:=zH hr;clear hr;go_wp2_with fail;go_ret;exact ⟨Jm HR.out,rfl⟩

theorem Zbd (x lo hi:Int) (b b2:Nat) (w:World) (hc:w.cell? ⟨b,0,none⟩ = some (.int .i64 lo)) (hc2:w.cell? ⟨b2,0,none⟩ = some (.int .i64 hi)) :
  Calls Tryz.prog 137 #[.int .i64 x,.pointer (some ⟨b,0,none⟩),.pointer (some ⟨b2,0,none⟩)] w fun e w'=>e = .returned (.bool (!inR lo hi x)) /\ w = w':=by
 by_cases h1:x < lo
 ·go_enter Tryz.func137,Tryz.ntmps137;go_wp2;go_ret;exact ⟨Jm (by simp [inR];omega),rfl⟩
 ·by_cases h2:hi < x;all_goals
   go_enter Tryz.func137,Tryz.ntmps137;go_wp2;go_ret;exact ⟨Jm (by simp [inR];omega),rfl⟩
theorem Xe (A:Option Addr) (c:Nat) (l:List Int) (lo hi:Int) (w:World) (h:Lies w A (ics l)) (hn:l.length <= 9223372036854775807) (r:Bool) (hr:Hid (XI lo hi l = r)) :
  Calls Tryz.prog 81 #[.slice A l.length c,.int .i64 lo,.int .i64 hi] w (ZaE r w):=by
 go_enter Tryz.func81,Tryz.ntmps81;go_wp2_with fail;refine (Zcj _ _ _ (fun x=>!inR lo hi x) A c l _ ⟨enters_of Tryz.func137 (by kernel_rfl) rfl,fun x=>Zbd x lo hi _ _ _ (by simp) (by simp)⟩ ((h.alloc _).alloc _) hn).mono ?_;rintro e w' ⟨rfl,rfl⟩;rw [Zbr,hr.out];go_wp2_with fail;go_ret;exact ⟨Jm (by simp),(bR.alloc nR _).alloc (by simp) _⟩
end Go.Proofs.YtlgdlenoohkipaaGreat
namespace Ear

abbrev Tbl:=List (List Int × Int)
def Zih (o v:Int) (g:List Int × Int):Bool:=decide ((g.1.length:Int) = o) && XI 0 v g.1 && decide (1 <= g.2) && decide (g.2 <= 1073741824)
def ZdX (l:Tbl) (i:Nat):List Int × Int:=l[i]?.getD ([],0)
def Xs (o v:Int) (l:Tbl) (i:Nat):Bool:=Zih o v (ZdX l i) && (i == 0 || decide (J8 (ZdX l (i - 1)).1 (ZdX l i).1 < 0))
def Zdi (o v:Int) (l:Tbl):Bool:=(List.range l.length).all (Xs o v l)
def Xv (o v:Int):Bool:=decide (1 <= o) && decide (o <= 4) && decide (1 <= v) && decide (v <= 2000)
def Xz (o v:Int) (l:Tbl):Int:=if 20000 < l.length then 5 else if Xv o v = true then (if Zdi o v l = true then 0 else 2) else 2
theorem Zg0 {o v:Int} {l:Tbl} {k:Nat} (hk:k < l.length) (h:Xs o v l k = false):Zdi o v l = false:=by
 unfold Zdi;rw [List.all_eq_false];exact ⟨k,List.mem_range.2 hk,by simp [h]⟩
theorem QX {o v:Int} {l:Tbl} (h:∀ k,k < l.length -> Xs o v l k = true):Zdi o v l = true:=by
 unfold Zdi;rw [List.all_eq_true];exact fun k hk=>h k (List.mem_range.1 hk)
theorem JZ {l:Tbl} {k:Nat} (hk:k < l.length):ZdX l k = l[k]:=by
 unfold ZdX;rw [List.getElem?_eq_getElem hk];rfl
theorem JK {o v:Int} {l:Tbl}:Xz o v l = 0 ↔ l.length <= 20000 /\ Xv o v = true /\ Zdi o v l = true:=by
 unfold Xz;split
 ·constructor
  ·intro h;cases h
  ·intro h;omega
 ·split
  ·split
   ·rename_i h1 h2 h3;exact ⟨fun _=>⟨by omega,h2,h3⟩,fun _=>rfl⟩
   ·rename_i h1 h2 h3;exact ⟨fun h=>(by cases h),fun h=>absurd h.2.2 h3⟩
  ·rename_i h1 h2;exact ⟨fun h=>(by cases h),fun h=>absurd h.2.1 h2⟩
theorem Jx {o v:Int}:Xv o v = true ↔ 1 <= o /\ o <= 4 /\ 1 <= v /\ v <= 2000:=by simp [Xv,and_assoc]
theorem Xk {o v:Int} {g:List Int × Int}:Zih o v g = true ↔ (g.1.length:Int) = o /\ XI 0 v g.1 = true /\ 1 <= g.2 /\ g.2 <= 1073741824:=by simp [Zih,and_assoc]
end Ear
