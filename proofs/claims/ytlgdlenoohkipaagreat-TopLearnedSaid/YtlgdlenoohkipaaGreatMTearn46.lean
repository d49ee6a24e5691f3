/- TopLearned -/
import Derived.Test.YtlgdlenoohkipaaGreatMTearn45
set_option maxRecDepth 100000
set_option maxHeartbeats 32000000
namespace Go.Proofs.YtlgdlenoohkipaaGreat
open Go.RowKit Ear

structure Fz (w:World) (x:Fr) (z:Int):Prop where
 ok:FrOk w x
 neg:x.neg = decide (z < 0)
 num:x.N = nd z.natAbs
 den:x.D = []
theorem Fz.boxed {w:World} {x:Fr} {z:Int} {k:Nat} (h:Fz w x z) (hb:Bx w k) (v0 v1 v2:Value):Fz (((w.setCell ⟨k,0,none⟩ v0).setCell ⟨k,1,none⟩ v1).setCell ⟨k,2,none⟩ v2) x z:=⟨h.ok.boxed hb v0 v1 v2,h.neg,h.num,h.den⟩
def Zju (z:Int) (w:World) (e:Ending) (w':World):Prop:=∃ x:Fr,e = .returned x.val /\ Fz w' x z /\ Below w.heap.size w w'
theorem RetFr.fz {b:Bool} {n:Nat} {z:Int} {w w':World} {e:Ending} (h:RetFr b n 1 w e w') (hb:b = decide (z < 0)) (hn:n = z.natAbs):Zju z w e w':=by
 obtain ⟨x,he,hx,h1,h2,h3,h4⟩:=h;exact ⟨x,he,⟨hx,h1.trans hb,by rw [h2,hn],by rw [h3];rfl⟩,h4⟩
theorem ZhM (z:Int) (w:World) (h1 : -9223372036854775808 <= z) (h2:z <= 9223372036854775807):Calls Tryz.prog 21 #[.int .i64 z] w (Zju z w):=by
 have b1:z.natAbs <= 9223372036854775808:=by omega
 have HL:Hid ((nd z.natAbs).length <= 1000000):=zH (tR (JX (k:=2) (by simp;omega)) (by decide));have HV:=zH (Jo z.natAbs);have HD:=zH (Jy z.natAbs);have HS:=zH (fun W=>Zf3 z W h1 h2);have HE:Hid (decide (z < 0) && decide (z.natAbs ≠ 0)) = Hid (decide (z < 0)):=by
  by_cases h:z < 0
  ·have:z.natAbs ≠ 0:=by omega
   simp [h,this]
  ·simp [h]
 have HE':=zH HE;have HB:Hid ((decide (z < 0) && decide (z.natAbs ≠ 0)) = decide (z < 0)):=zH (by
  by_cases h:z < 0
  ·have:z.natAbs ≠ 0:=by omega
   simp [h,this]
  ·simp [h])
 clear HE HE';go_enter Tryz.func21,Tryz.ntmps21;go_wp2_with fail;refine (HS.out _).mono ?_;rintro e w' ⟨rfl,rfl⟩;generalize hn:z.natAbs = n at *
 have HN:=zH hn;clear hn;go_wp2_with fail;refine (ZbV n _ (by omega)).mono ?_;rintro e w1 ⟨A,c,rfl,hA,hc,hnil,hb⟩;generalize hd:nd n = ds at *
 have HDS:=zH hd;clear hd;have hs1:w.heap.size < w1.heap.size:=by have:=hb.size;simp at this;omega
 have hb0:=zH (((Below.refl _ w).alloc nR _).trans (hb.mono (by simp)));have BX:=zH ((Bx.new w).below hb);have HM:=zH (Za5 (decide (z < 0)) A none c 0 ds [] w1 ⟨hA,HD.out,hc,hnil⟩ (Dg.none _) HL.out (by simp) n HV (zH (.inl rfl)));clear hb hA hnil;go_wp2_with fail;refine HM.out.mono ?_;clear HM;intro e w2 hR;obtain ⟨x,rfl,hx,hb2⟩:=hR.fz HB.out HN.out.symm;have BX2:=BX.out.below hb2;obtain ⟨c0,c1,c2,f0,f1,f2⟩:=BX2.facts;have HX:=zH hx;have HB2:=zH (hb0.out.trans (hb2.mono hb0.out.size));have BXH:=zH BX2;clear hx hb2 hR BX2 HB;obtain ⟨xn,xA,xc,xN,xB,xd,xD⟩:=x;go_wp2_with fail;obtain ⟨e0,e1,e2⟩:=Zf (.bool xn) (.slice xA xN.length xc) (.slice xB xD.length xd) c0 c1 c2;refine bodyPost_ret (v:=.agg #[.bool xn,.slice xA xN.length xc,.slice xB xD.length xd]) (by simp [results,Tryz.results21,go_sem,e0,e1,e2]) rfl ?_;exact ⟨⟨xn,xA,xc,xN,xB,xd,xD⟩,rfl,HX.out.boxed BXH.out _ _ _,((HB2.out.setCell nR _).setCell nR _).setCell nR _⟩
set_option linter.unusedVariables false

theorem Zes (x:Fr) (p:Rat) (w:World) (hx:Fv w x p) (fx:Few x 90000):Calls Tryz.prog 92 #[x.val] w (Zu (-p) w):=by
 obtain ⟨W,hW⟩:∃ W:World,W = (w.alloc (.cells #[.bool x.neg,.slice x.A x.N.length x.c,.slice x.B x.D.length x.d] 31)).alloc (.cells #[.bool false,.slice none 0 0,.slice none 0 0] 31):=⟨_,rfl⟩;have HB0:Hid (Below w.heap.size w W):=zH (by rw [hW];exact al2 w _ _);have HBX:Hid (Bt 31 W (w.heap.size + 1)):=zH (by rw [hW];have:=Bt.new 31 (w.alloc (.cells #[.bool x.neg,.slice x.A x.N.length x.c,.slice x.B x.D.length x.d] 31));simpa using this);have hb:=hx.below HB0.out;have e1:vl x.N = ((vl x.N).toNat:Nat):=by have:=Jw hx.n.dig;omega
 have e2:vl x.D = ((vl x.D).toNat:Nat):=by have:=Jw hx.d.dig;omega
 have C1:=zH (Vb (!x.neg) x.A x.B x.c x.d x.N x.D W hb.n hb.d (tR fx.n (by decide)) (tR fx.d (by decide)) _ _ (zH e1) (zH e2));have HE:Hid (fq (!x.neg) (vl x.N).toNat (vl x.D).toNat = -p):=zH (by rw [<- Zjh,hx.val]);rw [HE.out] at C1;obtain ⟨xn,xA,xc,xN,xB,xd,xD⟩:=x;clear hx fx hb e1 e2 HE;simp only at C1;go_enter Tryz.func92,Tryz.ntmps92;go_wp2_with fail;rw [<- hW];clear hW;refine C1.out.mono ?_;clear C1;rintro e w3 ⟨f,rfl,hf,hb3⟩;have R3:=zH hf;have X3:=zH (HBX.out.below hb3);have BW:=zH (HB0.out.trans (hb3.mono HB0.out.size));clear hf hb3 HBX HB0;obtain ⟨k0,k1,k2,f0,f1,f2⟩:=X3.out.facts;obtain ⟨rn,rA,rc,rN,rB,rd,rD⟩:=f;go_wp2_with fail;obtain ⟨g0,g1,g2⟩:=Zf (.bool rn) (.slice rA rN.length rc) (.slice rB rD.length rd) k0 k1 k2;refine bodyPost_ret (v:=.agg #[.bool rn,.slice rA rN.length rc,.slice rB rD.length rd]) (by simp [results,Tryz.results92,go_sem,g0,g1,g2]) rfl ?_;exact ⟨⟨rn,rA,rc,rN,rB,rd,rD⟩,rfl,J2 R3.out X3.out _ _ _,Jf BW.out (by omega) _ _ _⟩
theorem Zer (x y:Fr) (p q:Rat) (w:World) (hx:Fv w x p) (hy:Fv w y q) (fx:Few x 80000) (fy:Few y 80000):Calls Tryz.prog 41 #[x.val,y.val] w (Zu (p + -q) w):=by
 have sq:=hy.sz fy (by decide);have FX:Hid (Few x 90000):=zH ⟨tR fx.n (by decide),tR fx.d (by decide)⟩;have FY:Hid (Few y 90000):=zH ⟨tR fy.n (by decide),tR fy.d (by decide)⟩;obtain ⟨W,hW⟩:∃ W:World,W = ((w.alloc (.cells #[.bool x.neg,.slice x.A x.N.length x.c,.slice x.B x.D.length x.d] 31)).alloc (.cells #[.bool y.neg,.slice y.A y.N.length y.c,.slice y.B y.D.length y.d] 31)).alloc (.cells #[.bool false,.slice none 0 0,.slice none 0 0] 31):=⟨_,rfl⟩;have hs:W.heap.size = w.heap.size + 3:=by rw [hW];simp
 have HB0:Hid (Below w.heap.size w W):=zH (by rw [hW];exact (al2 w _ _).alloc (by simp;omega) _);have HBX:Hid (Bt 31 W (w.heap.size + 1 + 1)):=zH (by rw [hW];have:=Bt.new 31 ((w.alloc (.cells #[.bool x.neg,.slice x.A x.N.length x.c,.slice x.B x.D.length x.d] 31)).alloc (.cells #[.bool y.neg,.slice y.A y.N.length y.c,.slice y.B y.D.length y.d] 31));simpa using this);have HC:Hid (∀ u,Below W.heap.size W u -> u.cell? ⟨w.heap.size,0,none⟩ = some (.bool x.neg) /\ u.cell? ⟨w.heap.size,1,none⟩ = some (.slice x.A x.N.length x.c) /\ u.cell? ⟨w.heap.size,2,none⟩ = some (.slice x.B x.D.length x.d) /\ u.cell? ⟨w.heap.size + 1,0,none⟩ = some (.bool y.neg) /\ u.cell? ⟨w.heap.size + 1,1,none⟩ = some (.slice y.A y.N.length y.c) /\ u.cell? ⟨w.heap.size + 1,2,none⟩ = some (.slice y.B y.D.length y.d)):=zH (fun u hu=>by
  rw [hu.cell (p:=⟨w.heap.size,0,none⟩) (by simp;omega),hu.cell (p:=⟨w.heap.size,1,none⟩) (by simp;omega),hu.cell (p:=⟨w.heap.size,2,none⟩) (by simp;omega),hu.cell (p:=⟨w.heap.size + 1,0,none⟩) (by simp;omega),hu.cell (p:=⟨w.heap.size + 1,1,none⟩) (by simp;omega),hu.cell (p:=⟨w.heap.size + 1,2,none⟩) (by simp;omega),hW];simp [go_sem])
 have HX:=zH (hx.below HB0.out);have HY:=zH (hy.below HB0.out);clear hx hy;go_enter Tryz.func41,Tryz.ntmps41;go_wp2_with fail;rw [<- hW];clear hW;refine Jb 4 9 rfl (by kernel_rfl) (by kernel_rfl) (by kernel_rfl) (by kernel_rfl) (fun u=>Below W.heap.size W u) (fun u u'=>Below u.heap.size u u') (Gl [isV (x.val),isV (y.val),isFq (-q),isFq (p + -q)]) (Gl.keepL ⟨Keeps.isV _,Keeps.isV _,Keeps.isFq _,Keeps.isFq _,trivial⟩) ?_ ?_ ?_
 ·exact (Below.refl _ W).drew
 ·simp only [List.pop_toArray,List.dropLast,Jj];refine ⟨?_,?_,?_,?_,trivial⟩
  ·intro bb u su dp kp K hK;have e2:gT bb 2 = .pointer (some ⟨w.heap.size,0,none⟩):=kp 2 (by kernel_rfl);obtain ⟨cc0,cc1,cc2,cc3,cc4,cc5⟩:=HC.out u su;go_simp;exact hK _ _ su bR rfl
  ·intro bb u su dp kp K hK;have e3:gT bb 3 = .pointer (some ⟨w.heap.size + 1,0,none⟩):=kp 3 (by kernel_rfl);obtain ⟨cc0,cc1,cc2,cc3,cc4,cc5⟩:=HC.out u su;go_simp;exact hK _ _ su bR rfl
  ·intro bb u su dp kp K hK;have e6:gT bb 6 = y.val:=dp 1 _ rfl (by kernel_rfl);go_simp;refine (Zes y (q) u (HY.out.below su) FY.out).mono ?_;rintro e w' ⟨r,rfl,hr,h4⟩;go_simp;exact hK _ _ (su.trans (h4.mono su.size)) h4 ⟨r,rfl,zH hr⟩
  ·intro bb u su dp kp K hK;have e5:gT bb 5 = x.val:=dp 0 _ rfl (by kernel_rfl);obtain ⟨r7,e7,D7⟩:∃ r:Fr,gT bb 7 = r.val /\ Hid (Fq u r (-q)):=dp 2 _ rfl (by kernel_rfl);go_simp;refine (ZaU x r7 (p) (-q) u (HX.out.below su) (D7.out).fv FX.out ((D7.out).few (sq.neg.mono (by decide)))).mono ?_;rintro e w' ⟨r,rfl,hr,h4⟩;go_simp;exact hK _ _ (su.trans (h4.mono su.size)) h4 ⟨r,rfl,zH hr⟩
 ·intro bb u hN hdf su hG sm;obtain ⟨r,e8,hr⟩:∃ r:Fr,gT bb 8 = r.val /\ Hid (Fq u r (p + -q)):=hG 3 _ rfl;have e4:gT bb 4 = .pointer (some ⟨w.heap.size + 1 + 1,0,none⟩):=sm 4 (by kernel_rfl);have BX2:=zH (HBX.out.below su);obtain ⟨c0,c1,c2,f0,f1,f2⟩:=BX2.out.facts;have HB2:=zH (HB0.out.trans (su.mono HB0.out.size));clear su hG sm;rw [JM bb 9 hN];simp only [show List.range 9 = [0,1,2,3,4,5,6,7,8] from rfl,List.map_cons,List.map_nil,e4,e8,hdf];clear e4 e8 hN hdf;generalize bb.tmps.getD 0 undef = z0,bb.tmps.getD 1 undef = z1,bb.tmps.getD 2 undef = z2,bb.tmps.getD 3 undef = z3,bb.tmps.getD 5 undef = z5,bb.tmps.getD 6 undef = z6,bb.tmps.getD 7 undef = z7;obtain ⟨rn,rA,rc,rN,rB,rd,rD⟩:=r;refine PopQ.last rfl rfl (fun K hK=>?_);go_simp;refine hK _ _ ?_;clear hK K;go_wp2_with fail;obtain ⟨g0,g1,g2⟩:=Zf (.bool rn) (.slice rA rN.length rc) (.slice rB rD.length rd) c0 c1 c2;refine bodyPost_ret (v:=.agg #[.bool rn,.slice rA rN.length rc,.slice rB rD.length rd]) (by simp [results,Tryz.results41,go_sem,g0,g1,g2]) rfl ?_;exact ⟨⟨rn,rA,rc,rN,rB,rd,rD⟩,rfl,J2 hr.out BX2.out _ _ _,Jf HB2.out (by omega) _ _ _⟩
theorem Fz.fq' {w:World} {x:Fr} {z:Int} (h:Fz w x z):Fq w x (z:Rat):=by
 obtain ⟨p1,p2,p3⟩:=Za9 z;exact ⟨h.ok,by rw [p1];exact h.neg,by rw [p2];exact h.num,by rw [p3];exact h.den⟩
theorem Zj (z:Int) (w:World) (h1 : -9223372036854775808 <= z) (h2:z <= 9223372036854775807):Calls Tryz.prog 21 #[.int .i64 z] w (Zu (z:Rat) w):=
 (ZhM z w h1 h2).mono fun _ _ ⟨x,he,hx,hb⟩=>⟨x,he,hx.fq',hb⟩
theorem J4 (x:Fr) (p:Rat) (w:World) (hx:Fv w x p) (fx:Few x 90000) (r:Int) (hr:Hid (Yu p = r)):Calls Tryz.prog 18 #[x.val] w fun e w'=>e = .returned (.int .i64 r) /\ Below w.heap.size w w':=by
 obtain ⟨n,d,hp,hT,hD,hL,d0,ln,ld⟩:=hx.opened fx;have HR:Hid (r = if n = 0 then 0 else if x.neg then -1 else 1):=zH (by rw [<- hr.out,hp,Zjf d0]);have HT:=zH (hT.out _ ((Below.refl w.heap.size w).alloc nR (.cells #[.bool x.neg,.slice x.A x.N.length x.c,.slice x.B x.D.length x.d] 31)));obtain ⟨xn,xA,xc,xN,xB,xd,xD⟩:=x;simp only at HR HT;clear hx fx hp hT hD hL hr;by_cases h0:n = 0
 ·have hl:(nd n).length = 0:=by rw [h0,JE];rfl
  have HR1:Hid (r = 0):=zH (by rw [HR.out,if_pos h0]);rw [hl] at HT;clear HR hl h0;go_enter Tryz.func18,Tryz.ntmps18;go_wp2_with fail;refine HT.out.mono ?_;rintro e w' ⟨rfl,rfl⟩;go_wp2_with fail;go_ret;exact ⟨JU (by rw [HR1.out]),bR.alloc nR _⟩
 ·have hl:(nd n).length ≠ 0:=fun e=>h0 (Js.1 e);have hq:(((nd n).length:Int) == 0) = false:=beq_eq_false_iff_ne.2 (by omega);cases xn with
  | true=>
   have HR1:Hid (r = -1):=zH (by rw [HR.out,if_neg h0];rfl);clear HR hl h0;go_enter Tryz.func18,Tryz.ntmps18;go_wp2_with fail;refine HT.out.mono ?_;rintro e w' ⟨rfl,rfl⟩;go_wp2_with fail;go_ret;exact ⟨JU (by rw [HR1.out]),bR.alloc nR _⟩
  | false=>
   have HR1:Hid (r = 1):=zH (by rw [HR.out,if_neg h0];rfl);clear HR hl h0;go_enter Tryz.func18,Tryz.ntmps18;go_wp2_with fail;refine HT.out.mono ?_;rintro e w' ⟨rfl,rfl⟩;go_wp2_with fail;go_ret;exact ⟨JU (by rw [HR1.out]),bR.alloc nR _⟩
theorem Yf (x y:Fr) (p q:Rat) (w:World) (hx:Fv w x p) (hy:Fv w y q) (fx:Few x 40000) (fy:Few y 40000) (r:Int) (hr:Hid (Yu (p + -q) = r)):Calls Tryz.prog 14 #[x.val,y.val] w fun e w'=>e = .returned (.int .i64 r) /\ Below w.heap.size w w':=by
 obtain ⟨W,hW⟩:∃ W:World,W = (w.alloc (.cells #[.bool x.neg,.slice x.A x.N.length x.c,.slice x.B x.D.length x.d] 31)).alloc (.cells #[.bool y.neg,.slice y.A y.N.length y.c,.slice y.B y.D.length y.d] 31):=⟨_,rfl⟩;have HB0:Hid (Below w.heap.size w W):=zH (by rw [hW];exact al2 w _ _);have sp:=hx.sz fx (by decide);have sq:=hy.sz fy (by decide);have C1:=zH (Zer x y p q W (hx.below HB0.out) (hy.below HB0.out) ⟨tR fx.n (by decide),tR fx.d (by decide)⟩ ⟨tR fy.n (by decide),tR fy.d (by decide)⟩);have C2:=zH (fun (f:Fr) (u:World) (hf:Fq u f (p + -q))=>J4 f (p + -q) u hf.fv (hf.few ((sp.add sq.neg).mono (by decide))) r hr);obtain ⟨xn,xA,xc,xN,xB,xd,xD⟩:=x;obtain ⟨yn,yA,yc,yN,yB,yd,yD⟩:=y;clear hx hy fx fy sp sq;go_enter Tryz.func14,Tryz.ntmps14;go_wp2_with fail;rw [<- hW];clear hW;refine C1.out.mono ?_;rintro e w3 ⟨f,rfl,hf,hb3⟩;have R3:=zH hf;have B3:=zH hb3;clear hf hb3;go_wp2_with fail;refine (C2.out f w3 R3.out).mono ?_;rintro e w4 ⟨rfl,hb4⟩;have B4:=zH (B3.out.trans (hb4.mono B3.out.size));clear hb4;go_wp2_with fail;go_ret;exact ⟨rfl,HB0.out.trans (B4.out.mono HB0.out.size)⟩
end Go.Proofs.YtlgdlenoohkipaaGreat
