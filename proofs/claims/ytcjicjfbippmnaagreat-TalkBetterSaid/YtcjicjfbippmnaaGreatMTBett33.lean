/- TalkBetter -/
import Derived.Test.YtcjicjfbippmnaaGreatMTBett32
set_option maxRecDepth 100000
set_option maxHeartbeats 32000000
namespace Go.Proofs.YtcjicjfbippmnaaGreat
open Go.RowKit Ear

theorem Zep (o:Nat) (v:Int) (A:Option Addr) (n c:Nat) (x:Fr) (q:Rat) (w:World) (hx:Fv w x q) (fx:Few x 100) (hq : 0 < q) :
  Calls Tryz.prog 189 #[.agg (lgc o v A n c x)] w (fun e w'=>e = .returned (.bool true) /\ Below w.heap.size w w'):=by
 obtain ⟨W0,hW0⟩:∃ X:World,X = w.alloc (.cells (lgc o v A n c x) 108):=⟨_,rfl⟩;have HB0:Hid (Below w.heap.size w W0):=zH (by rw [hW0];exact bR.alloc nR _);have HX0:Hid (W0.heap[w.heap.size]? = some (.cells (lgc o v A n c x) 108 (0,0))):=zH (by rw [hW0];exact heap_alloc_new w _);have HV:=zH (hx.below HB0.out);have HPB:Hid (∀ u,Below W0.heap.size W0 u -> u.cell? ⟨w.heap.size,3,none⟩ = some (.int .i64 1) /\ u.cell? ⟨w.heap.size,4,none⟩ = some (.bool x.neg) /\ u.cell? ⟨w.heap.size,5,none⟩ = some (.slice x.A x.N.length x.c) /\ u.cell? ⟨w.heap.size,6,none⟩ = some (.slice x.B x.D.length x.d) /\ u.cell? ⟨w.heap.size,7,none⟩ = some (.slice none 0 0)):=zH (fun u hu=>by
  have hh:=(hu.block _ (aE HX0.out).1).trans HX0.out;exact ⟨(cR 3 hh).trans rfl,(cR 4 hh).trans rfl,(cR 5 hh).trans rfl,(cR 6 hh).trans rfl,(cR 7 hh).trans rfl⟩)
 have HS:Hid (Yu q = 1):=zH (by
  have h1:=Rat.num_nonneg.2 (Rat.le_of_lt hq);have h2:q.num ≠ 0:=fun e=>by rw [Rat.num_eq_zero.1 e] at hq;exact Rat.lt_irrefl hq
  unfold Yu;rw [if_neg (by omega),if_neg h2])
 clear hx hq;go_enter Tryz.func189,Tryz.ntmps189;go_upto_region 1 with fail;rw [<- hW0];clear hW0;go_wp2_with fail;refine (Zo 1 W0 (by omega) (by omega)).mono ?_;rintro e w1 ⟨r1,rfl,-,hb1⟩;obtain ⟨W1,hW1⟩:∃ X:World,X = w1.alloc (.cells #[.bool r1.neg,.slice r1.A r1.N.length r1.c,.slice r1.B r1.D.length r1.d] 28):=⟨_,rfl⟩;have HB1:Hid (Below W0.heap.size W0 W1):=zH (by rw [hW1];exact hb1.alloc hb1.size _);clear hb1;go_upto_region 2 with fail;rw [<- hW1];clear hW1;obtain ⟨c3,c4,c5,c6,c7⟩:=HPB.out W1 HB1.out;have HV1:=zH (HV.out.below HB1.out);go_wp2_with fail;refine (Vh x q W1 HV1.out ⟨tR fx.n (by omega),tR fx.d (by omega)⟩ 1 HS).mono ?_;rintro e w2 ⟨rfl,hb2⟩;have HB2:=zH (HB1.out.trans (hb2.mono HB1.out.size));clear hb2 c3 c4 c5 c6 c7;obtain ⟨c3,c4,c5,c6,c7⟩:=HPB.out w2 HB2.out;go_wp2_with fail;refine bodyPost_ret (v:=.bool true) (by simp [results,Tryz.results189,go_sem]) rfl ?_;exact ⟨rfl,HB0.out.trans (HB2.out.mono HB0.out.size)⟩
theorem Zau {o:Nat} {v:Int} {A:Option Addr} {n c:Nat} {x:Fr} {W0:World} {b:Nat} (h:W0.heap[b]? = some (.cells (lgc o v A n c x) 108 (0,0))):∀ u,Below W0.heap.size W0 u -> u.cell? ⟨b,0,none⟩ = some (.int .i64 (o:Int)) /\ u.cell? ⟨b,1,none⟩ = some (.int .i64 v) /\ u.cell? ⟨b,2,none⟩ = some (.slice A n c) /\ u.cell? ⟨b,3,none⟩ = some (.int .i64 1) /\ u.cell? ⟨b,4,none⟩ = some (.bool x.neg) /\ u.cell? ⟨b,5,none⟩ = some (.slice x.A x.N.length x.c) /\ u.cell? ⟨b,6,none⟩ = some (.slice x.B x.D.length x.d) /\ u.cell? ⟨b,7,none⟩ = some (.slice none 0 0):=fun u hu=>by
 have hh:=(hu.block _ (aE h).1).trans h;exact ⟨(cR 0 hh).trans rfl,(cR 1 hh).trans rfl,(cR 2 hh).trans rfl,(cR 3 hh).trans rfl,(cR 4 hh).trans rfl,(cR 5 hh).trans rfl,(cR 6 hh).trans rfl,(cR 7 hh).trans rfl⟩
theorem Zd5 (o:Nat) (v:Int) (A:Option Addr) (c:Nat) (L:List Gm) (x:Fr) (q:Rat) (w:World) (hT:Tb w A L) (hv:Hid (Yb o v (Jd L) = 0)) (hx:Fv w x q) (fx:Few x 100) (hq : 0 < q) :
  Calls Tryz.prog 161 #[.agg (lgc o v A L.length c x)] w (fun e w'=>e = .returned (.int .i64 0) /\ Below w.heap.size w w'):=by
 obtain ⟨W0,hW0⟩:∃ X:World,X = w.alloc (.cells (lgc o v A L.length c x) 108):=⟨_,rfl⟩;have HB0:Hid (Below w.heap.size w W0):=zH (by rw [hW0];exact bR.alloc nR _);have HX0:Hid (W0.heap[w.heap.size]? = some (.cells (lgc o v A L.length c x) 108 (0,0))):=zH (by rw [hW0];exact heap_alloc_new w _);have HPB:=zH (Zau HX0.out);have hL2:L.length <= 20000:=by have:=(JO.1 hv.out).1;simpa using this
 have HC:=zH (YU o v A c L W0 (hT.below HB0.out) (by omega) 0 hv);have HV:=zH (hx.below HB0.out);have HQ:=zH hq;obtain ⟨c0,c1,c2,c3,c4,c5,c6,c7⟩:=HPB.out W0 bR;clear hT hx hq;go_enter Tryz.func161,Tryz.ntmps161;go_upto_region 1 with fail;rw [<- hW0];clear hW0;go_wp2_with fail;refine HC.out.mono ?_;rintro e w1 ⟨rfl,hb1⟩;have HB1:=zH hb1;clear hb1 c0 c1 c2 c3 c4 c5 c6 c7;obtain ⟨c0,c1,c2,c3,c4,c5,c6,c7⟩:=HPB.out w1 HB1.out;go_wp2_with fail;refine (Zep o v A L.length c x q w1 (HV.out.below HB1.out) fx HQ.out).mono ?_;rintro e w2 ⟨rfl,hb2⟩;have HB2:=zH (HB1.out.trans (hb2.mono HB1.out.size));clear hb2;go_wp2_with fail;refine bodyPost_ret (v:=.int .i64 0) (by simp [results,Tryz.results161,go_sem]) rfl ?_;exact ⟨rfl,HB0.out.trans (HB2.out.mono HB0.out.size)⟩
theorem Zd4 (A:Option Addr) (c:Nat) (l:List Int) (v:Int) (b:Nat) (w:World) (h:Lies w A (ics l)) (hn:l.length <= 9223372036854775807) (cV:w.cell? ⟨b,1,none⟩ = some (.int .i64 v)) (r:Bool) (hr:Hid ((!Xx 1 v l) = r)) :
  Calls Tryz.prog 162 #[.slice A l.length c,.pointer (some ⟨b,0,none⟩)] w (Zdq r w):=by
 generalize hx:Xx 1 v l = x at *
 have HX:=zH hx;clear hx;go_enter Tryz.func162,Tryz.ntmps162;go_wp2_with fail;refine (Xl A c l 1 v _ h hn x HX).mono ?_;rintro e w' ⟨rfl,hb2⟩;go_wp2_with fail;go_ret;exact ⟨Jn hr.out,hb2⟩
theorem Zcz (L:List Inn) (w:World) (v:Int) (b:Nat) (hl:∀ x ∈ L,InOk w x) (cV:w.cell? ⟨b,1,none⟩ = some (.int .i64 v)) (hb:b < w.heap.size):PredII 162 #[.pointer (some ⟨b,0,none⟩)] (fun l=>!Xx 1 v l) L w:=
 ⟨enters_of Tryz.func162 (by kernel_rfl) rfl,fun u hu x hx=>Zd4 x.1 x.2.1 x.2.2 v b u ((hl x hx).below hu).1 (hl x hx).2.2.1 ((hu.cell (p:=⟨b,1,none⟩) hb).trans cV) _ (zH rfl)⟩
theorem ZfX (o:Nat) (v:Int) (A B:Option Addr) (c d:Nat) (L:List Gm) (s:Inn) (x:Fr) (q:Rat) (w:World) (hT:Tb w A L) (hv:Hid (Yb o v (Jd L) = 0)) (hx:Fv w x q) (fx:Few x 100) (hq : 0 < q) (hS:LL w B [s]) (hs:s.2.2.length <= 500) (ha:Xx 1 v s.2.2 = true) :
  Calls Tryz.prog 108 #[.agg (lgc o v A L.length c x),.slice B 1 d] w (fun e w'=>e = .returned (.int .i64 0) /\ Below w.heap.size w w'):=by
 obtain ⟨W0,hW0⟩:∃ X:World,X = w.alloc (.cells (lgc o v A L.length c x) 108):=⟨_,rfl⟩;have HB0:Hid (Below w.heap.size w W0):=zH (by rw [hW0];exact bR.alloc nR _);have HX0:Hid (W0.heap[w.heap.size]? = some (.cells (lgc o v A L.length c x) 108 (0,0))):=zH (by rw [hW0];exact heap_alloc_new w _);have hws:w.heap.size < W0.heap.size:=(aE HX0.out).1;have HPB:=zH (Zau HX0.out);have hL2:L.length <= 20000:=by have:=(JO.1 hv.out).1;simpa using this
 have HLL:=zH (hS.below HB0.out);have HTB:=zH (hT.below HB0.out);have HV:=zH (hx.below HB0.out);have HQ:=zH hq;have HA:=zH ha;have HS5:Hid (([s]:List Inn).length <= 9223372036854775807):=zH (by simp);have hL3:(L.length:Int) <= 20000:=by omega
 obtain ⟨c0,c1,c2,c3,c4,c5,c6,c7⟩:=HPB.out W0 bR;clear hT hx hq hS ha;go_enter Tryz.func108,Tryz.ntmps108;go_upto_region 1 with fail;rw [<- hW0];clear hW0;go_wp2_with fail;refine (J0 154 #[] _ B d [s] W0 (YK [s] W0) HLL.out HS5.out false (zH (by simp;omega))).mono ?_;rintro e w1 ⟨rfl,hb1⟩;have HB1:=zH hb1;clear hb1 c0 c1 c2 c3 c4 c5 c6 c7;obtain ⟨c0,c1,c2,c3,c4,c5,c6,c7⟩:=HPB.out w1 HB1.out;go_wp2_with fail;refine (Zd5 o v A c L x q w1 (HTB.out.below HB1.out) hv (HV.out.below HB1.out) fx HQ.out).mono ?_;rintro e w2 ⟨rfl,hb2⟩;have HB2:=zH (HB1.out.trans (hb2.mono HB1.out.size));clear hb2 c0 c1 c2 c3 c4 c5 c6 c7;have c1:=(HPB.out w2 HB2.out).2.1;have HC1:=zH c1;clear c1;go_wp2_with fail;refine (J0 162 #[.pointer (some ⟨w.heap.size,0,none⟩)] _ B d [s] w2 (Zcz [s] w2 v w.heap.size (fun y hy=>((HLL.out.below HB2.out).inn y hy)) HC1.out (by have:=HB2.out.size;omega)) (HLL.out.below HB2.out) HS5.out false (zH (by simp [HA.out]))).mono ?_;rintro e w3 ⟨rfl,hb3⟩;have HB3:=zH (HB2.out.trans (hb3.mono HB2.out.size));clear hb3;go_wp2_with fail;refine bodyPost_ret (v:=.int .i64 0) (by simp [results,Tryz.results108,go_sem]) rfl ?_;exact ⟨rfl,HB0.out.trans (HB3.out.mono HB0.out.size)⟩
attribute [local go_sem] Oper.semAt_some

structure KpT (tb:Nat) (W W':World):Prop where
 size:W.heap.size <= W'.heap.size
 row:∀ (b:Nat) (cs:Array Value) (t:TypeId) (fr:Nat × Nat),b ≠ tb -> W.heap[b]? = some (Obj.cells cs t fr) -> W'.heap[b]? = some (Obj.cells cs t fr)
theorem KpT.refl {tb:Nat} (W:World):KpT tb W W:=⟨Nat.le_refl _,fun _ _ _ _ _ h=>h⟩
theorem KpT.trans {tb:Nat} {A B C:World} (h:KpT tb A B) (k:KpT tb B C):KpT tb A C:=⟨tR h.size k.size,fun b cs t fr n e=>k.row b cs t fr n (h.row b cs t fr n e)⟩
set_option linter.unusedVariables false in
theorem KpT.put {tb:Nat} (W:World) (l:Nat) (o o':Obj) (hl:W.heap[l]? = some o) (hc:∀ (cs:Array Value) (t:TypeId) (fr:Nat × Nat),o ≠ Obj.cells cs t fr):KpT tb W (W.putObj l o'):=
 ⟨by simp,fun b cs t fr _ e=>(World.putObj_heap_other (by rintro rfl;rw [hl] at e;cases e;exact hc _ _ _ rfl)).trans e⟩
theorem KpT.cell {tb:Nat} {W W':World} (h:KpT tb W W') {b o:Nat} {v:Value} (hb:b ≠ tb) (hv:W.cell? ⟨b,o,none⟩ = some v):W'.cell? ⟨b,o,none⟩ = some v:=by
 obtain ⟨cs,t,fr,e⟩:=Ud hv;rw [<- hv];exact World.cell?_of_block (a:=⟨b,o,none⟩) ((h.row b cs t fr hb e).trans e.symm)
theorem KpT.lies {tb:Nat} {W W':World} (h:KpT tb W W') {A:Option Addr} {xs:List Value} (ha:∀ b off,A = some ⟨b,off,none⟩ -> b ≠ tb) (hl:Lies W A xs):Lies W' A xs:=fun h0=>by
 obtain ⟨b,off,e,hlt,hc⟩:=hl h0;exact ⟨b,off,e,Nat.lt_of_lt_of_le hlt h.size,fun k u hu=>h.cell (ha b off e) (hc k u hu)⟩
theorem ZdW (l bO bS tb:Nat) (A:Option Addr) (c:Nat) (s:List Int) (o:Nat) (ho1 : 1 <= o) (ho2:o <= 4) (hs:s.length <= 500) (hn:A = none -> c = 0)
  (J:Nat -> World -> Prop) (hJb:∀ k W W',J k W -> Below W.heap.size W W' -> J k W')
  (hY:Hid (∀ k v W,J k W -> GmX o s k v W -> k < s.length + 1 -> YieldAt Fence.wide 7 Tryz.prog l #[v] W (fun e W'=>e = .returned (.bool true) /\ J (k + 1) W' /\ KpT tb W W')))
  (W:World) (cO:W.cell? ⟨bO,0,none⟩ = some (.int .i64 o)) (cS:W.cell? ⟨bS,0,none⟩ = some (.slice A s.length c)) (hL:Lies W A (ics s)) (h0:J 0 W) (hto:bO ≠ tb) (htb:tb < W.heap.size) :
  CallsIn Fence.wide 8 Tryz.prog 184 #[.func (.yield l) #[] #[],.pointer (some ⟨bO,0,none⟩),.pointer (some ⟨bS,0,none⟩)] W (fun e W'=>(∃ v,e = .returned v) /\ J (s.length + 1) W'):=by
 obtain ⟨i0,hi0,hz0,hz1,hz2⟩:=info_parts YQ;have TI:=zH hi0;have TZ0:=zH hz0;have TZ1:=zH hz1;have TZ2:=zH hz2;clear hi0 hz0 hz1 hz2;have HL:=zH hL;have HJB:=zH hJb;have HJD:Hid (J 0 W.drew):=zH (hJb 0 W _ h0 ⟨rfl,rfl,rfl,Nat.le_refl _,fun _ _=>rfl⟩);have hbO:bO < W.heap.size:=Xg cO;have hbS:bS < W.heap.size:=Xg cS;clear hL h0 hJb;obtain ⟨p,hp⟩:∃ p,p = o - 1:=⟨_,rfl⟩;have p1:IntKind.i64.wrap ((o:Int) - 1) = (p:Int):=by rw [IntWalk.i64_in _ (by omega)];omega
 have HP:=zH hp;have hp4:p <= 3:=by omega
 clear hp;obtain ⟨w1,hmk,ho1',hb1⟩:=Zr W.drew p (by omega) W.heap.size nR;refine callsIn_of_wp Tryz.func184 rfl trivial ?_ rfl;simp only [Tryz.ntmps184,List.size_toArray,List.length_cons,List.length_nil,Nat.reduceAdd,Nat.reduceSub,Array.replicate_succ,Array.replicate_zero,List.push_toArray,List.append_toArray,List.nil_append,List.cons_append]
 gi_wp2
 have SA:Hid (W.drew.cell? ⟨bO,0,none⟩ = some (.int .i64 o) /\ W.drew.cell? ⟨bS,0,none⟩ = some (.slice A s.length c)):=zH ⟨cO,cS⟩;have SB:Hid (w1.cell? ⟨bO,0,none⟩ = some (.int .i64 o) /\ w1.cell? ⟨bS,0,none⟩ = some (.slice A s.length c)):=zH ⟨(hb1.cell (p:=⟨bO,0,none⟩) hbO).trans cO,(hb1.cell (p:=⟨bS,0,none⟩) hbS).trans cS⟩;have HO1:=zH ho1';have HB1:=zH hb1;have HL1:Hid (Lies w1 A (ics s)):=zH (HL.out.below (Jz hb1));clear ho1' hb1;refine wpIn_wide.2 ?_;go_region_held3 (fun w'=>w'.cell? ⟨bO,0,none⟩ = some (.int .i64 o) /\ w'.cell? ⟨bS,0,none⟩ = some (.slice A s.length c))
  (first | exact SA.out | exact SB.out | exact SC.out)
  (first | (refine Zn _ (by rfl) (.tmp 8) (.tmp 9) _ (by rfl) W.heap.size 3 i0 _ 1 8 Tryz.underlying40 TI.out TZ0.out TZ1.out TZ2.out rfl (by omega) (.slice (some ⟨W.drew.heap.size,0,none⟩) p p) p (ics (List.replicate p 0)) (by rfl) HO1.out A s.length c (ics s) (by rfl) hn HL1.out (by simp) (Zw _) (by unfold maxLen;omega) (by omega) HB1.out.size (p + s.length) rfl ?_;intro Ab cb wb hob hgb hat;have BB:=zH (HB1.out.grown hgb HB1.out.size (fun k hk=>(HO1.out.lt k hk).1));have SC:Hid (wb.cell? ⟨bO,0,none⟩ = some (.int .i64 o) /\ wb.cell? ⟨bS,0,none⟩ = some (.slice A s.length c)):=zH ⟨(BB.out.cell (p:=⟨bO,0,none⟩) hbO).trans cO,(BB.out.cell (p:=⟨bS,0,none⟩) hbS).trans cS⟩))
 have HOB:Hid (wb.ownsRow W.heap.size 3 1 (.slice Ab (p + s.length) cb) (p + s.length) (ics (List.replicate p 0 ++ s))):=zH (by rw [XQ];exact hob);clear hob hgb hat SB SA HL1 HO1 hmk;have hWb:W.heap.size <= wb.heap.size:=BB.out.size
 gi_wp2_with (gi_at_builtin;refine wpListIn_append_own_at _ rfl (.tmp 11) (.tmp 12) _ rfl W.heap.size 3 i0 _ 1 8 Tryz.underlying40 TI.out TZ0.out TZ1.out TZ2.out rfl (by omega) (.slice Ab (p + s.length) cb) (p + s.length) (ics (List.replicate p 0 ++ s)) rfl (HOB.out.alloc _) ⟨wb.heap.size,0,none⟩ 1 1 [.int .i64 0] rfl (by simp) (cell_one_new _ _ _) (by simp [Value.oneCell']) (by unfold maxLen;omega) (by omega) (by simp;omega) ?_;intro v' w4 ho4 hg4 _ _;obtain ⟨A4,c4,rfl⟩:=Xe ho4)
 have HO4:Hid (w4.ownsRow W.heap.size 3 1 (.slice A4 (p + s.length + 1) c4) (p + s.length + 1) (ics (Zb o s))):=zH (by
  have e:Zb o s = (List.replicate p 0 ++ s) ++ [0]:=by unfold Zb;rw [HP.out]
  rw [e,XQ];exact ho4)
 have B4:Hid (Below W.heap.size W w4):=zH (Jz (((BB.out.alloc BB.out.size _).grown hg4 (by simp;omega) (fun k hk=>((HOB.out.alloc (.cells #[.int .i64 0] 3)).lt k hk).1))));obtain ⟨g,cap,hv',hgg,hglt⟩:=HO4.out.form (by omega);obtain rfl:A4 = some ⟨g,0,none⟩:=by injection hv'
 have hgt:g ≠ tb:=by have:=(HO4.out.lt g rfl).1;omega
 clear hv' cap ho4 hg4 HOB BB;have HFL:Hid ((Zb o s).length = p + s.length + 1):=zH (by rw [YR ho1];have:=HP.out;omega);have HLA:Hid (Lies w4 (some ⟨g,0,none⟩) (ics (Zb o s))):=zH (Lies.of_own HO4.out);have HCAP:Hid (p + s.length + 1 <= c4):=zH (US HO4.out);have HJ4:Hid (J 0 w4):=zH (HJB.out 0 W w4 (HJB.out 0 W.drew W HJD.out ⟨rfl,rfl,rfl,Nat.le_refl _,fun _ _=>rfl⟩) B4.out);have c4O:=(B4.out.cell (p:=⟨bO,0,none⟩) hbO).trans cO;have hoI:(1:Int) <= (o:Int):=by omega
 clear cO cS;have HpO:Hid (p + 1 = o):=zH (by have:=HP.out;omega)
 gi_loopw [5] (fun i wr=>∃ k:Nat,i = .int .i64 k /\ k <= s.length + 1 /\ Hid (J k wr) /\ Hid (KpT tb w4 wr)) (fun i _=>s.length + 1 - (intOf i).toNat)
 case atStart=>exact ⟨0,rfl,by omega,HJ4,zH (KpT.refl _)⟩
 case round=>
  obtain ⟨k,rfl,hk,hJ,hK⟩:=hrel;clear HJ4;have wO:=hK.out.cell hto c4O;have hpo:=HpO.out;by_cases hlt:k < s.length + 1
  ·have h1:(k:Int) + (o:Int) <= (p:Int) + (s.length:Int) + 1:=by omega
   have h2:(k:Int) + (o:Int) <= 9223372036854775807:=(by omega);have HLk:Hid (Lies wr (some ⟨g,k,none⟩) (ics (Jr o s k))):=zH (by
    unfold Jr;exact (hK.out.lies (fun b off e=>by cases e;exact hgt) HLA.out).cut3 (by rw [HFL.out];omega))
   have hcut:∀ W,(Instr.slice 40 (.slice (some ⟨g,0,none⟩) (p + s.length + 1) c4) (some (.int .i64 (k:Int))) (some (.int .i64 ((k:Int) + (o:Int)))) (some (.int .i64 ((k:Int) + (o:Int))))).run Tryz.prog W = .ok (.slice (some ⟨g,k,none⟩) o o) W:=fun W=>by
    have:=ZcT g (p + s.length + 1) c4 k (k + o) (by omega) (by have:=HCAP.out;omega) W;rw [Int.natCast_add] at this;rw [this];simp
   obtain ⟨fn,tmps,assign,body,hy,hR⟩:=hY.out k _ wr hJ.out ⟨some ⟨g,k,none⟩,rfl,HLk.out⟩ hlt;have HR:=zH hR;clear hR hpo
   gi_wp2
   refine HR.out.mono ?_;rintro e W3 ⟨rfl,hJ3,hk3⟩;have K3:=zH (hK.out.trans hk3);have HJ3:=zH hJ3;clear HR hJ3 hk3 hy
   gi_wp2
   go_roundw
   case rel=>exact ⟨k + 1,by go_num,by omega,HJ3,K3⟩
   case measure=>simp [intOf];omega
  ·obtain rfl:k = s.length + 1:=by omega
   have h1:¬ ((s.length:Int) + 1 + (o:Int) <= (p:Int) + (s.length:Int) + 1):=(by omega);clear hpo
   gi_wp2
   go_end0
   exact ⟨⟨_,rfl⟩,hJ.out⟩
end Go.Proofs.YtcjicjfbippmnaaGreat
