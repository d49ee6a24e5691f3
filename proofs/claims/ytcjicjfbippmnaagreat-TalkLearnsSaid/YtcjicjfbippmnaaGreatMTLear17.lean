/- TalkLearns -/
import Derived.Test.YtcjicjfbippmnaaGreatMTLear16
set_option maxRecDepth 100000
set_option maxHeartbeats 32000000
namespace Go.Proofs.YtcjicjfbippmnaaGreat
open Go.RowKit Ear
set_option linter.unusedVariables false

theorem ZfG (n:Nat) (X:Nat -> Fr) (Q acc:Nat -> Rat) (A:Option Addr) (c:Nat) (w:World) (h0:acc 0 = ((0:Int):Rat)) (hl:FL w A n X Q) (hn:n <= 1000000) (hacc:∀ k,k < n -> acc (k + 1) = acc k + Q k) (hsz:∀ k,k <= n -> Sz (acc k) 190000) (hq:∀ k,k < n -> Few (X k) 190000) :
  Calls Tryz.prog 67 #[.slice A n c] w (Z5 (acc n) w):=by
 obtain ⟨W,hW⟩:∃ W:World,W = w.alloc (.cells #[.bool false,.slice none 0 0,.slice none 0 0] 28):=⟨_,rfl⟩;have HB0:Hid (Below w.heap.size w W):=zH (by rw [hW];exact bR.alloc nR _);have HBX:Hid (Bt 28 W w.heap.size):=zH (by rw [hW];exact Bt.new _ w);have C1:=zH (VK 0 W (by decide) (by decide));have C2:=zH (fun (s:Fr) (u:World) (hb:Below W.heap.size W u) (hs:Nm u s (acc 0))=>Zga n X Q acc A c s u hs ((hl.below HB0.out).below hb) hn hacc hsz hq);have C3:=zH (fun (r:Fr) (u:World) (hr:Nm u r (acc n))=>Zc r (acc n) u hr ((hsz n nR).mono (by decide)));have H0:=zH h0;clear hl hacc hsz hq h0;go_enter Tryz.func67,Tryz.ntmps67;go_wp2_with fail;rw [<- hW];clear hW;refine C1.out.mono ?_;rintro e w1 ⟨s,rfl,hs,hb1⟩;have S1:=zH (show Nm w1 s (acc 0) by rw [H0.out];exact hs);have B1:=zH hb1;clear hs hb1;go_wp2_with fail;refine (C2.out s w1 B1.out S1.out).mono ?_;rintro e w2 ⟨r,rfl,hr,hb2⟩;have R2:=zH hr;have B2:=zH (B1.out.trans (hb2.mono B1.out.size));clear hr hb2;go_wp2_with fail;refine (C3.out r w2 R2.out).mono ?_;rintro e w3 ⟨f,rfl,hf,hb3⟩;have R3:=zH hf;have B3:=zH (B2.out.trans (hb3.mono B2.out.size));have X3:=zH (HBX.out.below B3.out);have BW:=zH (HB0.out.trans (B3.out.mono HB0.out.size));clear hf hb3 B1 B2 B3 S1 R2 C1 C2 C3 HBX HB0;obtain ⟨k0,k1,k2,f0,f1,f2⟩:=X3.out.facts;obtain ⟨rn,rA,rc,rN,rB,rd,rD⟩:=f;go_wp2_with fail;obtain ⟨g0,g1,g2⟩:=Z6 (.bool rn) (.slice rA rN.length rc) (.slice rB rD.length rd) k0 k1 k2;refine bodyPost_ret (v:=.agg #[.bool rn,.slice rA rN.length rc,.slice rB rD.length rd]) (by simp [results,Tryz.results67,go_sem,g0,g1,g2]) rfl ?_;exact ⟨⟨rn,rA,rc,rN,rB,rd,rD⟩,rfl,J1 R3.out X3.out _ _ _,Jj BW.out nR _ _ _⟩
theorem Zd5 (n:Nat) (X:Nat -> Fr) (Q acc:Nat -> Rat) (A:Option Addr) (c:Nat) (w:World) (h0:acc 0 = ((1:Int):Rat)) (hl:FL w A n X Q) (hn:n <= 1000000) (hacc:∀ k,k < n -> acc (k + 1) = acc k * Q k) (hsz:∀ k,k <= n -> Sz (acc k) 190000) (hq:∀ k,k < n -> Few (X k) 190000) :
  Calls Tryz.prog 165 #[.slice A n c] w (Z5 (acc n) w):=by
 obtain ⟨W,hW⟩:∃ W:World,W = w.alloc (.cells #[.bool false,.slice none 0 0,.slice none 0 0] 28):=⟨_,rfl⟩;have HB0:Hid (Below w.heap.size w W):=zH (by rw [hW];exact bR.alloc nR _);have HBX:Hid (Bt 28 W w.heap.size):=zH (by rw [hW];exact Bt.new _ w);have C1:=zH (VK 1 W (by decide) (by decide));have C2:=zH (fun (s:Fr) (u:World) (hb:Below W.heap.size W u) (hs:Nm u s (acc 0))=>Zf9 n X Q acc A c s u hs ((hl.below HB0.out).below hb) hn hacc hsz hq);have C3:=zH (fun (r:Fr) (u:World) (hr:Nm u r (acc n))=>Zc r (acc n) u hr ((hsz n nR).mono (by decide)));have H0:=zH h0;clear hl hacc hsz hq h0;go_enter Tryz.func165,Tryz.ntmps165;go_wp2_with fail;rw [<- hW];clear hW;refine C1.out.mono ?_;rintro e w1 ⟨s,rfl,hs,hb1⟩;have S1:=zH (show Nm w1 s (acc 0) by rw [H0.out];exact hs);have B1:=zH hb1;clear hs hb1;go_wp2_with fail;refine (C2.out s w1 B1.out S1.out).mono ?_;rintro e w2 ⟨r,rfl,hr,hb2⟩;have R2:=zH hr;have B2:=zH (B1.out.trans (hb2.mono B1.out.size));clear hr hb2;go_wp2_with fail;refine (C3.out r w2 R2.out).mono ?_;rintro e w3 ⟨f,rfl,hf,hb3⟩;have R3:=zH hf;have B3:=zH (B2.out.trans (hb3.mono B2.out.size));have X3:=zH (HBX.out.below B3.out);have BW:=zH (HB0.out.trans (B3.out.mono HB0.out.size));clear hf hb3 B1 B2 B3 S1 R2 C1 C2 C3 HBX HB0;obtain ⟨k0,k1,k2,f0,f1,f2⟩:=X3.out.facts;obtain ⟨rn,rA,rc,rN,rB,rd,rD⟩:=f;go_wp2_with fail;obtain ⟨g0,g1,g2⟩:=Z6 (.bool rn) (.slice rA rN.length rc) (.slice rB rD.length rd) k0 k1 k2;refine bodyPost_ret (v:=.agg #[.bool rn,.slice rA rN.length rc,.slice rB rD.length rd]) (by simp [results,Tryz.results165,go_sem,g0,g1,g2]) rfl ?_;exact ⟨⟨rn,rA,rc,rN,rB,rd,rD⟩,rfl,J1 R3.out X3.out _ _ _,Jj BW.out nR _ _ _⟩
def two {α:Type} (x y : α):Nat -> α
 | 0=>x
 | _=>y
def ZiL (p q:Rat):Nat -> Rat
 | 0=>((0:Int):Rat)
 | 1=>p
 | _=>p + q
def ZiO (p q:Rat):Nat -> Rat
 | 0=>((1:Int):Rat)
 | 1=>p
 | _=>p * q
theorem FL.two {w:World} {k:Nat} {x y:Fr} {p q:Rat} (hk:k < w.heap.size) (h:w.heap[k]? = some (.cells #[.bool x.neg,.slice x.A x.N.length x.c,.slice x.B x.D.length x.d,.bool y.neg,.slice y.A y.N.length y.c,.slice y.B y.D.length y.d] 28 (0,0))) (hx:Fv w x p) (hy:Fv w y q):FL w (some ⟨k,0,none⟩) 2 (two x y) (two p q):=fun j hj=>by
 rcases (show j = 0 ∨ j = 1 by omega) with rfl | rfl
 ·refine ⟨k,0,rfl,hk,?_,?_,?_,hx⟩
  ·rw [cell_of_row w k _ _ _ _ h];rfl
  ·rw [cell_of_row w k _ _ _ _ h];rfl
  ·rw [cell_of_row w k _ _ _ _ h];rfl
 ·refine ⟨k,0,rfl,hk,?_,?_,?_,hy⟩
  ·rw [cell_of_row w k _ _ _ _ h];rfl
  ·rw [cell_of_row w k _ _ _ _ h];rfl
  ·rw [cell_of_row w k _ _ _ _ h];rfl
theorem ZgV (p q:Rat):(∀ k,k < 2 -> ZiL p q (k + 1) = ZiL p q k + two p q k):=fun k hk=>by
 rcases (show k = 0 ∨ k = 1 by omega) with rfl | rfl
 ·show p = ((0:Int):Rat) + p;rw [show ((0:Int):Rat) = 0 from rfl,Rat.zero_add]
 ·rfl
theorem Zg7 (p q:Rat):(∀ k,k < 2 -> ZiO p q (k + 1) = ZiO p q k * two p q k):=fun k hk=>by
 rcases (show k = 0 ∨ k = 1 by omega) with rfl | rfl
 ·show p = ((1:Int):Rat) * p;rw [show ((1:Int):Rat) = 1 from rfl,Rat.one_mul]
 ·rfl
theorem ZfJ (x y:Fr) (p q:Rat) (w:World) (hx:Fv w x p) (hy:Fv w y q) (fx:Few x 90000) (fy:Few y 90000):Calls Tryz.prog 21 #[x.val,y.val] w (Z5 (p + q) w):=by
 have sp:=hx.sz fx (by decide);have sq:=hy.sz fy (by decide);have C1:=zH (fun (k:Nat) (u:World) (hl:FL u (some ⟨k,0,none⟩) 2 (two x y) (two p q))=>ZfG 2 (two x y) (two p q) (ZiL p q) (some ⟨k,0,none⟩) 2 u rfl hl (by decide) (ZgV p q) (fun k hk=>by
   rcases (show k = 0 ∨ k = 1 ∨ k = 2 by omega) with rfl | rfl | rfl
   ·exact (Sz.i64 (by decide) (by decide)).mono (by decide)
   ·exact sp.mono (by decide)
   ·exact (sp.add sq).mono (by decide)) (fun k hk=>by
   rcases (show k = 0 ∨ k = 1 by omega) with rfl | rfl
   ·exact ⟨tR fx.n (by decide),tR fx.d (by decide)⟩
   ·exact ⟨tR fy.n (by decide),tR fy.d (by decide)⟩))
 obtain ⟨W,hW⟩:∃ W:World,W = (((w.alloc (.cells #[.bool x.neg,.slice x.A x.N.length x.c,.slice x.B x.D.length x.d] 28)).alloc (.cells #[.bool y.neg,.slice y.A y.N.length y.c,.slice y.B y.D.length y.d] 28)).alloc (.cells #[.bool false,.slice none 0 0,.slice none 0 0] 28)).alloc (.cells #[.bool x.neg,.slice x.A x.N.length x.c,.slice x.B x.D.length x.d,.bool y.neg,.slice y.A y.N.length y.c,.slice y.B y.D.length y.d] 28):=⟨_,rfl⟩;have HB0:Hid (Below w.heap.size w W):=zH (by rw [hW];exact ((al2 w _ _).alloc (by simp;omega) _).alloc (by simp;omega) _);have HBX:Hid (Bt 28 W (w.heap.size + 1 + 1)):=zH (by rw [hW];have:=(Bt.new 28 ((w.alloc (.cells #[.bool x.neg,.slice x.A x.N.length x.c,.slice x.B x.D.length x.d] 28)).alloc (.cells #[.bool y.neg,.slice y.A y.N.length y.c,.slice y.B y.D.length y.d] 28))).alloc (.cells #[.bool x.neg,.slice x.A x.N.length x.c,.slice x.B x.D.length x.d,.bool y.neg,.slice y.A y.N.length y.c,.slice y.B y.D.length y.d] 28);simpa using this);have HFL:Hid (FL W (some ⟨w.heap.size + 3,0,none⟩) 2 (two x y) (two p q)):=zH (FL.two (by rw [hW];simp) (by rw [hW];have:=heap_alloc_new (((w.alloc (.cells #[.bool x.neg,.slice x.A x.N.length x.c,.slice x.B x.D.length x.d] 28)).alloc (.cells #[.bool y.neg,.slice y.A y.N.length y.c,.slice y.B y.D.length y.d] 28)).alloc (.cells #[.bool false,.slice none 0 0,.slice none 0 0] 28)) (.cells #[.bool x.neg,.slice x.A x.N.length x.c,.slice x.B x.D.length x.d,.bool y.neg,.slice y.A y.N.length y.c,.slice y.B y.D.length y.d] 28);simpa using this) (hx.below HB0.out) (hy.below HB0.out));have C2:=zH (C1.out _ W HFL.out);clear C1 HFL hx hy fx fy sp sq;obtain ⟨xn,xA,xc,xN,xB,xd,xD⟩:=x;obtain ⟨yn,yA,yc,yN,yB,yd,yD⟩:=y;go_enter Tryz.func21,Tryz.ntmps21;go_wp2_with fail;rw [<- hW];clear hW;refine C2.out.mono ?_;rintro e w3 ⟨f,rfl,hf,hb3⟩;have R3:=zH hf;have X3:=zH (HBX.out.below hb3);have BW:=zH (HB0.out.trans (hb3.mono HB0.out.size));clear hf hb3 C2 HBX HB0;obtain ⟨k0,k1,k2,f0,f1,f2⟩:=X3.out.facts;obtain ⟨rn,rA,rc,rN,rB,rd,rD⟩:=f;go_wp2_with fail;obtain ⟨g0,g1,g2⟩:=Z6 (.bool rn) (.slice rA rN.length rc) (.slice rB rD.length rd) k0 k1 k2;refine bodyPost_ret (v:=.agg #[.bool rn,.slice rA rN.length rc,.slice rB rD.length rd]) (by simp [results,Tryz.results21,go_sem,g0,g1,g2]) rfl ?_;exact ⟨⟨rn,rA,rc,rN,rB,rd,rD⟩,rfl,J1 R3.out X3.out _ _ _,Jj BW.out (by omega) _ _ _⟩
theorem ZfH (x y:Fr) (p q:Rat) (w:World) (hx:Fv w x p) (hy:Fv w y q) (fx:Few x 90000) (fy:Few y 90000):Calls Tryz.prog 116 #[x.val,y.val] w (Z5 (p * q) w):=by
 have sp:=hx.sz fx (by decide);have sq:=hy.sz fy (by decide);have C1:=zH (fun (k:Nat) (u:World) (hl:FL u (some ⟨k,0,none⟩) 2 (two x y) (two p q))=>Zd5 2 (two x y) (two p q) (ZiO p q) (some ⟨k,0,none⟩) 2 u rfl hl (by decide) (Zg7 p q) (fun k hk=>by
   rcases (show k = 0 ∨ k = 1 ∨ k = 2 by omega) with rfl | rfl | rfl
   ·exact (Sz.i64 (by decide) (by decide)).mono (by decide)
   ·exact sp.mono (by decide)
   ·exact (sp.mul sq).mono (by decide)) (fun k hk=>by
   rcases (show k = 0 ∨ k = 1 by omega) with rfl | rfl
   ·exact ⟨tR fx.n (by decide),tR fx.d (by decide)⟩
   ·exact ⟨tR fy.n (by decide),tR fy.d (by decide)⟩))
 obtain ⟨W,hW⟩:∃ W:World,W = (((w.alloc (.cells #[.bool x.neg,.slice x.A x.N.length x.c,.slice x.B x.D.length x.d] 28)).alloc (.cells #[.bool y.neg,.slice y.A y.N.length y.c,.slice y.B y.D.length y.d] 28)).alloc (.cells #[.bool false,.slice none 0 0,.slice none 0 0] 28)).alloc (.cells #[.bool x.neg,.slice x.A x.N.length x.c,.slice x.B x.D.length x.d,.bool y.neg,.slice y.A y.N.length y.c,.slice y.B y.D.length y.d] 28):=⟨_,rfl⟩;have HB0:Hid (Below w.heap.size w W):=zH (by rw [hW];exact ((al2 w _ _).alloc (by simp;omega) _).alloc (by simp;omega) _);have HBX:Hid (Bt 28 W (w.heap.size + 1 + 1)):=zH (by rw [hW];have:=(Bt.new 28 ((w.alloc (.cells #[.bool x.neg,.slice x.A x.N.length x.c,.slice x.B x.D.length x.d] 28)).alloc (.cells #[.bool y.neg,.slice y.A y.N.length y.c,.slice y.B y.D.length y.d] 28))).alloc (.cells #[.bool x.neg,.slice x.A x.N.length x.c,.slice x.B x.D.length x.d,.bool y.neg,.slice y.A y.N.length y.c,.slice y.B y.D.length y.d] 28);simpa using this);have HFL:Hid (FL W (some ⟨w.heap.size + 3,0,none⟩) 2 (two x y) (two p q)):=zH (FL.two (by rw [hW];simp) (by rw [hW];have:=heap_alloc_new (((w.alloc (.cells #[.bool x.neg,.slice x.A x.N.length x.c,.slice x.B x.D.length x.d] 28)).alloc (.cells #[.bool y.neg,.slice y.A y.N.length y.c,.slice y.B y.D.length y.d] 28)).alloc (.cells #[.bool false,.slice none 0 0,.slice none 0 0] 28)) (.cells #[.bool x.neg,.slice x.A x.N.length x.c,.slice x.B x.D.length x.d,.bool y.neg,.slice y.A y.N.length y.c,.slice y.B y.D.length y.d] 28);simpa using this) (hx.below HB0.out) (hy.below HB0.out));have C2:=zH (C1.out _ W HFL.out);clear C1 HFL hx hy fx fy sp sq;obtain ⟨xn,xA,xc,xN,xB,xd,xD⟩:=x;obtain ⟨yn,yA,yc,yN,yB,yd,yD⟩:=y;go_enter Tryz.func116,Tryz.ntmps116;go_wp2_with fail;rw [<- hW];clear hW;refine C2.out.mono ?_;rintro e w3 ⟨f,rfl,hf,hb3⟩;have R3:=zH hf;have X3:=zH (HBX.out.below hb3);have BW:=zH (HB0.out.trans (hb3.mono HB0.out.size));clear hf hb3 C2 HBX HB0;obtain ⟨k0,k1,k2,f0,f1,f2⟩:=X3.out.facts;obtain ⟨rn,rA,rc,rN,rB,rd,rD⟩:=f;go_wp2_with fail;obtain ⟨g0,g1,g2⟩:=Z6 (.bool rn) (.slice rA rN.length rc) (.slice rB rD.length rd) k0 k1 k2;refine bodyPost_ret (v:=.agg #[.bool rn,.slice rA rN.length rc,.slice rB rD.length rd]) (by simp [results,Tryz.results116,go_sem,g0,g1,g2]) rfl ?_;exact ⟨⟨rn,rA,rc,rN,rB,rd,rD⟩,rfl,J1 R3.out X3.out _ _ _,Jj BW.out (by omega) _ _ _⟩
theorem Zb0 (z:Int) (w:World) (h1 : -9223372036854775808 <= z) (h2:z <= 9223372036854775807):Calls Tryz.prog 115 #[.int .i64 z] w (Z5 (z:Rat) w):=by
 obtain ⟨W,hW⟩:∃ W:World,W = w.alloc (.cells #[.bool false,.slice none 0 0,.slice none 0 0] 28):=⟨_,rfl⟩;have HB0:Hid (Below w.heap.size w W):=zH (by rw [hW];exact bR.alloc nR _);have HBX:Hid (Bt 28 W w.heap.size):=zH (by rw [hW];exact Bt.new _ w);have C1:=zH (VK z W h1 h2);have C3:=zH (fun (r:Fr) (u:World) (hr:Nm u r (z:Rat))=>Zc r (z:Rat) u hr ((Sz.i64 h1 h2).mono (by decide)));go_enter Tryz.func115,Tryz.ntmps115;go_wp2_with fail;rw [<- hW];clear hW;refine C1.out.mono ?_;rintro e w2 ⟨r,rfl,hr,hb2⟩;have R2:=zH hr;have B2:=zH hb2;clear hr hb2;go_wp2_with fail;refine (C3.out r w2 R2.out).mono ?_;rintro e w3 ⟨f,rfl,hf,hb3⟩;have R3:=zH hf;have B3:=zH (B2.out.trans (hb3.mono B2.out.size));have X3:=zH (HBX.out.below B3.out);have BW:=zH (HB0.out.trans (B3.out.mono HB0.out.size));clear hf hb3 B2 B3 R2 C1 C3 HBX HB0;obtain ⟨k0,k1,k2,f0,f1,f2⟩:=X3.out.facts;obtain ⟨rn,rA,rc,rN,rB,rd,rD⟩:=f;go_wp2_with fail;obtain ⟨g0,g1,g2⟩:=Z6 (.bool rn) (.slice rA rN.length rc) (.slice rB rD.length rd) k0 k1 k2;refine bodyPost_ret (v:=.agg #[.bool rn,.slice rA rN.length rc,.slice rB rD.length rd]) (by simp [results,Tryz.results115,go_sem,g0,g1,g2]) rfl ?_;exact ⟨⟨rn,rA,rc,rN,rB,rd,rD⟩,rfl,J1 R3.out X3.out _ _ _,Jj BW.out nR _ _ _⟩
theorem UH (x:Fr) (q:Rat) (w:World) (hx:Fv w x q) (fx:Few x 390000) (r:Int) (hr:Hid (YZ q = r)):Calls Tryz.prog 19 #[x.val] w fun e w'=>e = .returned (.int .i64 r) /\ Below w.heap.size w w':=by
 obtain ⟨W,hW⟩:∃ W:World,W = w.alloc (.cells #[.bool x.neg,.slice x.A x.N.length x.c,.slice x.B x.D.length x.d] 28):=⟨_,rfl⟩;have HB0:Hid (Below w.heap.size w W):=zH (by rw [hW];exact bR.alloc nR _);have C1:=zH (XU x q W (hx.below HB0.out) fx);have C2:=zH (fun (y:Fr) (u:World) (hy:Nm u y q)=>ZaZ y q u hy r hr);obtain ⟨xn,xA,xc,xN,xB,xd,xD⟩:=x;clear hx fx;go_enter Tryz.func19,Tryz.ntmps19;go_wp2_with fail;rw [<- hW];clear hW;refine C1.out.mono ?_;rintro e w2 ⟨y,rfl,hy,hb2⟩;have R2:=zH hy;have B2:=zH hb2;clear hy hb2;go_wp2_with fail;refine (C2.out y w2 R2.out).mono ?_;rintro e w3 ⟨rfl,hb3⟩;have B3:=zH (B2.out.trans (hb3.mono B2.out.size));clear hb3;go_wp2_with fail;go_ret;exact ⟨rfl,HB0.out.trans (B3.out.mono HB0.out.size)⟩
end Go.Proofs.YtcjicjfbippmnaaGreat
namespace Go
section
variable {P:Program} {ops:Array Oper} {Q:Exit -> Act -> World -> Prop}
theorem ZH {id:Nat} {a:Act} {w:World} (n N:Nat) (hN:a.tmps.size = N) (hm:P.follows .mixedOrders = true) (hP1:Region.popB .any ops (n + 1) = true) (hP2:Region.popB .any ops.pop n = true) (hB:Region.backB ops.pop.pop = true) (hD:Region.dstB ops.pop.pop N = true) (S:World -> Prop) (T:World -> World -> Prop) (G:Nat -> Value -> World -> Prop)
  (hG:∀ j v w w',G j v w -> T w w' -> G j v w') (hS:S w.drew) (hs:Js P ops.pop.pop (PopQ P ops.pop n (PopQ P ops (n + 1) Q)) a S T G ops.pop.pop.toList 0)
  (hend:∀ b u,b.tmps.size = N -> b.defers = a.defers -> S u -> (∀ j o,ops.pop.pop[j]? = some o -> G j (o.left b) u) -> (∀ k,Region.freeB ops.pop.pop k = true -> b.tmps.getD k undef = a.tmps.getD k undef) -> PopQ P ops.pop n (PopQ P ops (n + 1) Q) .normal b u):(Code.region id ops true).wp P Q a w:=by
 have hs1:=Region.popB_size hP1;have hs2:=Region.popB_size hP2;have hsz:ops.pop.pop.size = n:=by simp [hs1]
 refine wp_region_any hm ?_;have key:=ZR (P:=P) (ops:=ops.pop.pop) (Q:=PopQ P ops.pop n (PopQ P ops (n + 1) Q)) (a:=a) N hN hB hD S T G hG hs hend n (Array.replicate n false) a w.drew hS ⟨rfl,rfl,by simp [hs1],?_,fun _ _=>rfl,?_⟩ ?_ ?_
 ·have h2:=Z8 hP2 n (Array.replicate n false) a w.drew (by simp) (ClosedL.start' _) key;rw [show ((Array.replicate n false).push false) = Array.replicate (n + 1) false from Array.replicate_succ.symm] at h2;have h1:=Z8 hP1 (n + 1) (Array.replicate (n + 1) false) a w.drew (by simp) (ClosedL.start' _) h2;rw [hs1,show (Array.replicate (n + 1 + 1) false) = (Array.replicate (n + 1) false).push false from Array.replicate_succ];exact h1
 ·intro j o ho hl;rw [Array.getD_eq_getD_getElem?,Array.getElem?_replicate] at hl;split at hl <;> simp at hl
 ·intro j o ho hl;rw [Array.getD_eq_getD_getElem?,Array.getElem?_replicate] at hl;split at hl <;> simp at hl
 ·intro h0;unfold Region.ready;rw [hsz,h0];rfl
 ·simp only [Array.toList_replicate,List.countP_replicate];split <;> omega
end
end Go
namespace Go.Proofs.YtcjicjfbippmnaaGreat
open Go.RowKit Ear
set_option linter.unusedVariables false

theorem ZfI (x y:Fr) (p q:Rat) (w:World) (hx:Fv w x p) (hy:Fv w y q) (fx:Few x 90000) (fy:Few y 90000) (q0:q ≠ 0):Calls Tryz.prog 117 #[x.val,y.val] w fun e w'=>∃ r:Fr,e = .returned (.tuple #[r.val,.int .i64 0]) /\ Fq w' r (p * q⁻¹) /\ Below w.heap.size w w':=by
 have sp:=hx.sz fx (by decide);have sq:=hy.sz fy (by decide);obtain ⟨W,hW⟩:∃ W:World,W = ((w.alloc (.cells #[.bool x.neg,.slice x.A x.N.length x.c,.slice x.B x.D.length x.d] 28)).alloc (.cells #[.bool y.neg,.slice y.A y.N.length y.c,.slice y.B y.D.length y.d] 28)).alloc (.cells #[.bool false,.slice none 0 0,.slice none 0 0] 28):=⟨_,rfl⟩;have HB0:Hid (Below w.heap.size w W):=zH (by rw [hW];exact (al2 w _ _).alloc (by simp;omega) _);have HBX:Hid (Bt 28 W (w.heap.size + 1 + 1)):=zH (by rw [hW];have:=(Bt.new 28 ((w.alloc (.cells #[.bool x.neg,.slice x.A x.N.length x.c,.slice x.B x.D.length x.d] 28)).alloc (.cells #[.bool y.neg,.slice y.A y.N.length y.c,.slice y.B y.D.length y.d] 28)));simpa using this);have HC0:Hid (∀ u,Below W.heap.size W u -> u.cell? ⟨w.heap.size,0,none⟩ = some (.bool x.neg) /\ u.cell? ⟨w.heap.size,1,none⟩ = some (.slice x.A x.N.length x.c) /\ u.cell? ⟨w.heap.size,2,none⟩ = some (.slice x.B x.D.length x.d)):=zH (fun u hu=>by
  have hs:W.heap.size = w.heap.size + 3:=by rw [hW];simp
  rw [hu.cell (p:=⟨w.heap.size,0,none⟩) (by simp;omega),hu.cell (p:=⟨w.heap.size,1,none⟩) (by simp;omega),hu.cell (p:=⟨w.heap.size,2,none⟩) (by simp;omega),hW];simp [go_sem])
 have C1:=zH (XU y q W (hy.below HB0.out) ⟨tR fy.n (by decide),tR fy.d (by decide)⟩);have HX:=zH (hx.below HB0.out);have XF:Hid (Few x 390000):=zH ⟨tR fx.n (by decide),tR fx.d (by decide)⟩;clear hx hy fx fy;go_enter Tryz.func117,Tryz.ntmps117;go_wp2_with fail;rw [<- hW];clear hW;refine C1.out.mono ?_;clear C1;rintro e w1 ⟨r,rfl,hr,hb1⟩;obtain ⟨V,hV⟩:∃ V:World,V = w1.alloc (.cells #[.bool r.neg,.slice r.A r.N.length r.c,.slice r.B r.D.length r.d] 119):=⟨_,rfl⟩;have BV0:Hid (Below w1.heap.size w1 V):=zH (by rw [hV];exact bR.alloc nR _);have B1:=zH (hb1.trans (BV0.out.mono hb1.size));have HR:=zH (hr.below BV0.out);have HBXV:=zH (HBX.out.below B1.out);have HB0V:=zH (HB0.out.trans (B1.out.mono HB0.out.size));have HXV:=zH (HX.out.below B1.out);have HCV:Hid (∀ u,Below V.heap.size V u -> u.cell? ⟨w.heap.size,0,none⟩ = some (.bool x.neg) /\ u.cell? ⟨w.heap.size,1,none⟩ = some (.slice x.A x.N.length x.c) /\ u.cell? ⟨w.heap.size,2,none⟩ = some (.slice x.B x.D.length x.d) /\ u.cell? ⟨w1.heap.size,0,none⟩ = some (.bool r.neg) /\ u.cell? ⟨w1.heap.size,1,none⟩ = some (.slice r.A r.N.length r.c) /\ u.cell? ⟨w1.heap.size,2,none⟩ = some (.slice r.B r.D.length r.d)):=zH (fun u hu=>by
  obtain ⟨a0,a1,a2⟩:=HC0.out u (B1.out.trans (hu.mono B1.out.size));have hvs:w1.heap.size < V.heap.size:=by rw [hV];simp
  refine ⟨a0,a1,a2,?_,?_,?_⟩
  ·rw [hu.cell (p:=⟨w1.heap.size,0,none⟩) hvs,hV];simp [go_sem]
  ·rw [hu.cell (p:=⟨w1.heap.size,1,none⟩) hvs,hV];simp [go_sem]
  ·rw [hu.cell (p:=⟨w1.heap.size,2,none⟩) hvs,hV];simp [go_sem])
 obtain ⟨y0,y1,y2,y3,y4,y5⟩:=HCV.out V bR;have Z1:=zH (ZaY r q V HR.out false (zH (by simp [q0])));clear hr hb1 BV0 B1 HBX HB0 HC0 HX;go_wp2_with fail;rw [<- hV];clear hV;refine Z1.out.mono ?_;rintro e w2 ⟨rfl,hb2⟩;have X2:=zH (HBXV.out.below hb2);have B2:=zH (HB0V.out.trans (hb2.mono HB0V.out.size));have R2:=zH (HR.out.below hb2);have HX2:=zH (HXV.out.below hb2);have HC2:=zH (fun u (hu:Below w2.heap.size w2 u)=>HCV.out u (hb2.trans (hu.mono hb2.size)));clear Z1 HBXV HB0V HR HXV HCV y0 y1 y2 y3 y4 y5 hb2;go_wp2_with fail
 -- MARK
 have hi:=UV q0;have si:Sz q⁻¹ 90000:=⟨by rw [hi.2.1];exact sq.den,by rw [hi.2.2];exact sq.num⟩;have sr:Sz (p * q⁻¹) 900000:=(sp.mul si).mono (by decide);clear hi sq;refine ZH 6 18 rfl (by kernel_rfl) (by kernel_rfl) (by kernel_rfl) (by kernel_rfl) (by kernel_rfl) (fun u=>Below w2.heap.size w2 u) (fun u u'=>Below u.heap.size u u') (Gl [isV (x.val),isNm (p),isV (r.val),isNm ((q)⁻¹),isNm (p * (q)⁻¹),isFq (p * (q)⁻¹)]) (Gl.keep (by
   intro p hp;simp only [List.mem_cons,List.not_mem_nil,or_false] at hp;rcases hp with rfl | rfl | rfl | rfl | rfl | rfl
   ·exact Keeps.isV _
   ·exact Keeps.isNm _
   ·exact Keeps.isV _
   ·exact Keeps.isNm _
   ·exact Keeps.isNm _
   ·exact Keeps.isFq _)) ?_ ?_ ?_
 ·exact (Below.refl _ w2).drew
 ·simp only [List.pop_toArray,List.dropLast,Js];refine ⟨?_,?_,?_,?_,?_,?_,trivial⟩
  ·intro bb u su dp kp K hK;have e2:gT bb 2 = .pointer (some ⟨w.heap.size,0,none⟩):=kp 2 (by kernel_rfl);obtain ⟨cc0,cc1,cc2,cc3,cc4,cc5⟩:=HC2.out u su;go_simp;exact hK _ _ su bR rfl
  ·intro bb u su dp kp K hK;have e12:gT bb 12 = x.val:=dp 0 _ rfl (by kernel_rfl);go_simp;refine (XU x (p) u (HX2.out.below su) XF.out).mono ?_;rintro e w' ⟨r,rfl,hr,h4⟩;go_simp;exact hK _ _ (su.trans (h4.mono su.size)) h4 ⟨r,rfl,zH hr⟩
  ·intro bb u su dp kp K hK;have e6:gT bb 6 = .pointer (some ⟨w1.heap.size,0,none⟩):=kp 6 (by kernel_rfl);obtain ⟨cc0,cc1,cc2,cc3,cc4,cc5⟩:=HC2.out u su;go_simp;exact hK _ _ su bR rfl
  ·intro bb u su dp kp K hK;have e14:gT bb 14 = r.val:=dp 2 _ rfl (by kernel_rfl);go_simp;refine (Zfi r (q) u (R2.out.below su) q0).mono ?_;rintro e w' ⟨r,rfl,hr,h4⟩;go_simp;exact hK _ _ (su.trans (h4.mono su.size)) h4 ⟨r,rfl,zH hr⟩
  ·intro bb u su dp kp K hK;obtain ⟨r13,e13,D13⟩:∃ r:Fr,gT bb 13 = r.val /\ Hid (Nm u r (p)):=dp 1 _ rfl (by kernel_rfl);obtain ⟨r15,e15,D15⟩:∃ r:Fr,gT bb 15 = r.val /\ Hid (Nm u r ((q)⁻¹)):=dp 3 _ rfl (by kernel_rfl);go_simp;refine (Zco r13 r15 (p) ((q)⁻¹) u D13.out D15.out (sp.mono (by decide)) (si.mono (by decide))).mono ?_;rintro e w' ⟨r,rfl,hr,h4⟩;go_simp;exact hK _ _ (su.trans (h4.mono su.size)) h4 ⟨r,rfl,zH hr⟩
  ·intro bb u su dp kp K hK;obtain ⟨r16,e16,D16⟩:∃ r:Fr,gT bb 16 = r.val /\ Hid (Nm u r (p * (q)⁻¹)):=dp 4 _ rfl (by kernel_rfl);go_simp;refine (Zc r16 (p * (q)⁻¹) u D16.out sr).mono ?_;rintro e w' ⟨r,rfl,hr,h4⟩;go_simp;exact hK _ _ (su.trans (h4.mono su.size)) h4 ⟨r,rfl,zH hr⟩
 ·intro bb u hN hdf su hG sm;obtain ⟨f,e17,hr⟩:∃ r:Fr,gT bb 17 = r.val /\ Hid (Fq u r (p * q⁻¹)):=hG 5 _ rfl;have e4:gT bb 4 = .pointer (some ⟨w.heap.size + 1 + 1,0,none⟩):=sm 4 (by kernel_rfl);have e5:gT bb 5 = .int .i64 0:=sm 5 (by kernel_rfl);have BX2:=zH (X2.out.below su);obtain ⟨c0,c1,c2,f0,f1,f2⟩:=BX2.out.facts;have HB2:=zH (B2.out.trans (su.mono B2.out.size));clear su hG sm;rw [J0 bb 18 hN];simp only [show List.range 18 = [0,1,2,3,4,5,6,7,8,9,10,11,12,13,14,15,16,17] from rfl,List.map_cons,List.map_nil,e4,e5,e17,hdf];clear e4 e5 e17 hN hdf;generalize gT bb 0 = z0,gT bb 1 = z1,gT bb 2 = z2,gT bb 3 = z3,gT bb 6 = z6,gT bb 7 = z7,gT bb 8 = z8,gT bb 9 = z9,gT bb 10 = z10,gT bb 11 = z11,gT bb 12 = z12,gT bb 13 = z13,gT bb 14 = z14,gT bb 15 = z15,gT bb 16 = z16;obtain ⟨rn,rA,rc,rN,rB,rd,rD⟩:=f;refine PopQ.last rfl rfl (fun K hK=>?_);go_simp;refine hK _ _ ?_;clear hK K;refine PopQ.last rfl rfl (fun K hK=>?_);go_simp;refine hK _ _ ?_;clear hK K;go_wp2_with fail;obtain ⟨g0,g1,g2⟩:=Z6 (.bool rn) (.slice rA rN.length rc) (.slice rB rD.length rd) c0 c1 c2;refine bodyPost_ret (v:=.tuple #[.agg #[.bool rn,.slice rA rN.length rc,.slice rB rD.length rd],.int .i64 0]) (by simp [results,Tryz.results117,go_sem,g0,g1,g2]) rfl ?_;exact ⟨⟨rn,rA,rc,rN,rB,rd,rD⟩,rfl,J1 hr.out BX2.out _ _ _,Jj HB2.out (by omega) _ _ _⟩
theorem XS (x y:Fr) (p q:Rat) (w:World) (hx:Fv w x p) (hy:Fv w y q) (fx:Few x 90000) (fy:Few y 90000) (r:Int) (hr:Hid (YZ (p + -q) = r)):Calls Tryz.prog 20 #[x.val,y.val] w fun e w'=>e = .returned (.int .i64 r) /\ Below w.heap.size w w':=by
 have sp:=hx.sz fx (by decide);have sq:=hy.sz fy (by decide);obtain ⟨W,hW⟩:∃ W:World,W = (w.alloc (.cells #[.bool x.neg,.slice x.A x.N.length x.c,.slice x.B x.D.length x.d] 28)).alloc (.cells #[.bool y.neg,.slice y.A y.N.length y.c,.slice y.B y.D.length y.d] 28):=⟨_,rfl⟩;have HB0:Hid (Below w.heap.size w W):=zH (by rw [hW];exact al2 w _ _);have HC:Hid (∀ u,Below W.heap.size W u -> u.cell? ⟨w.heap.size,0,none⟩ = some (.bool x.neg) /\ u.cell? ⟨w.heap.size,1,none⟩ = some (.slice x.A x.N.length x.c) /\ u.cell? ⟨w.heap.size,2,none⟩ = some (.slice x.B x.D.length x.d) /\ u.cell? ⟨w.heap.size + 1,0,none⟩ = some (.bool y.neg) /\ u.cell? ⟨w.heap.size + 1,1,none⟩ = some (.slice y.A y.N.length y.c) /\ u.cell? ⟨w.heap.size + 1,2,none⟩ = some (.slice y.B y.D.length y.d)):=zH (fun u hu=>by
  have hs:W.heap.size = w.heap.size + 2:=by rw [hW];simp
  rw [hu.cell (p:=⟨w.heap.size,0,none⟩) (by simp;omega),hu.cell (p:=⟨w.heap.size,1,none⟩) (by simp;omega),hu.cell (p:=⟨w.heap.size,2,none⟩) (by simp;omega),hu.cell (p:=⟨w.heap.size + 1,0,none⟩) (by simp;omega),hu.cell (p:=⟨w.heap.size + 1,1,none⟩) (by simp;omega),hu.cell (p:=⟨w.heap.size + 1,2,none⟩) (by simp;omega),hW];simp [go_sem])
 have HX:=zH (hx.below HB0.out);have HY:=zH (hy.below HB0.out);have XF:Hid (Few x 390000):=zH ⟨tR fx.n (by decide),tR fx.d (by decide)⟩;have YF:Hid (Few y 390000):=zH ⟨tR fy.n (by decide),tR fy.d (by decide)⟩;clear hx hy fx fy;go_enter Tryz.func20,Tryz.ntmps20;go_wp2_with fail;rw [<- hW];clear hW;refine Ym 12 rfl (by kernel_rfl) (by kernel_rfl) (by kernel_rfl) (fun u=>Below W.heap.size W u) (fun u u'=>Below u.heap.size u u') (Gl [isV (x.val),isNm (p),isV (y.val),isNm (q),isNm (-q),isNm (p + -q),isV (.int .i64 (YZ (p + -q))),isV (.int .i64 (YZ (p + -q)))]) (Gl.keep (by
   intro p hp;simp only [List.mem_cons,List.not_mem_nil,or_false] at hp;rcases hp with rfl | rfl | rfl | rfl | rfl | rfl | rfl | rfl
   ·exact Keeps.isV _
   ·exact Keeps.isNm _
   ·exact Keeps.isV _
   ·exact Keeps.isNm _
   ·exact Keeps.isNm _
   ·exact Keeps.isNm _
   ·exact Keeps.isV _
   ·exact Keeps.isV _)) ?_ ?_ ?_
 ·exact (Below.refl _ W).drew
 ·simp only [Js];refine ⟨?_,?_,?_,?_,?_,?_,?_,?_,trivial⟩
  ·intro bb u su dp kp K hK;have e2:gT bb 2 = .pointer (some ⟨w.heap.size,0,none⟩):=kp 2 (by kernel_rfl);obtain ⟨cc0,cc1,cc2,cc3,cc4,cc5⟩:=HC.out u su;go_simp;exact hK _ _ su bR rfl
  ·intro bb u su dp kp K hK;have e5:gT bb 5 = x.val:=dp 0 _ rfl (by kernel_rfl);go_simp;refine (XU x (p) u (HX.out.below su) XF.out).mono ?_;rintro e w' ⟨r,rfl,hr,h4⟩;go_simp;exact hK _ _ (su.trans (h4.mono su.size)) h4 ⟨r,rfl,zH hr⟩
  ·intro bb u su dp kp K hK;have e3:gT bb 3 = .pointer (some ⟨w.heap.size + 1,0,none⟩):=kp 3 (by kernel_rfl);obtain ⟨cc0,cc1,cc2,cc3,cc4,cc5⟩:=HC.out u su;go_simp;exact hK _ _ su bR rfl
  ·intro bb u su dp kp K hK;have e7:gT bb 7 = y.val:=dp 2 _ rfl (by kernel_rfl);go_simp;refine (XU y (q) u (HY.out.below su) YF.out).mono ?_;rintro e w' ⟨r,rfl,hr,h4⟩;go_simp;exact hK _ _ (su.trans (h4.mono su.size)) h4 ⟨r,rfl,zH hr⟩
  ·intro bb u su dp kp K hK;obtain ⟨r8,e8,D8⟩:∃ r:Fr,gT bb 8 = r.val /\ Hid (Nm u r (q)):=dp 3 _ rfl (by kernel_rfl);go_simp;refine (Zc0 r8 (q) u D8.out).mono ?_;rintro e w' ⟨r,rfl,hr,h4⟩;go_simp;exact hK _ _ (su.trans (h4.mono su.size)) h4 ⟨r,rfl,zH hr⟩
  ·intro bb u su dp kp K hK;obtain ⟨r6,e6,D6⟩:∃ r:Fr,gT bb 6 = r.val /\ Hid (Nm u r (p)):=dp 1 _ rfl (by kernel_rfl);obtain ⟨r9,e9,D9⟩:∃ r:Fr,gT bb 9 = r.val /\ Hid (Nm u r (-q)):=dp 4 _ rfl (by kernel_rfl);go_simp;refine (Zcp r6 r9 (p) (-q) u D6.out D9.out (sp.mono (by decide)) (sq.neg.mono (by decide))).mono ?_;rintro e w' ⟨r,rfl,hr,h4⟩;go_simp;exact hK _ _ (su.trans (h4.mono su.size)) h4 ⟨r,rfl,zH hr⟩
  ·intro bb u su dp kp K hK;obtain ⟨r10,e10,D10⟩:∃ r:Fr,gT bb 10 = r.val /\ Hid (Nm u r (p + -q)):=dp 5 _ rfl (by kernel_rfl);go_simp;refine (ZaZ r10 (p + -q) u D10.out (YZ (p + -q)) (zH rfl)).mono ?_;rintro e w' ⟨rfl,h4⟩;go_simp;exact hK _ _ (su.trans (h4.mono su.size)) h4 rfl
  ·intro bb u su dp kp K hK;have e11:gT bb 11 = .int .i64 (YZ (p + -q)):=dp 6 _ rfl (by kernel_rfl);go_simp;exact hK _ _ su bR rfl
 ·intro bb u hN hdf su hG sm;have e4:gT bb 4 = .int .i64 (YZ (p + -q)):=hG 7 _ rfl;have HB2:=zH (HB0.out.trans (su.mono HB0.out.size));clear su hG sm;rw [J0 bb 12 hN];simp only [show List.range 12 = [0,1,2,3,4,5,6,7,8,9,10,11] from rfl,List.map_cons,List.map_nil,e4,hdf];clear e4 hN hdf;generalize gT bb 0 = z0,gT bb 1 = z1,gT bb 2 = z2,gT bb 3 = z3,gT bb 5 = z5,gT bb 6 = z6,gT bb 7 = z7,gT bb 8 = z8,gT bb 9 = z9,gT bb 10 = z10,gT bb 11 = z11;go_wp2_with fail;go_ret;exact ⟨by rw [<- hr.out];rfl,HB2.out⟩
end Go.Proofs.YtcjicjfbippmnaaGreat
namespace Go
def Qr (t:Array Value):List Bool -> Nat -> List Value -> List Value
 | [],_,_=>[]
 | _ :: _,_,[]=>[]
 | true :: ms,k,_ :: vs=>t.getD k undef :: Qr t ms (k + 1) vs
 | false :: ms,k,v :: vs=>v :: Qr t ms (k + 1) vs
theorem UQ (t:Array Value):∀ (m:List Bool) (k:Nat) (l:List Value),l.length = m.length -> (Qr t m k l).length = m.length:=by
 intro m
 induction m with
 | nil=>intro k l _;rfl
 | cons b m ih=>
  intro k l h;cases l with
  | nil=>simp at h
  | cons v l=>cases b <;> simp [Qr,ih (k + 1) l (by simpa using h)]
theorem ZfT (t:Array Value):∀ (m:List Bool) (k:Nat) (l:List Value),l.length = m.length -> ∀ j,j < m.length -> (Qr t m k l)[j]?.getD undef = if m[j]?.getD true then t.getD (k + j) undef else l[j]?.getD undef:=by
 intro m
 induction m with
 | nil=>intro k l _ j hj;simp at hj
 | cons b m ih=>
  intro k l h j hj;cases l with
  | nil=>simp at h
  | cons v l=>
   cases j with
   | zero=>cases b <;> simp [Qr]
   | succ j=>
    have:=ih (k + 1) l (by simpa using h) j (by simpa using hj);rw [show k + 1 + j = k + (j + 1) by omega] at this;cases b <;> simpa [Qr] using this
def Region.maskB (ops:Array Oper) (mask:List Bool):Bool:=(List.range mask.length).all fun k=>mask[k]?.getD true || Region.freeB ops k
theorem J5 {ops:Array Oper} (bb a:Act) (mask:List Bool) (l:List Value) (hl:a.tmps = l.toArray) (hN:bb.tmps.size = mask.length) (ha:l.length = mask.length) (hm:Region.maskB ops mask = true) (hd:bb.defers = a.defers)
  (hs:∀ k,Region.freeB ops k = true -> bb.tmps.getD k undef = a.tmps.getD k undef):bb = { tmps:=(Qr bb.tmps mask 0 l).toArray,defers:=a.defers }:=by
 obtain ⟨t,d⟩:=bb;simp only at *
 congr 1;apply Array.ext
 ·simp [UQ _ _ _ _ ha,hN]
 ·intro i h1 h2;have hi:i < mask.length:=by rw [<- hN];exact h1
  have h3:=ZfT t mask 0 l ha i hi;have h4:(Qr t mask 0 l).toArray[i] = (Qr t mask 0 l)[i]?.getD undef:=by
   rw [List.getElem?_eq_getElem (by rw [UQ _ _ _ _ ha];exact hi)];rfl
  rw [h4,h3];have h5:t[i] = t.getD i undef:=by rw [Array.getD_eq_getD_getElem?,Array.getElem?_eq_getElem h1];rfl
  rw [Nat.zero_add];refine h5.trans ?_;by_cases hb:mask[i]?.getD true = true
  ·rw [if_pos hb]
  ·rw [if_neg hb];have:=List.all_eq_true.1 hm i (List.mem_range.2 hi);simp only [Bool.or_eq_true] at this;rcases this with h | h
   ·exact absurd h hb
   ·rw [hs i h,hl,Array.getD_eq_getD_getElem?];simp
end Go
