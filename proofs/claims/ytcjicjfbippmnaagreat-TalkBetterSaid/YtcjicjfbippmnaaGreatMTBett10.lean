/- TalkBetter -/
import Derived.Test.YtcjicjfbippmnaaGreatMTBett9
set_option maxRecDepth 100000
set_option maxHeartbeats 32000000
namespace Ear

theorem Zjk {a:Bool} {n d:Nat} (hd:d ≠ 0):(nd (qn (fq a n d))).length <= (nd n).length /\ (nd (fq a n d).den).length <= (nd d).length:=by
 obtain ⟨_,h2,h3⟩:=ZJ (a:=a) (n:=n) hd;rw [h2,h3];exact ⟨Jj (Nat.div_le_self _ _),Jj (Nat.div_le_self _ _)⟩
structure Sz (q:Rat) (k:Nat):Prop where
 num:(nd (qn q)).length <= k
 den:(nd q.den).length <= k
theorem Sz.mono {q:Rat} {k l:Nat} (h:Sz q k) (hl:k <= l):Sz q l:=⟨Nat.le_trans h.num hl,Nat.le_trans h.den hl⟩
theorem Sz.fq {a:Bool} {n d k:Nat} (hd:d ≠ 0) (h1:(nd n).length <= k) (h2:(nd d).length <= k):Sz (Ear.fq a n d) k:=
 ⟨Nat.le_trans (Zjk hd).1 h1,Nat.le_trans (Zjk hd).2 h2⟩
theorem Sz.mul {p q:Rat} {k l:Nat} (h1:Sz p k) (h2:Sz q l):Sz (p * q) (k + l):=by
 have h:=ZfC (a:=qs p) (b:=qs q) (n:=qn p) (m:=qn q) p.den_nz q.den_nz;rw [XX,XX] at h;rw [h];have a1:=h1.num;have a2:=h1.den;have a3:=h2.num;have a4:=h2.den;exact Sz.fq (Nat.mul_ne_zero p.den_nz q.den_nz) (Nat.le_trans (JW _ _) (by omega)) (Nat.le_trans (JW _ _) (by omega))
theorem ZfB (p q:Rat):p + q = if qs p = qs q then fq (qs p) (qn p * q.den + qn q * p.den) (p.den * q.den) else if qn p * q.den < qn q * p.den then fq (qs q) (qn q * p.den - qn p * q.den) (p.den * q.den) else fq (qs p) (qn p * q.den - qn q * p.den) (p.den * q.den):=by
 conv=>lhs;rw [<- XX p,<- XX q]
 split
 ·rename_i h;rw [<- h];exact Zcr p.den_nz q.den_nz
 ·rename_i h;split
  ·rename_i h2;exact ZfD p.den_nz q.den_nz h (Nat.le_of_lt h2)
  ·rename_i h2;exact Zbx p.den_nz q.den_nz h (Nat.le_of_not_lt h2)
theorem Sz.add {p q:Rat} {k l:Nat} (h1:Sz p k) (h2:Sz q l):Sz (p + q) (k + l + 1):=by
 have hd:p.den * q.den ≠ 0:=Nat.mul_ne_zero p.den_nz q.den_nz;have a1:=h1.num;have a2:=h1.den;have a3:=h2.num;have a4:=h2.den;have b1:=JW (qn p) q.den;have b2:=JW (qn q) p.den;have b3:=JW p.den q.den;rw [ZfB];split
 ·exact Sz.fq hd (XP _ _ (k + l) (by omega) (by omega)) (by omega)
 ·split
  ·exact Sz.fq hd (Nat.le_trans (Jj (Nat.sub_le _ _)) (by omega)) (by omega)
  ·exact Sz.fq hd (Nat.le_trans (Jj (Nat.sub_le _ _)) (by omega)) (by omega)
theorem Zhz (q:Rat):qn (-q) = qn q:=by unfold qn;rw [Rat.neg_num];omega
theorem ZfN (q:Rat):(-q).den = q.den:=Rat.neg_den ..
theorem Sz.neg {q:Rat} {k:Nat} (h:Sz q k):Sz (-q) k:=⟨by rw [Zhz];exact h.num,by rw [ZfN];exact h.den⟩
theorem Sz.int {z:Int} {k:Nat} (h:(nd z.natAbs).length <= k) (h1 : 1 <= k):Sz (z:Rat) k:=
 ⟨by unfold qn;rw [Rat.num_intCast];exact h,by rw [Rat.den_intCast,ZS];exact h1⟩
theorem Sz.i64 {z:Int} (h1 : -9223372036854775808 <= z) (h2:z <= 9223372036854775807):Sz (z:Rat) 2:=
 Sz.int (JU (by simp;omega)) (by decide)
theorem Zjs (q:Rat):qs (-q) = (!qs q && decide (qn q ≠ 0)):=by
 unfold qs qn;rw [Rat.neg_num];generalize q.num = z;by_cases h1:z < 0
 ·simp [h1];omega
 ·by_cases h2:z = 0
  ·subst h2;simp
  ·have h3 : -z < 0:=by omega
   simp [h1,h2];omega
theorem ZeN {q:Rat}:qn q = 0 ↔ q = 0:=by
 unfold qn;rw [Int.natAbs_eq_zero];exact Rat.num_eq_zero
theorem Zv {q:Rat} (h:q ≠ 0):qs q⁻¹ = qs q /\ qn q⁻¹ = q.den /\ (q⁻¹).den = qn q:=by
 have hn:qn q ≠ 0:=fun e=>h (ZeN.1 e);have e:q⁻¹ = fq (qs q) q.den (qn q):=by
  conv=>lhs;rw [<- XX q]
  exact ZjV q.den_nz hn
 obtain ⟨h1,h2,h3⟩:=ZJ (a:=qs q) (n:=q.den) hn;rw [e,h1,h2,h3,Nat.gcd_comm,Zjt,Nat.div_one,Nat.div_one];refine ⟨?_,rfl,rfl⟩;have:=q.den_nz;simp [this]
end Ear
namespace Go.Proofs.YtcjicjfbippmnaaGreat
open Go.RowKit Ear

theorem Jm {w:World} {k:Nat} {cs:Array Value} {t:TypeId} (h:w.heap[k]? = some (.cells cs t (0,0))) (j:Nat):w.frozen? ⟨k,j,none⟩ = false:=by simp [World.frozen?,h]
theorem Ze4 (neg:Bool) (A B:Option Addr) (c d:Nat) (a b:List Int) (w:World) (hA:Dg w A c a) (hB:Dg w B d b) (hn:a.length <= 400000) (hm:b.length <= 400000) (x v:Nat) (hx:Hid (vl a = x)) (hv:Hid (vl b = v)) (x0:x ≠ 0) (v2 : 2 <= v) :
  Calls Tryz.prog 94 #[.bool neg,.slice A a.length c,.slice B b.length d] w (RetFr neg (x / x.gcd v) (v / x.gcd v) w):=by
 obtain ⟨j0,hj0,ky0,ky1,ky2⟩:=info_parts XU;have KI:=zH hj0;have KZ0:=zH ky0;have KZ1:=zH ky1;have KZ2:=zH ky2;clear hj0 ky0 ky1 ky2;have T1:=zH (fun o=>JN A c a (w.alloc o) (hA.lies.alloc o) (zH hA.dig) hA.cap (by omega) x hx);have T2:=zH (fun o=>JN B d b (w.alloc o) (hB.lies.alloc o) (zH hB.dig) hB.cap (by omega) v hv);have DX:=zH (hA.nd hx.out);have DV:=zH (hB.nd hv.out);have lx:(nd x).length <= 400000:=tR (JH hA.dig hx.out) hn;have lv:(nd v).length <= 400000:=tR (JH hB.dig hv.out) hm;have nx:(nd x).length ≠ 0:=fun h=>x0 (Ju.1 h);have nv:(nd v).length ≠ 0:=fun h=>by have:=Ju.1 h;omega
 have q0:(((nd x).length:Int) == 0) = false:=beq_eq_false_iff_ne.2 (by omega);have q1:(((nd v).length:Int) == 0) = false:=beq_eq_false_iff_ne.2 (by omega);clear hA hB nx nv;go_enter Tryz.func94,Tryz.ntmps94;go_wp2_with fail;refine (T1.out _).mono ?_;rintro e w' ⟨rfl,rfl⟩;go_wp2_with fail;refine (T2.out _).mono ?_;rintro e w' ⟨rfl,rfl⟩;clear T1 T2;go_upto_region 7 with fail;obtain ⟨W2,hW2⟩:∃ W2:World,W2 = ((w.alloc (.cells #[.bool false,.slice none 0 0,.slice none 0 0] 28)).alloc (.cells #[.int .u32 1] 173)):=⟨_,rfl⟩;have B2:Hid (Below w.heap.size w W2):=zH (by rw [hW2];exact (bR.alloc nR _).alloc (by simp) _);have BX2:Hid (Bx W2 w.heap.size):=zH (by rw [hW2];exact (Bx.new w).alloc _);have D1:Hid (Dg W2 (some ⟨w.heap.size + 1,0,none⟩) 1 [1]):=zH (by rw [hW2];have:=ZfM (w.alloc (.cells #[.bool false,.slice none 0 0,.slice none 0 0] 28)) 1 ⟨by decide,by decide⟩ 173;simpa using this);rw [<- hW2];clear hW2;have DX2:=zH (DX.out.below B2.out);have DV2:=zH (DV.out.below B2.out);go_cut [29] (fun t29 wx=>t29 = .bool (decide (x ≠ 1)) /\ wx = W2)
 case first=>
  have O1:=zH (VU B d v W2 DV2.out.lies (by omega) false (zH (by simp;omega)));have O2:=zH (VU A c x W2 DX2.out.lies (by omega) (decide (x = 1)) (zH rfl));go_wp2_with fail;refine O1.out.mono ?_;rintro e w' ⟨rfl,rfl⟩;go_wp2_with fail;refine O2.out.mono ?_;rintro e w' ⟨rfl,rfl⟩;go_wp2_with fail;go_meet;exact ⟨by simp,rfl⟩
 case rest=>
  obtain ⟨rfl,rfl⟩:=hcut;obtain ⟨W2,rfl⟩:∃ X,X = wc:=⟨_,rfl⟩;have BR:=zH (Below.refl W2.heap.size W2);go_upto_if 29 with fail;go_cut [7] (fun t7 wx=>∃ GA gc,t7 = .slice GA (nd (x.gcd v)).length gc /\ Hid (Dg wx GA gc (nd (x.gcd v))) /\ Hid (Below W2.heap.size W2 wx))
  case first=>
   by_cases h1:x = 1
   ·have HQ:Hid (nd (x.gcd v) = [1]):=zH (by rw [h1,Nat.gcd_one_left,ZS]);have hd:decide (x ≠ 1) = false:=(by simp [h1]);rw [hd];clear h1 hd;go_wp2_with fail;go_meet;exact ⟨some ⟨w.heap.size + 1,0,none⟩,1,by rw [HQ.out];rfl,by rw [HQ.out];exact D1,BR⟩
   ·have hd:decide (x ≠ 1) = true:=(by simp [h1]);rw [hd];have GC:=zH (ZgP A B c d x v W2 DX2.out DV2.out lx lv x0 (by omega));clear h1 hd;go_wp2_with fail;refine GC.out.mono ?_;rintro e w3 ⟨GA,gc,rfl,g1,g2,g3,g4⟩;go_wp2_with fail;go_meet;exact ⟨GA,gc,rfl,zH (JF g1 g2 g3),zH g4⟩
  case rest=>
   obtain ⟨GA,gc,rfl,DG,B3⟩:=hcut;clear D1;have hg0:x.gcd v ≠ 0:=(by have:=Nat.gcd_pos_of_pos_left v (show 0 < x by omega);omega);have lg:(nd (x.gcd v)).length <= 400000:=tR (Jj (Nat.gcd_le_left v (by omega))) lx;have HX1:Hid (x / x.gcd v ≠ 0):=zH (by have:=Nat.div_pos (Nat.gcd_le_left v (show 0 < x by omega)) (Nat.pos_of_ne_zero hg0);omega);obtain ⟨W3,rfl⟩:∃ X,X = wc:=⟨_,rfl⟩;have DX3:=zH (DX2.out.below B3.out);have DV3:=zH (DV2.out.below B3.out);have BX3:=zH (BX2.out.below B3.out);have BW3:=zH (B2.out.trans (B3.out.mono B2.out.size));generalize x.gcd v = g at *
   have O3:=zH (VU GA gc g W3 DG.out.lies (by omega) (decide (g = 1)) (zH rfl));have BR3:=zH (Below.refl W3.heap.size W3);clear DX2 DV2 BX2 B2 B3 BR DX DV;go_upto_if 35 with (go_at_call 145;refine O3.out.mono ?_;rintro e w' ⟨rfl,rfl⟩)
   go_cut [1,2] (fun t1 t2 wx=>∃ A1 c1 A2 c2,t1 = .slice A1 (nd (x / g)).length c1 /\ t2 = .slice A2 (nd (v / g)).length c2 /\ Hid (Dg wx A1 c1 (nd (x / g))) /\ Hid (Dg wx A2 c2 (nd (v / g))) /\ Hid (Below W3.heap.size W3 wx))
   case first=>
    by_cases h1:g = 1
    ·subst h1;have E1:Hid (x / 1 = x):=zH (Nat.div_one x);have E2:Hid (v / 1 = v):=zH (Nat.div_one v);go_wp2_with fail;go_meet;rw [E1.out,E2.out];exact ⟨A,c,B,d,rfl,rfl,DX3,DV3,BR3⟩
    ·have hd:(!decide (g = 1)) = true:=(by simp [h1]);have V1:=zH (QW A GA c gc x g W3 DX3.out DG.out lx lg hg0);rw [hd];clear hd;go_wp2_with fail;refine V1.out.mono ?_;rintro e w4 ⟨A4,c4,A5,c5,rfl,d1,d2,hb⟩;have V2:=zH (QW B GA d gc v g w4 (DV3.out.below hb) (DG.out.below hb) lv lg hg0);have D4:=zH d1;have B4:=zH hb;clear d1 d2 hb V1;go_wp2_with fail;refine V2.out.mono ?_;rintro e w5 ⟨A6,c6,A7,c7,rfl,d1,d2,hb⟩;have D6:=zH d1;have D5:=zH (D4.out.below hb);have B5:=zH (B4.out.trans (hb.mono B4.out.size));clear d1 d2 hb V2;go_wp2_with fail;go_meet;exact ⟨A4,c4,A6,c6,rfl,rfl,D5,D6,B5⟩
   case rest=>
    obtain ⟨A1,c1,A2,c2,rfl,rfl,DN,DD,B4⟩:=hcut;have BX4:=zH (BX3.out.below B4.out);have BW4:=zH (BW3.out.trans (B4.out.mono BW3.out.size));have ln:(nd (x / g)).length <= 400000:=tR (Jj (Nat.div_le_self _ _)) lx;have ld:(nd (v / g)).length <= 400000:=tR (Jj (Nat.div_le_self _ _)) lv;clear BX3 BW3 B4 DX3 DV3 DG O3 BR3 hx hv;obtain ⟨W4,rfl⟩:∃ X,X = wc:=⟨_,rfl⟩;generalize x / g = n at *
    generalize v / g = m at *
    have NA:=zH DN.out.nil;have LN:=zH DN.out.lies;have DGN:=zH DN.out.dig;have hs4:w.heap.size < W4.heap.size:=BX4.out.lt;generalize hxs:nd n = xs at *
    have HXS:=zH hxs;clear hxs DN;go_wp2_with (at_builtin;refine Jf _ rfl (.const (.slice none 0 0)) (.tmp 49) _ rfl W4.heap.size 173 j0 _ 1 4 Tryz.underlying26 KI.out KZ0.out KZ1.out KZ2.out rfl (by omega) (.slice none 0 0) 0 [] rfl (World.ownsRow_nil _ _ _ _) A1 xs.length c1 (ucs xs) rfl NA.out LN.out (by simp) (ZY _) (by unfold maxLen;omega) (by omega) nR xs.length (Nat.zero_add _) ?_;intro A4 c4 w4 ho4 hg4 _);have hb4:Below W4.heap.size W4 w4:=Xf hg4;have DD4:=zH ((DD.out.below hb4).below ((Below.refl w4.heap.size w4).alloc nR (.cells #[.bool neg,.slice A4 xs.length c4,.slice none 0 0] 28)));have BX5:=zH ((BX4.out.below hb4).alloc (.cells #[.bool neg,.slice A4 xs.length c4,.slice none 0 0] 28));have BW5:=zH ((BW4.out.trans (hb4.mono BW4.out.size)).alloc (BW4.out.trans (hb4.mono BW4.out.size)).size (.cells #[.bool neg,.slice A4 xs.length c4,.slice none 0 0] 28));have DN5:Hid (Dg (w4.alloc (.cells #[.bool neg,.slice A4 xs.length c4,.slice none 0 0] 28)) A4 c4 xs):=zH (Vl (ho4.alloc _) DGN.out);have DN4:Hid (Dg w4 A4 c4 xs):=zH (Vl ho4 DGN.out);have hs5:w.heap.size < w4.heap.size:=Nat.lt_of_lt_of_le hs4 hb4.size;have HW5:Hid ((w4.alloc (.cells #[.bool neg,.slice A4 xs.length c4,.slice none 0 0] 28)).heap[w4.heap.size]? = some (.cells #[.bool neg,.slice A4 xs.length c4,.slice none 0 0] 28)):=zH (heap_alloc_new _ _);clear hb4 ho4 hg4 LN DD BX4 BW4;by_cases h1:m = 1
    ·subst h1;have O5:=zH (VU A2 c2 1 _ DD4.out.lies (by omega) true (zH (by simp)));obtain ⟨k0,k1,k2,f0,f1,f2⟩:=BX5.out.facts;go_wp2_with fail;refine O5.out.mono ?_;rintro e w' ⟨rfl,rfl⟩;generalize hW5:w4.alloc (.cells #[.bool neg,.slice A4 xs.length c4,.slice none 0 0] 28) = W5 at *
     have u0:=cell_of_row W5 w4.heap.size 0 _ _ _ HW5.out;have u1:=cell_of_row W5 w4.heap.size 1 _ _ _ HW5.out;have u2:=cell_of_row W5 w4.heap.size 2 _ _ _ HW5.out;simp at u0 u1 u2;go_wp2_with fail;obtain ⟨e0,e1,e2⟩:=Z7 (.bool neg) (.slice A4 xs.length c4) (.slice none 0 0) k0 k1 k2;refine bodyPost_ret (v:=.agg #[.bool neg,.slice A4 xs.length c4,.slice none 0 0]) (by simp [results,Tryz.results94,go_sem,e0,e1,e2]) rfl ?_;exact ⟨⟨neg,A4,c4,xs,none,0,[]⟩,rfl,FrOk.boxed (x:=⟨neg,A4,c4,xs,none,0,[]⟩) ⟨DN5.out,Dg.none _⟩ BX5.out _ _ _,rfl,HXS.out.symm,rfl,((BW5.out.setCell (by simp) _).setCell (by simp) _).setCell (by simp) _⟩
    ·have O5:=zH (VU A2 c2 m _ DD4.out.lies (by omega) false (zH (by simp [h1])));have HD:Hid (den m = nd m):=zH (by unfold den;rw [if_neg h1]);go_wp2_with fail;refine O5.out.mono ?_;rintro e w' ⟨rfl,rfl⟩;have NB:=zH DD4.out.nil;have LB:=zH DD4.out.lies;have DGB:=zH DD4.out.dig;have B45:Hid (Below w4.heap.size w4 (w4.alloc (.cells #[.bool neg,.slice A4 xs.length c4,.slice none 0 0] 28))):=zH ((Below.refl w4.heap.size w4).alloc nR _);have hs6:w4.heap.size < (w4.alloc (.cells #[.bool neg,.slice A4 xs.length c4,.slice none 0 0] 28)).heap.size:=(by simp);generalize hW5:w4.alloc (.cells #[.bool neg,.slice A4 xs.length c4,.slice none 0 0] 28) = W5 at *
     clear hW5 DD4 O5 h1;generalize hys:nd m = ys at *
     go_wp2_with (at_builtin;refine Jf _ rfl (.const (.slice none 0 0)) (.tmp 55) _ rfl W5.heap.size 173 j0 _ 1 4 Tryz.underlying26 KI.out KZ0.out KZ1.out KZ2.out rfl (by omega) (.slice none 0 0) 0 [] rfl (World.ownsRow_nil _ _ _ _) A2 ys.length c2 (ucs ys) rfl NB.out LB.out (by simp) (ZY _) (by unfold maxLen;omega) (by omega) nR ys.length (Nat.zero_add _) ?_;intro A6 c6 w6 ho6 hg6 _;have HB6:Hid (Below W5.heap.size W5 w6):=zH (Xf hg6);have hk6:w6.heap[w4.heap.size]? = _:=(HB6.out.block w4.heap.size hs6).trans HW5.out;have u0:=cell_of_row w6 w4.heap.size 0 _ _ _ hk6;have u1:=cell_of_row w6 w4.heap.size 1 _ _ _ hk6;have u2:=cell_of_row w6 w4.heap.size 2 _ _ _ hk6;have uf:=Jm hk6 2;simp at u0 u1 u2;obtain ⟨k0,k1,k2,f0,f1,f2⟩:=(BX5.out.below HB6.out).facts;have hne:¬ w.heap.size = w4.heap.size:=(by omega);have hne':¬ w4.heap.size = w.heap.size:=(by omega);have HO6:=zH ho6;have HK6:=zH hk6;clear ho6 hg6 hk6);have BX7:Hid (Bx (w6.setCell ⟨w4.heap.size,2,none⟩ (.slice A6 ys.length c6)) w.heap.size):=zH ((Below.heap_setCell w6 ⟨w4.heap.size,2,none⟩ (.slice A6 ys.length c6) w.heap.size hne).trans (BX5.out.below HB6.out));have B47:=zH ((B45.out.trans (HB6.out.mono B45.out.size)).setCell (p:=⟨w4.heap.size,2,none⟩) nR (.slice A6 ys.length c6));have BW7:=zH ((BW5.out.trans (HB6.out.mono BW5.out.size)).setCell (p:=⟨w4.heap.size,2,none⟩) (Nat.le_of_lt hs5) (.slice A6 ys.length c6));have DN7:=zH (DN4.out.below B47.out);have DM7:Hid (Dg (w6.setCell ⟨w4.heap.size,2,none⟩ (.slice A6 ys.length c6)) A6 c6 ys):=zH (Vl (JT HO6.out hs6 _) DGB.out);obtain ⟨m0,m1,m2,-,-,-⟩:=BX7.out.facts;obtain ⟨e0,e1,e2⟩:=Z7 (.bool neg) (.slice A4 xs.length c4) (.slice A6 ys.length c6) m0 m1 m2;refine bodyPost_ret (v:=.agg #[.bool neg,.slice A4 xs.length c4,.slice A6 ys.length c6]) (by simp [results,Tryz.results94,go_sem,e0,e1,e2]) rfl ?_;exact ⟨⟨neg,A4,c4,xs,A6,c6,ys⟩,rfl,FrOk.boxed (x:=⟨neg,A4,c4,xs,A6,c6,ys⟩) ⟨DN7.out,DM7.out⟩ BX7.out _ _ _,rfl,HXS.out.symm,HD.out.symm,((BW7.out.setCell (by simp) _).setCell (by simp) _).setCell (by simp) _⟩
structure Fq (w:World) (x:Fr) (q:Rat):Prop where
 ok:FrOk w x
 neg:x.neg = qs q
 num:x.N = nd (qn q)
 dn:x.D = den q.den
def ZA (q:Rat) (w:World) (e:Ending) (w':World):Prop:=∃ x:Fr,e = .returned x.val /\ Fq w' x q /\ Below w.heap.size w w'
theorem RetFr.fq {b:Bool} {n d:Nat} {q:Rat} {w w':World} {e:Ending} (h:RetFr b n d w e w') (hb:b = qs q) (hn:n = qn q) (hd:d = q.den):ZA q w e w':=by
 obtain ⟨x,he,hx,h1,h2,h3,h4⟩:=h;exact ⟨x,he,⟨hx,h1.trans hb,by rw [h2,hn],by rw [h3,hd]⟩,h4⟩
theorem Ze5 (neg:Bool) (A B:Option Addr) (c d:Nat) (a b:List Int) (w:World) (hA:Dg w A c a) (hB:Dg w B d b) (hn:a.length <= 400000) (hm:b.length <= 400000) (x v:Nat) (hx:Hid (vl a = x)) (hv:Hid (vl b = v)) :
  Calls Tryz.prog 94 #[.bool neg,.slice A a.length c,.slice B b.length d] w (ZA (fq neg x v) w):=by
 by_cases hv2 : 2 <= v
 ·obtain ⟨p1,p2,p3⟩:=ZJ (a:=neg) (n:=x) (d:=v) (by omega);by_cases x0:x = 0
  ·subst x0;refine (QR neg A B c d a b w hA hB (by omega) (by omega) (zH (by rw [hx.out];rfl))).mono fun e w' h=>h.fq ?_ ?_ ?_
   ·rw [p1];simp
   ·rw [p2];simp
   ·rw [p3,Nat.gcd_zero_left,Nat.div_self (by omega)]
  ·refine (Ze4 neg A B c d a b w hA hB hn hm x v hx hv x0 hv2).mono fun e w' h=>h.fq ?_ p2.symm p3.symm;rw [p1];simp [x0]
 ·have hv1:vl b = 0 ∨ vl b = 1:=by have:=hv.out;omega
  have e1:fq neg x v = fq neg x 1:=by
   rcases (show v = 0 ∨ v = 1 by omega) with rfl | rfl
   ·rfl
   ·rfl
  obtain ⟨p1,p2,p3⟩:=ZJ (a:=neg) (n:=x) (d:=1) (by omega);rw [e1];refine (Zbj neg A B c d a b w hA hB (by omega) (by omega) x hx (zH hv1)).mono fun e w' h=>h.fq p1.symm ?_ ?_
  ·rw [p2];simp
  ·rw [p3];simp
end Go.Proofs.YtcjicjfbippmnaaGreat
namespace Go
section
variable {P:Program} {ops:Array Oper} {Q:Exit -> Act -> World -> Prop}

def Region.backB (ops:Array Oper):Bool:=(List.range ops.size).all fun i=>match ops[i]? with
 | some o=>o.after.all (fun e=>!Region.binds .any e || decide (e.on < i))
 | none=>false
def Oper.waits (o:Oper) (j:Nat):Bool:=o.after.any fun e=>Region.binds .any e && e.on == j
def Region.dstB (ops:Array Oper) (N:Nat):Bool:=(List.range ops.size).all fun i=>match ops[i]? with
 | some o=>(match o.dst with
  | some d=>decide (d < N) && (List.range ops.size).all fun j=>j == i || (match ops[j]? with | some o'=>o'.dst != some d | none=>true)
  | none=>true)
 | none=>true
def Region.keptB (ops:Array Oper) (i k:Nat):Bool:=(List.range ops.size).all fun j=>match ops[j]? with
 | some o=>o.dst != some k || o.waits i
 | none=>true
def Region.freeB (ops:Array Oper) (k:Nat):Bool:=(List.range ops.size).all fun j=>match ops[j]? with
 | some o=>o.dst != some k
 | none=>true
theorem Region.freeB_of {ops:Array Oper} {k:Nat} (h:Region.freeB ops k = true) (j:Nat) (o:Oper) (ho:ops[j]? = some o):o.dst ≠ some k:=by
 have:=List.all_eq_true.1 h j (List.mem_range.2 (Array.getElem?_eq_some_iff.1 ho).1);simp only [ho] at this;simpa using this
def Oper.left (o:Oper) (b:Act):Value:=match o.dst with
 | some d=>b.tmps.getD d undef
 | none=>undef
structure Sl (ops:Array Oper) (a:Act) (G:Nat -> Value -> World -> Prop) (listed:Array Bool) (b:Act) (u:World):Prop where
 size:b.tmps.size = a.tmps.size
 defers:b.defers = a.defers
 lsize:listed.size = ops.size
 closed:∀ j o,ops[j]? = some o -> listed.getD j false = true -> ∀ k,o.waits k = true -> listed.getD k false = true
 same:∀ k,(∀ j o,ops[j]? = some o -> o.dst = some k -> listed.getD j false = false) -> b.tmps.getD k undef = a.tmps.getD k undef
 slot:∀ j o,ops[j]? = some o -> listed.getD j false = true -> G j (o.left b) u
theorem Xi {l:Array Bool} {i j:Nat}:(l.setIfInBounds i true).getD j false = true ↔ (j = i /\ i < l.size) ∨ l.getD j false = true:=by
 rw [Array.getD_eq_getD_getElem?,Array.getD_eq_getD_getElem?,Array.getElem?_setIfInBounds];by_cases h:i = j
 ·subst h;by_cases hl:i < l.size
  ·simp [hl]
  ·simp [hl]
 ·simp [h];intro e;exact absurd e.symm h
theorem JY {t:Array Value} {d k:Nat} {v:Value} (hd:d < t.size):(t.setIfInBounds d v).getD k undef = if k = d then v else t.getD k undef:=by
 rw [Array.getD_eq_getD_getElem?,Array.getD_eq_getD_getElem?,Array.getElem?_setIfInBounds];by_cases h:d = k
 ·subst h;simp [hd]
 ·rw [if_neg h,if_neg (fun e=>h e.symm)]
theorem Vg {i:Nat} {o:Oper} {listed:Array Bool} (ho:ops[i]? = some o):i ∈ Region.ready .any ops listed ↔ (i < ops.size /\ listed.getD i true = false /\ ∀ e ∈ o.after,Region.binds .any e = true -> listed.getD e.on false = true):=by
 unfold Region.ready;rw [List.mem_filter,List.mem_range];simp only [ho,Option.map_some,Option.getD_some,Bool.and_eq_true,Bool.not_eq_true',Array.all_eq_true',Bool.or_eq_true];constructor
 ·rintro ⟨h1,h2,h3⟩;refine ⟨h1,h2,fun e he hb=>?_⟩;rcases h3 e he with h | h
  ·rw [hb] at h;cases h
  ·exact h
 ·rintro ⟨h1,h2,h3⟩;refine ⟨h1,h2,fun e he=>?_⟩;by_cases hb:Region.binds .any e = true
  ·exact .inr (h3 e he hb)
  ·exact .inl (by simpa using hb)
theorem Xw (hB:Region.backB ops = true) {listed:Array Bool} (hl:listed.size = ops.size) (hr:Region.ready .any ops listed = []):∀ i,i < ops.size -> listed.getD i false = true:=by
 intro i
 induction i using Nat.strongRecOn with
 | ind i ih=>
  intro hi;apply Decidable.byContradiction;intro hne;have ho:ops[i]? = some ops[i]:=Array.getElem?_eq_getElem hi;have hb:∀ e ∈ ops[i].after,Region.binds .any e = true -> e.on < i:=by
   have:=List.all_eq_true.1 hB i (List.mem_range.2 hi);simp only [ho,Array.all_eq_true'] at this;intro e he hbe;have h1:=this e he;rw [hbe] at h1;simpa using h1
  have hm:i ∈ Region.ready .any ops listed:=(Vg ho).2 ⟨hi,by
   rw [Array.getD_eq_getD_getElem?,Array.getElem?_eq_getElem (by omega)] at hne ⊢;simpa using hne,fun e he hbe=>ih e.on (hb e he hbe) (by have:=hb e he hbe;omega)⟩
  rw [hr] at hm;cases hm
theorem QV {N:Nat} (hD:Region.dstB ops N = true) {i:Nat} {o:Oper} {d:Nat} (ho:ops[i]? = some o) (hd:o.dst = some d):d < N /\ ∀ j o',ops[j]? = some o' -> o'.dst = some d -> j = i:=by
 have h:=List.all_eq_true.1 hD i (List.mem_range.2 (Array.getElem?_eq_some_iff.1 ho).1);simp only [ho,hd,Bool.and_eq_true,decide_eq_true_eq] at h;refine ⟨h.1,fun j o' ho' hd'=>?_⟩;have h2:=List.all_eq_true.1 h.2 j (List.mem_range.2 (Array.getElem?_eq_some_iff.1 ho').1);simp only [ho',hd',Bool.or_eq_true,beq_iff_eq] at h2;rcases h2 with h2 | h2
 ·exact h2
 ·simp at h2
theorem Xm:∀ (l:List Bool) (i:Nat),l[i]? = some false -> (l.set i true).countP (· == false) + 1 = l.countP (· == false):=by
 intro l
 induction l with
 | nil=>intro i h;simp at h
 | cons x l ih=>
  intro i h;cases i with
  | zero=>simp at h;subst h;simp
  | succ i=>
   have:=ih i (by simpa using h);rw [List.set_cons_succ,List.countP_cons,List.countP_cons];omega
theorem hx0 {listed:Array Bool} {i:Nat} (hli:i < listed.size) (h:listed.getD i false = false):listed.toList[i]? = some false:=by
 rw [Array.getElem?_toList,Array.getElem?_eq_getElem hli];rw [Array.getD_eq_getD_getElem?,Array.getElem?_eq_getElem hli] at h;simpa using h
def ZbH (P:Program) (ops:Array Oper) (Q:Exit -> Act -> World -> Prop) (a:Act) (S:World -> Prop) (T:World -> World -> Prop) (G:Nat -> Value -> World -> Prop) (i:Nat) (o:Oper):Prop:=
 ∀ (b:Act) (u:World),S u -> (∀ j o',ops[j]? = some o' -> o.waits j = true -> G j (o'.left b) u) -> (∀ k,Region.keptB ops i k = true -> b.tmps.getD k undef = a.tmps.getD k undef) ->
  ∀ K:Act -> World -> Prop,(∀ v u',S u' -> T u u' -> G i (if o.dst.isSome then v else undef) u' -> K (b.put o.dst v) u') -> if Region.wanted o (yielded ops b.tmps) = true then o.wp P b u K Q else K (b.put o.dst undef) u
def Jl (P:Program) (ops:Array Oper) (Q:Exit -> Act -> World -> Prop) (a:Act) (S:World -> Prop) (T:World -> World -> Prop) (G:Nat -> Value -> World -> Prop):List Oper -> Nat -> Prop
 | [],_=>True
 | o :: l,i=>ZbH P ops Q a S T G i o /\ Jl P ops Q a S T G l (i + 1)
theorem Za8 {a:Act} {S:World -> Prop} {T:World -> World -> Prop} {G:Nat -> Value -> World -> Prop}:∀ (l:List Oper) (i:Nat),Jl P ops Q a S T G l i -> ∀ k o,l[k]? = some o -> ZbH P ops Q a S T G (i + k) o:=by
 intro l
 induction l with
 | nil=>intro i _ k o h;simp at h
 | cons x l ih=>
  intro i h k o hk;cases k with
  | zero=>simp at hk;subst hk;exact h.1
  | succ k=>
   have:=ih (i + 1) h.2 k o (by simpa using hk)
   rwa [show i + 1 + k = i + (k + 1) by omega] at this
theorem ZV {a:Act} (N:Nat) (hN:a.tmps.size = N) (hB:Region.backB ops = true) (hD:Region.dstB ops N = true) (S:World -> Prop) (T:World -> World -> Prop) (G:Nat -> Value -> World -> Prop)
  (hG:∀ j v w w',G j v w -> T w w' -> G j v w') (hs:Jl P ops Q a S T G ops.toList 0)
  (hend:∀ b u,b.tmps.size = N -> b.defers = a.defers -> S u -> (∀ j o,ops[j]? = some o -> G j (o.left b) u) -> (∀ k,Region.freeB ops k = true -> b.tmps.getD k undef = a.tmps.getD k undef) -> Q .normal b u) :
  ∀ (f:Nat) (listed:Array Bool) (b:Act) (u:World),S u -> Sl ops a G listed b u -> (f = 0 -> Region.ready .any ops listed = []) -> (listed.toList.countP (· == false) <= f) -> wpAny P .any ops Q f listed b u:=by
 have fin:∀ (listed:Array Bool) (b:Act) (u:World),S u -> Sl ops a G listed b u -> Region.ready .any ops listed = [] -> Q .normal b u:=by
  intro listed b u hS hSl hr;have hall:=Xw hB hSl.lsize hr;refine hend b u (hSl.size.trans hN) hSl.defers hS (fun j o ho=>hSl.slot j o ho (hall j (Array.getElem?_eq_some_iff.1 ho).1)) (fun k hk=>hSl.same k fun j o ho hd=>absurd hd (Region.freeB_of hk j o ho))
 intro f
 induction f with
 | zero=>intro listed b u hS hSl h0 _;exact ⟨h0 rfl,fin listed b u hS hSl (h0 rfl)⟩
 | succ f ih=>
  intro listed b u hS hSl _ hc;refine ⟨fin listed b u hS hSl,fun i hi=>?_⟩;have hlt:i < ops.size:=by
   unfold Region.ready at hi;exact List.mem_range.1 (List.mem_filter.1 hi).1
  have ho:ops[i]? = some ops[i]:=Array.getElem?_eq_getElem hlt;generalize ops[i] = o at ho;obtain ⟨_,hun,dp⟩:=(Vg ho).1 hi;have hli:i < listed.size:=by rw [hSl.lsize];exact hlt
  have hunf:listed.getD i false = false:=by
   rw [Array.getD_eq_getD_getElem?,Array.getElem?_eq_getElem hli] at hun ⊢;simpa using hun
  have dp':∀ j,o.waits j = true -> listed.getD j false = true:=by
   intro j hj;obtain ⟨e,he,hb⟩:=Array.any_eq_true'.1 hj;simp only [Bool.and_eq_true,beq_iff_eq] at hb;rw [<- hb.2];exact dp e he hb.1
  have step:=Za8 _ _ hs i o (by rw [Array.getElem?_toList];exact ho);rw [Nat.zero_add] at step;refine wpOp_step ho (fun K hK=>?_);refine step b u hS (fun j o' ho' hw=>hSl.slot j o' ho' (dp' j hw)) (fun k hk=>hSl.same k fun j o' ho' hd'=>?_) K (fun v u' hS' hT' hG'=>?_)
  ·have h:=List.all_eq_true.1 hk j (List.mem_range.2 (Array.getElem?_eq_some_iff.1 ho').1);simp only [ho',hd',Bool.or_eq_true] at h;rcases h with h | h
   ·simp at h
   ·cases hlj:listed.getD j false with
    | false=>rfl
    | true=>have:=hSl.closed j o' ho' hlj i h;rw [hunf] at this;cases this
  ·refine hK _ _ (ih _ _ _ hS' ?_ ?_ ?_)
   ·have hput:∀ d,o.dst = some d -> d < b.tmps.size:=fun d hd=>by rw [hSl.size,hN];exact (QV hD ho hd).1
    refine ⟨?_,?_,by simp [hSl.lsize],?_,?_,?_⟩
    ·unfold Act.put;cases o.dst <;> simp [hSl.size]
    ·unfold Act.put;cases o.dst <;> simp [hSl.defers]
    ·intro j o' ho' hl k hw;rw [Xi] at hl ⊢;rcases hl with ⟨rfl,_⟩ | hl
     ·rw [ho] at ho';cases ho';exact .inr (dp' k hw)
     ·exact .inr (hSl.closed j o' ho' hl k hw)
    ·intro k hk;have h1:listed.getD i false = false:=hunf;have hne:o.dst ≠ some k:=fun hd=>by
      have:=hk i o ho hd;have h2:(listed.setIfInBounds i true).getD i false = true:=Xi.2 (.inl ⟨rfl,hli⟩);rw [h2] at this;cases this
     have h3:=hSl.same k fun j o' ho' hd'=>by
      have:=hk j o' ho' hd';cases hlj:listed.getD j false with
      | false=>rfl
      | true=>rw [Xi.2 (.inr hlj)] at this;cases this
     rw [<- h3];unfold Act.put;cases hdd:o.dst with
     | none=>rfl
     | some d=>
      simp only;rw [JY (hput d hdd),if_neg (fun e=>hne (by rw [hdd,e]))]
    ·intro j o' ho' hl;rw [Xi] at hl;by_cases hji:j = i
     ·subst hji;rw [ho] at ho';cases ho';unfold Oper.left Act.put;cases hdd:o.dst with
      | none=>rw [hdd] at hG';simpa using hG'
      | some d=>
       rw [hdd] at hG';simp only;rw [JY (hput d hdd),if_pos rfl];simpa using hG'
     ·have hl':listed.getD j false = true:=by
       rcases hl with ⟨e,_⟩ | hl
       ·exact absurd e hji
       ·exact hl
      have hold:=hG _ _ _ _ (hSl.slot j o' ho' hl') hT';have e:o'.left (b.put o.dst v) = o'.left b:=by
       unfold Oper.left Act.put;cases hdd':o'.dst with
       | none=>rfl
       | some d'=>
        cases hdd:o.dst with
        | none=>rfl
        | some d=>
         simp only;rw [JY (hput d hdd),if_neg];intro e2;subst e2;exact hji ((QV hD ho hdd).2 j o' ho' hdd')
      rw [e];exact hold
   ·intro hf;subst hf;have hz:(listed.setIfInBounds i true).toList.countP (· == false) = 0:=by
     have:=Xm listed.toList i (hx0 hli hunf);rw [Array.toList_setIfInBounds];omega
    rw [List.countP_eq_zero] at hz;unfold Region.ready;rw [List.filter_eq_nil_iff];intro j hj;rw [List.mem_range] at hj;have hjl:j < (listed.setIfInBounds i true).size:=(by simp [hSl.lsize];exact hj);have:=hz ((listed.setIfInBounds i true)[j]) (Array.mem_toList_iff.2 (Array.getElem_mem hjl));rw [Array.getD_eq_getD_getElem?,Array.getElem?_eq_getElem hjl];simp only [Option.getD_some];cases hv:(listed.setIfInBounds i true)[j] with
    | true=>simp
    | false=>rw [hv] at this;exact absurd rfl this
   ·have:=Xm listed.toList i (hx0 hli hunf);rw [Array.toList_setIfInBounds];omega
theorem XD {id:Nat} {a:Act} {w:World} (N:Nat) (hN:a.tmps.size = N) (hm:P.follows .mixedOrders = true) (hB:Region.backB ops = true) (hD:Region.dstB ops N = true) (S:World -> Prop) (T:World -> World -> Prop) (G:Nat -> Value -> World -> Prop)
  (hG:∀ j v w w',G j v w -> T w w' -> G j v w') (hS:S w.drew) (hs:Jl P ops Q a S T G ops.toList 0)
  (hend:∀ b u,b.tmps.size = N -> b.defers = a.defers -> S u -> (∀ j o,ops[j]? = some o -> G j (o.left b) u) -> (∀ k,Region.freeB ops k = true -> b.tmps.getD k undef = a.tmps.getD k undef) -> Q .normal b u):(Code.region id ops true).wp P Q a w:=by
 refine wp_region_any hm ?_;refine ZV N hN hB hD S T G hG hs hend _ _ _ _ hS ⟨rfl,rfl,by simp,?_,fun _ _=>rfl,?_⟩ ?_ ?_
 ·intro j o ho hl;rw [Array.getD_eq_getD_getElem?,Array.getElem?_replicate] at hl;split at hl <;> simp at hl
 ·intro j o ho hl;rw [Array.getD_eq_getD_getElem?,Array.getElem?_replicate] at hl;split at hl <;> simp at hl
 ·intro h0;unfold Region.ready;rw [h0];rfl
 ·simp only [Array.toList_replicate,List.countP_replicate];split <;> omega
theorem Je {id:Nat} {a:Act} {w:World} (n N:Nat) (hN:a.tmps.size = N) (hm:P.follows .mixedOrders = true) (hP:Region.popB .any ops n = true) (hB:Region.backB ops.pop = true) (hD:Region.dstB ops.pop N = true) (S:World -> Prop) (T:World -> World -> Prop) (G:Nat -> Value -> World -> Prop)
  (hG:∀ j v w w',G j v w -> T w w' -> G j v w') (hS:S w.drew) (hs:Jl P ops.pop (PopQ P ops n Q) a S T G ops.pop.toList 0)
  (hend:∀ b u,b.tmps.size = N -> b.defers = a.defers -> S u -> (∀ j o,ops.pop[j]? = some o -> G j (o.left b) u) -> (∀ k,Region.freeB ops.pop k = true -> b.tmps.getD k undef = a.tmps.getD k undef) -> PopQ P ops n Q .normal b u):(Code.region id ops true).wp P Q a w:=by
 have hs':=Region.popB_size hP;have hsz:ops.pop.size = n:=by simp [hs']
 refine wp_region_any hm ?_;have key:=ZV (P:=P) (ops:=ops.pop) (Q:=PopQ P ops n Q) (a:=a) N hN hB hD S T G hG hs hend n (Array.replicate n false) a w.drew hS ⟨rfl,rfl,by simp [hs'],?_,fun _ _=>rfl,?_⟩ ?_ ?_
 ·have:=Va hP n (Array.replicate n false) a w.drew (by simp) (ClosedL.start' _) key;rw [hs',show (Array.replicate (n + 1) false) = (Array.replicate n false).push false from Array.replicate_succ];exact this
 ·intro j o ho hl;rw [Array.getD_eq_getD_getElem?,Array.getElem?_replicate] at hl;split at hl <;> simp at hl
 ·intro j o ho hl;rw [Array.getD_eq_getD_getElem?,Array.getElem?_replicate] at hl;split at hl <;> simp at hl
 ·intro h0;unfold Region.ready;rw [hsz,h0];rfl
 ·simp only [Array.toList_replicate,List.countP_replicate];split <;> omega
theorem J6 (b:Act) (N:Nat) (h:b.tmps.size = N):b = ⟨((List.range N).map fun k=>b.tmps.getD k undef).toArray,b.defers⟩:=by
 obtain ⟨t,d⟩:=b;simp only at h ⊢;congr;apply Array.ext
 ·simp [h]
 ·intro i h1 h2;simp [Array.getD_eq_getD_getElem?,Array.getElem?_eq_getElem h1]
end
end Go
