/- TalkHears -/
import Derived.Test.YtcjicjfbippmnaaGreatMTHear4
set_option maxRecDepth 100000
set_option maxHeartbeats 32000000
namespace Go.Proofs.YtcjicjfbippmnaaGreat
open Go.RowKit Ear

theorem Zy {W:World} {k:Nat} {u0 u1 u2:Value} (v0 v1 v2:Value) (h0:W.cell? ⟨k,0,none⟩ = some u0) (h1:W.cell? ⟨k,1,none⟩ = some u1) (h2:W.cell? ⟨k,2,none⟩ = some u2) :
  (((W.setCell ⟨k,0,none⟩ v0).setCell ⟨k,1,none⟩ v1).setCell ⟨k,2,none⟩ v2).cell? ⟨k,0,none⟩ = some v0 /\ (((W.setCell ⟨k,0,none⟩ v0).setCell ⟨k,1,none⟩ v1).setCell ⟨k,2,none⟩ v2).cell? ⟨k,1,none⟩ = some v1 /\ (((W.setCell ⟨k,0,none⟩ v0).setCell ⟨k,1,none⟩ v1).setCell ⟨k,2,none⟩ v2).cell? ⟨k,2,none⟩ = some v2:=by
 simp [go_sem,h0,h1,h2]
theorem Zah {W:World} {k:Nat} {u0 u1 u2:Value} (v0 v1 v2:Value) (o:Obj) (h0:W.cell? ⟨k,0,none⟩ = some u0) (h1:W.cell? ⟨k,1,none⟩ = some u1) (h2:W.cell? ⟨k,2,none⟩ = some u2) (hk:k < W.heap.size) :
  ((((W.setCell ⟨k,0,none⟩ v0).setCell ⟨k,1,none⟩ v1).setCell ⟨k,2,none⟩ v2).alloc o).cell? ⟨k,0,none⟩ = some v0 /\ ((((W.setCell ⟨k,0,none⟩ v0).setCell ⟨k,1,none⟩ v1).setCell ⟨k,2,none⟩ v2).alloc o).cell? ⟨k,1,none⟩ = some v1 /\ ((((W.setCell ⟨k,0,none⟩ v0).setCell ⟨k,1,none⟩ v1).setCell ⟨k,2,none⟩ v2).alloc o).cell? ⟨k,2,none⟩ = some v2:=by
 obtain ⟨e0,e1,e2⟩:=Zy v0 v1 v2 h0 h1 h2;have hs:k < (((W.setCell ⟨k,0,none⟩ v0).setCell ⟨k,1,none⟩ v1).setCell ⟨k,2,none⟩ v2).heap.size:=by simpa using hk
 exact ⟨(Wc8 _ o ⟨k,0,none⟩ hs).trans e0,(Wc8 _ o ⟨k,1,none⟩ hs).trans e1,(Wc8 _ o ⟨k,2,none⟩ hs).trans e2⟩
theorem Ue (A:Option Addr) (c:Nat) (w:World) (h:Lies w A (ucs [1])):Calls Tryz.prog 145 #[.slice A 1 c] w fun e w'=>e = .returned (.bool true) /\ w = w':=by
 have h1:=Uf A c 1 w (by rw [YN];exact h) (by rw [YN];simp) true (zH (by simp));rw [YN] at h1;simpa using h1
theorem Vq {w:World} {base c:Nat} {A:Option Addr} {l:List Int} (h:w.ownsRow base 173 1 (.slice A l.length c) l.length (ucs l)) (hd:dgs l):Dg w A c l:=
 ⟨Lies.of_own h,hd,(Xt h).1,(Xt h).2⟩
theorem Q6 (neg:Bool) (A B:Option Addr) (c d:Nat) (a b:List Int) (w:World) (hA:Dg w A c a) (hB:Dg w B d b) (hn:a.length <= 1000000) (hm:b.length <= 1000000) (hx:Hid (vl a = 0)) :
  Calls Tryz.prog 94 #[.bool neg,.slice A a.length c,.slice B b.length d] w (RetFr false 0 1 w):=by
 have DA:=zH hA.dig;have DB:=zH hB.dig;have ca:=hA.cap;have cb:=hB.cap;have LA:=zH (fun o=>hA.lies.alloc (w:=w) o);have LB:=zH (fun o=>hB.lies.alloc (w:=w) o);have hvb:=Jx DB.out;have HV:Hid (vl b = ((vl b).toNat:Nat)):=zH (by omega);have HX:Hid (vl a = (0:Nat)):=zH (by rw [hx.out];rfl);have HZ:Hid ((nd 0).length = 0):=zH (by rw [JG];rfl);clear hvb hA hB;generalize (vl b).toNat = v at *
 go_enter Tryz.func94,Tryz.ntmps94;go_wp2_with fail;refine (JJ A c a _ (LA.out _) DA ca (by omega) 0 HX).mono ?_;rintro e w' ⟨rfl,rfl⟩;rw [HZ.out];go_wp2_with fail;refine (JJ B d b _ (LB.out _) DB cb (by omega) v HV).mono ?_;rintro e w' ⟨rfl,rfl⟩;go_wp2_with fail;refine WB (v:=.agg #[.bool false,.slice none 0 0,.slice none 0 0]) (by simp [results,Tryz.results94,go_sem]) rfl ?_;refine ⟨⟨false,none,0,[],none,0,[]⟩,rfl,⟨Dg.none _,Dg.none _⟩,rfl,JG.symm,rfl,?_⟩
 first
  | exact bR.alloc nR _
  | exact (((bR.alloc nR _).setCell (by simp) _).setCell (by simp) _).setCell (by simp) _
theorem Zga (neg:Bool) (A B:Option Addr) (c d:Nat) (a b:List Int) (w:World) (hA:Dg w A c a) (hB:Dg w B d b) (hn:a.length <= 1000000) (hm:b.length <= 1000000) (x:Nat) (hx:Hid (vl a = x)) (h0:x ≠ 0) (hb0:Hid (vl b = 0)) :
  Calls Tryz.prog 94 #[.bool neg,.slice A a.length c,.slice B b.length d] w (RetFr neg x 1 w):=by
 obtain ⟨j0,hj0,ky0,ky1,ky2⟩:=WaI XT;have KI:=zH hj0;have KZ0:=zH ky0;have KZ1:=zH ky1;have KZ2:=zH ky2;clear hj0 ky0 ky1 ky2;have DA:=zH hA.dig;have DB:=zH hB.dig;have ca:=hA.cap;have cb:=hB.cap;have NA:=zH hA.nil;have LA:=zH (fun o=>hA.lies.alloc (w:=w) o);have LB:=zH (fun o=>hB.lies.alloc (w:=w) o);have hB0:Hid (vl b = (0:Nat)):=zH (by rw [hb0.out];rfl);have HZ:Hid ((nd 0).length = 0):=zH (by rw [JG];rfl);have DX:=zH (hA.nd hx.out);have hlx:=JD DA.out hx.out;have hne:(nd x).length ≠ 0:=fun h=>h0 (Jw.1 h);have q0:(((nd x).length:Int) == 0) = false:=Wz.2 (by omega);clear hA hB;go_enter Tryz.func94,Tryz.ntmps94;go_wp2_with fail;refine (JJ A c a _ (LA.out _) DA ca (by omega) x hx).mono ?_;rintro e w' ⟨rfl,rfl⟩;go_wp2_with fail;refine (JJ B d b _ (LB.out _) DB cb (by omega) 0 hB0).mono ?_;rintro e w' ⟨rfl,rfl⟩;rw [HZ.out];go_wp2_with fail;obtain ⟨W2,hW2⟩:∃ W2:World,W2 = (((w.alloc (.cells #[.bool false,.slice none 0 0,.slice none 0 0] 28)).alloc (.cells #[.int .u32 1] 173)).alloc (.cells #[.int .u32 1] 173)):=⟨_,rfl⟩;have D2:=zH ((((Led.nil w).make #[.bool false,.slice none 0 0,.slice none 0 0] 28 w.heap.size rfl).make #[.int .u32 1] 173 (w.heap.size + 1) (by simp)).make #[.int .u32 1] 173 (w.heap.size + 2) (by simp));rw [<- hW2] at D2 ⊢;have L2:Hid (Dg W2 A c (nd x)):=zH (by rw [hW2];exact (DX.out.below (((bR.alloc nR _).alloc (by simp) _).alloc (by simp;omega) _)));have hs2:w.heap.size + 3 = W2.heap.size:=by rw [hW2];simp
 have f2:W2.frozen? ⟨w.heap.size,0,none⟩ = false /\ W2.frozen? ⟨w.heap.size,1,none⟩ = false /\ W2.frozen? ⟨w.heap.size,2,none⟩ = false:=by rw [hW2];simp [go_sem]
 have HF2:=zH f2;clear hW2 f2 LA LB DX;refine (Ue (some ⟨w.heap.size + 1,0,none⟩) 1 W2 (D2.out.lies 1 _ _ rfl)).mono ?_;rintro e w' ⟨rfl,rfl⟩;go_wp2_with fail;refine (Ue (some ⟨w.heap.size + 2,0,none⟩) 1 W2 (D2.out.lies 2 _ _ rfl)).mono ?_;rintro e w' ⟨rfl,rfl⟩;generalize hxs:nd x = xs at *
 have HXS:=zH hxs;clear hxs;have L2':=L2.out;go_wp2_with (at_builtin;refine Jf _ rfl (.const (.slice none 0 0)) (.tmp 49) _ rfl W2.heap.size 173 j0 _ 1 4 Tryz.underlying26 KI.out KZ0.out KZ1.out KZ2.out rfl (by omega) (.slice none 0 0) 0 [] rfl (WJ _ _ _ _) A xs.length c (ucs xs) rfl NA.out L2'.lies (by simp) (ZX _) (by unfold maxLen;omega) (by omega) nR xs.length (WH _) ?_;intro A4 c4 w4 ho4 hg4 _);have hb4:Below W2.heap.size W2 w4:=JQ hg4;have D4:=zH (D2.out.below hb4);obtain ⟨-,hf4⟩:=Zg6 hb4;have r0:=D4.out.cell 0 rfl 0 rfl;have r1:=D4.out.cell 0 rfl 1 rfl;have r2:=D4.out.cell 0 rfl 2 rfl;have s0:w4.frozen? ⟨w.heap.size,0,none⟩ = false:=by rw [hf4 _ _ (by omega)];exact HF2.out.1
 have s1:w4.frozen? ⟨w.heap.size,1,none⟩ = false:=by rw [hf4 _ _ (by omega)];exact HF2.out.2.1
 have s2:w4.frozen? ⟨w.heap.size,2,none⟩ = false:=by rw [hf4 _ _ (by omega)];exact HF2.out.2.2
 have hs4:w.heap.size + 3 <= w4.heap.size:=by have:=hb4.size;omega
 have hlt4:w.heap.size < w4.heap.size:=by omega
 have L4:=zH (D4.out.lies 1 _ _ rfl);have HO4:=zH ho4;simp only [Nat.add_zero,Nat.zero_add] at r0 r1 r2;clear hb4 hf4 ho4 hg4 L2';go_wp2_with fail;refine (Ue (some ⟨w.heap.size + 1,0,none⟩) 1 _ (L4.out.alloc _)).mono ?_;rintro e w' ⟨rfl,rfl⟩;go_wp2_with fail;obtain ⟨e0,e1,e2⟩:=Zah (.bool neg) (.slice A4 xs.length c4) (.slice none 0 0) (.cells #[.bool neg,.slice A4 xs.length c4,.slice none 0 0] 28) r0 r1 r2 hlt4;refine WB (v:=.agg #[.bool neg,.slice A4 xs.length c4,.slice none 0 0]) (by simp [results,Tryz.results94,go_sem,e0,e1,e2]) rfl ?_;refine ⟨⟨neg,A4,c4,xs,none,0,[]⟩,rfl,⟨Vq ((JU (JU (JU HO4.out (by simp;omega) _) (by simp;omega) _) (by simp;omega) _).alloc _) (by rw [<- HXS.out];exact JC _),Dg.none _⟩,rfl,HXS.out.symm,rfl,?_⟩;exact ((((D4.out.bel).setCell nR _).setCell nR _).setCell nR _).alloc (by simp;omega) _
theorem Zf9 (neg:Bool) (A B:Option Addr) (c d:Nat) (a b:List Int) (w:World) (hA:Dg w A c a) (hB:Dg w B d b) (hn:a.length <= 1000000) (hm:b.length <= 1000000) (x:Nat) (hx:Hid (vl a = x)) (h0:x ≠ 0) (hb0:Hid (vl b = 1)) :
  Calls Tryz.prog 94 #[.bool neg,.slice A a.length c,.slice B b.length d] w (RetFr neg x 1 w):=by
 obtain ⟨j0,hj0,ky0,ky1,ky2⟩:=WaI XT;have KI:=zH hj0;have KZ0:=zH ky0;have KZ1:=zH ky1;have KZ2:=zH ky2;clear hj0 ky0 ky1 ky2;have DA:=zH hA.dig;have DB:=zH hB.dig;have ca:=hA.cap;have cb:=hB.cap;have NA:=zH hA.nil;have LA:=zH (fun o=>hA.lies.alloc (w:=w) o);have LB:=zH (fun o=>hB.lies.alloc (w:=w) o);have hB0:Hid (vl b = (1:Nat)):=zH (by rw [hb0.out];rfl);have HZ:Hid ((nd 1).length = 1):=zH (by rw [YN];rfl);have LB1:Hid (Dg w B d [1]):=zH (by have:=hB.nd hB0.out;rwa [YN] at this);have DX:=zH (hA.nd hx.out);have hlx:=JD DA.out hx.out;have hne:(nd x).length ≠ 0:=fun h=>h0 (Jw.1 h);have q0:(((nd x).length:Int) == 0) = false:=Wz.2 (by omega);clear hA hB;go_enter Tryz.func94,Tryz.ntmps94;go_wp2_with fail;refine (JJ A c a _ (LA.out _) DA ca (by omega) x hx).mono ?_;rintro e w' ⟨rfl,rfl⟩;go_wp2_with fail;refine (JJ B d b _ (LB.out _) DB cb (by omega) 1 hB0).mono ?_;rintro e w' ⟨rfl,rfl⟩;rw [HZ.out];go_wp2_with fail;obtain ⟨W2,hW2⟩:∃ W2:World,W2 = ((w.alloc (.cells #[.bool false,.slice none 0 0,.slice none 0 0] 28)).alloc (.cells #[.int .u32 1] 173)):=⟨_,rfl⟩;have D2:=zH ((((Led.nil w).add LB1.out.lies).make #[.bool false,.slice none 0 0,.slice none 0 0] 28 w.heap.size rfl).make #[.int .u32 1] 173 (w.heap.size + 1) (by simp));rw [<- hW2] at D2 ⊢;have L2:Hid (Dg W2 A c (nd x)):=zH (by rw [hW2];exact (DX.out.below ((bR.alloc nR _).alloc (by simp) _)));have hs2:w.heap.size + 2 = W2.heap.size:=by rw [hW2];simp
 have f2:W2.frozen? ⟨w.heap.size,0,none⟩ = false /\ W2.frozen? ⟨w.heap.size,1,none⟩ = false /\ W2.frozen? ⟨w.heap.size,2,none⟩ = false:=by rw [hW2];simp [go_sem]
 have HF2:=zH f2;clear hW2 f2 LA LB DX;refine (Ue B d W2 (D2.out.lies 0 _ _ rfl)).mono ?_;rintro e w' ⟨rfl,rfl⟩;go_wp2_with fail;refine (Ue (some ⟨w.heap.size + 1,0,none⟩) 1 W2 (D2.out.lies 2 _ _ rfl)).mono ?_;rintro e w' ⟨rfl,rfl⟩;generalize hxs:nd x = xs at *
 have HXS:=zH hxs;clear hxs;have L2':=L2.out;go_wp2_with (at_builtin;refine Jf _ rfl (.const (.slice none 0 0)) (.tmp 49) _ rfl W2.heap.size 173 j0 _ 1 4 Tryz.underlying26 KI.out KZ0.out KZ1.out KZ2.out rfl (by omega) (.slice none 0 0) 0 [] rfl (WJ _ _ _ _) A xs.length c (ucs xs) rfl NA.out L2'.lies (by simp) (ZX _) (by unfold maxLen;omega) (by omega) nR xs.length (WH _) ?_;intro A4 c4 w4 ho4 hg4 _);have hb4:Below W2.heap.size W2 w4:=JQ hg4;have D4:=zH (D2.out.below hb4);obtain ⟨-,hf4⟩:=Zg6 hb4;have r0:=D4.out.cell 1 rfl 0 rfl;have r1:=D4.out.cell 1 rfl 1 rfl;have r2:=D4.out.cell 1 rfl 2 rfl;have s0:w4.frozen? ⟨w.heap.size,0,none⟩ = false:=by rw [hf4 _ _ (by omega)];exact HF2.out.1
 have s1:w4.frozen? ⟨w.heap.size,1,none⟩ = false:=by rw [hf4 _ _ (by omega)];exact HF2.out.2.1
 have s2:w4.frozen? ⟨w.heap.size,2,none⟩ = false:=by rw [hf4 _ _ (by omega)];exact HF2.out.2.2
 have hs4:w.heap.size + 2 <= w4.heap.size:=by have:=hb4.size;omega
 have hlt4:w.heap.size < w4.heap.size:=by omega
 have L4:=zH (D4.out.lies 0 _ _ rfl);have HO4:=zH ho4;simp only [Nat.add_zero,Nat.zero_add] at r0 r1 r2;clear hb4 hf4 ho4 hg4 L2';go_wp2_with fail;refine (Ue B d _ (L4.out.alloc _)).mono ?_;rintro e w' ⟨rfl,rfl⟩;go_wp2_with fail;obtain ⟨e0,e1,e2⟩:=Zah (.bool neg) (.slice A4 xs.length c4) (.slice none 0 0) (.cells #[.bool neg,.slice A4 xs.length c4,.slice none 0 0] 28) r0 r1 r2 hlt4;refine WB (v:=.agg #[.bool neg,.slice A4 xs.length c4,.slice none 0 0]) (by simp [results,Tryz.results94,go_sem,e0,e1,e2]) rfl ?_;refine ⟨⟨neg,A4,c4,xs,none,0,[]⟩,rfl,⟨Vq ((JU (JU (JU HO4.out (by simp;omega) _) (by simp;omega) _) (by simp;omega) _).alloc _) (by rw [<- HXS.out];exact JC _),Dg.none _⟩,rfl,HXS.out.symm,rfl,?_⟩;exact ((((D4.out.bel).setCell nR _).setCell nR _).setCell nR _).alloc (by simp;omega) _
theorem Zbp (neg:Bool) (A B:Option Addr) (c d:Nat) (a b:List Int) (w:World) (hA:Dg w A c a) (hB:Dg w B d b) (hn:a.length <= 1000000) (hm:b.length <= 1000000) (x:Nat) (hx:Hid (vl a = x)) (hb0:Hid (vl b = 0 ∨ vl b = 1)) :
  Calls Tryz.prog 94 #[.bool neg,.slice A a.length c,.slice B b.length d] w (RetFr (neg && decide (x ≠ 0)) x 1 w):=by
 by_cases h0:x = 0
 ·subst h0;simpa using Q6 neg A B c d a b w hA hB hn hm (zH (by rw [hx.out];rfl))
 ·have e:(neg && decide (x ≠ 0)) = neg:=by simp [h0]
  rw [e];rcases hb0.out with h | h
  ·exact Zga neg A B c d a b w hA hB hn hm x hx h0 (zH h)
  ·exact Zf9 neg A B c d a b w hA hB hn hm x hx h0 (zH h)
theorem Zb5 {out l:List Int} {i:Nat} (ho:out.length = i) (hi:i < l.length) (t:Int):(out ++ l.drop i).set i t = (out ++ [t]) ++ l.drop (i + 1):=by
 rw [WaJ _ _ (by omega),ho,WcO,Wv hi,WeA,Wa6];rfl
theorem Ze3 {out l:List Int} {i:Nat} (ho:out.length = i) (k:Nat) (hk:i <= k):(out ++ l.drop i)[k]?.getD 0 = l[k]?.getD 0:=by
 rw [WaL (by omega),ho,WdM];congr 2;omega
theorem UZ {out l:List Int} {i:Nat} (ho:out.length = i) (hi:i <= l.length):(out ++ l.drop i).length = l.length:=by simp;omega
theorem J1 {w:World} {base g n c:Nat} {l:List Int} (h:w.ownsRow base 173 1 (.slice (some ⟨g,0,none⟩) n c) n (ucs l)) (hl:l.length = n) {k:Nat} (hk:k < n):w.cell? ⟨g,k,none⟩ = some (.int .u32 (l[k]?.getD 0)) /\ w.frozen? ⟨g,k,none⟩ = false:=
 ⟨by rw [h.cellAt k (by omega)];simp only [List.getElem?_map,gE (show k < l.length by omega)];rfl,h.frozenAt k⟩
theorem Xk {w:World} {base g n c:Nat} {l:List Int} (h:w.ownsRow base 173 1 (.slice (some ⟨g,0,none⟩) n c) n (ucs l)) (k:Nat) (v:Int):(w.setCell ⟨g,k,none⟩ (.int .u32 v)).ownsRow base 173 1 (.slice (some ⟨g,0,none⟩) n c) n (ucs (l.set k v)):=by
 have hst:=h.stored k (.int .u32 v);rw [<- WcG] at hst;exact hst.1
theorem Zbm {w:World} {base n c:Nat} {A:Option Addr} {l:List Int} (h:w.ownsRow base 173 1 (.slice A n c) n (ucs l)) (hl:l.length = n) (hd:dgs l) (hn:n <= 1000000) {v:Nat} (hv:vl l = v):Calls Tryz.prog 126 #[.slice A n c] w (URet (nd v) w):=by
 subst hl;exact ZaZ A c l w (Vq h hd) hn v (zH hv)
theorem Vp {w:World} {base n c:Nat} {A:Option Addr} {l:List Int} (h:w.ownsRow base 173 1 (.slice A n c) n (ucs l)) (hl:l.length = n) (hd:dgs l) (hn:n <= 1000000) {v:Nat} (hv:vl l = v):Calls Tryz.prog 126 #[.slice A n c] w (Yx v w):=by
 subst hl;exact Zm A c l w (Vq h hd) hn v (zH hv)
theorem Zfx (A B:Option Addr) (c d:Nat) (a b:List Int) (w:World) (hA:Dg w A c a) (hB:Dg w B d b) (hn:a.length <= 900000) (hm:b.length <= 900000)
  (v:Nat) (hv:Hid (vl a + vl b = v)) :
  Calls Tryz.prog 131 #[.slice A a.length c,.slice B b.length d] w (Yx v w):=by
 obtain ⟨N,hN⟩:∃ N:Nat,N = max a.length b.length:=⟨_,rfl⟩;obtain ⟨w1,hmk,ho1,hb1⟩:=XW w (N + 1) (by omega) w.heap.size nR;have hmx:max (a.length:Int) (b.length:Int) = (N:Int):=by omega
 have e2:((N + 1:Nat):Int) = (N:Int) + 1:=by simp
 rw [e2] at hmk;obtain ⟨g,hg⟩:∃ g,g = w.heap.size:=⟨_,rfl⟩;rw [<- hg] at ho1 hmk;have HG:Hid (w.heap.size <= g):=by show _ <= _;omega
 have HST:=zH (PlusAt.start a b);have la:a.length <= N:=by omega
 have lb:b.length <= N:=by omega
 have da:=zH hA.dig;have db:=zH hB.dig;have LA:=zH hA.lies;have LB:=zH hB.lies;have NB:N <= 900000:=by omega
 clear hg e2 hA hB hN;go_enter Tryz.func131,Tryz.ntmps131;go_wp2_with fail;clear hmk hmx;go_loopw [6,7,17] (fun cy _ i wr=>∃ k:Nat,k <= N + 1 /\ i = .int .i64 k /\ ∃ out q,Hid (PlusAt a b out k q) /\ cy = .int .u64 q /\ wr.ownsRow g 173 1 (.slice (some ⟨g,0,none⟩) (N + 1) (N + 1)) (N + 1) (ucs (out ++ (List.replicate (N + 1) 0).drop k)) /\ Below w.heap.size w wr) (fun _ _ i _=>N + 1 - (intOf i).toNat)
 case atStart=>exact ⟨0,by omega,rfl,[],0,HST,rfl,by simpa using ho1,hb1⟩
 case round=>
  obtain ⟨k,hk,rfl,out,q,HM,rfl,r1,r2⟩:=hrel;clear HST ho1;have h0:=HM.out.c0;have h1:=HM.out.c1;have hol:=HM.out.len;by_cases hlt:k < N + 1
  ·have HA:=zH (LA.out.below r2);have HB:=zH (LB.out.below r2);have d1:=JH da.out k;have d2:=JH db.out k;have HN:=zH (fun t ht=>HM.out.next da.out db.out (t:=t) ht);have hq:=J1 r1 (by rw [UZ hol (by simp;omega)];simp) hlt;rw [Ze3 hol k nR] at hq;have hz:(List.replicate (N + 1) (0:Int))[k]?.getD 0 = 0:=(by rw [List.getElem?_replicate];split <;> rfl);rw [hz] at hq;obtain ⟨q1,q2⟩:=hq;have HS:Hid (∀ t,(out ++ (List.replicate (N + 1) 0).drop k).set k t = (out ++ [t]) ++ (List.replicate (N + 1) 0).drop (k + 1)):=zH (fun t=>Zb5 hol (by simp;omega) t);have HO:=zH r1;have HR2:=zH r2;clear r1 r2 hz hol;have fin:∀ t,t = q + a[k]?.getD 0 + b[k]?.getD 0 -> ∀ W,(wr.setCell ⟨g,k,none⟩ (.int .u32 (t % 4294967296))) = W -> (∃ k':Nat,k' <= N + 1 /\ Value.int .i64 (k + 1:Int) = .int .i64 k' /\ ∃ out q,Hid (PlusAt a b out k' q) /\ Value.int .u64 (t / 4294967296) = .int .u64 q /\ W.ownsRow g 173 1 (.slice (some ⟨g,0,none⟩) (N + 1) (N + 1)) (N + 1) (ucs (out ++ (List.replicate (N + 1) 0).drop k')) /\ Below w.heap.size w W):=by
    rintro t ht W rfl;refine ⟨k + 1,by omega,by simp,_,_,zH (HN.out t ht),rfl,?_,HR2.out.setCell HG.out _⟩;rw [<- HS.out];exact Xk HO.out k _
   have FIN:=zH fin;clear fin;by_cases hka:k < a.length
   ·obtain ⟨b1,o1,rfl,hb1,hc1⟩:=HA.out.uat hka;by_cases hkb:k < b.length
    ·obtain ⟨b2,o2,rfl,hb2,hc2⟩:=HB.out.uat hkb;have F:=zH (FIN.out _ rfl _ rfl);clear FIN;generalize a[k]?.getD 0 = x at *
     generalize b[k]?.getD 0 = y at *
     go_wp2_with fail;exact ⟨F.out,by simp [intOf];omega⟩
    ·have hy:b[k]?.getD 0 = 0:=(by rw [WF (by omega)];rfl);have F:=zH (FIN.out _ rfl _ rfl);rw [hy,WdI] at F;clear FIN hy;generalize a[k]?.getD 0 = x at *
     go_wp2_with fail;exact ⟨F.out,by simp [intOf];omega⟩
   ·have hx:a[k]?.getD 0 = 0:=(by rw [WF (by omega)];rfl);by_cases hkb:k < b.length
    ·obtain ⟨b2,o2,rfl,hb2,hc2⟩:=HB.out.uat hkb;have F:=zH (FIN.out _ rfl _ rfl);rw [hx,WdI] at F;clear FIN hx;generalize b[k]?.getD 0 = y at *
     go_wp2_with fail;exact ⟨F.out,by simp [intOf];omega⟩
    ·have hy:b[k]?.getD 0 = 0:=(by rw [WF (by omega)];rfl);have F:=zH (FIN.out _ rfl _ rfl);rw [hx,hy,WdI,WdI,show q % 4294967296 = q by omega] at F;clear FIN hx hy;go_wp2_with fail;exact ⟨F.out,by simp [intOf];omega⟩
  ·obtain rfl:k = N + 1:=by omega
   have VV:Hid (vl out = v):=zH (by
    have hval:=HM.out.val;rw [Wm (show a.length <= N + 1 by omega),Wm (show b.length <= N + 1 by omega)] at hval;have e1:=Xx (vl a).toNat (vl b).toNat N (tR (JD da.out (by have:=Jx da.out;omega)) la) (tR (JD db.out (by have:=Jx db.out;omega)) lb);have e2:v < 4294967296 ^ (N + 1):=by
     have a0:=Jx da.out;have b0:=Jx db.out;have e3:(vl a).toNat + (vl b).toNat = v:=(by have:=hv.out;omega);rw [e3] at e1;exact Wk (Vr v) (Wa4 (by decide) e1)
    have e4:=Jx HM.out.dig;rw [Qt] at hval;have:=hv.out;rcases (show q = 0 ∨ q = 1 by omega) with rfl | rfl
    ·simp at hval;omega
    ·exfalso;rw [We6] at hval;omega)
   have HT:=zH (Vp r1 (by rw [UZ hol (by simp)];simp) (by rw [WN (by simp),Wa1];exact HM.out.dig) (by omega) (v:=v) (by rw [WN (by simp),Wa1];exact VV.out));have HR2:=zH r2;clear r1 r2 hol;go_wp2_with fail;refine HT.out.mono ?_;rintro e w' ⟨A2,c2,rfl,t1,t2,t3,t4⟩;go_wp2_with fail;go_ret;exact ⟨A2,c2,rfl,t1,t2,t3,HR2.out.trans (t4.mono HR2.out.size)⟩
theorem Zct (A B:Option Addr) (c d:Nat) (a b:List Int) (w:World) (hA:Dg w A c a) (hB:Dg w B d b) (hl:b.length <= a.length) (hn:a.length <= 1000000)
  (v:Nat) (hv:Hid (vl a - vl b = v)) :
  Calls Tryz.prog 133 #[.slice A a.length c,.slice B b.length d] w (URet (nd v) w):=by
 have HST:=zH (MinusAt.start a b);have da:=zH hA.dig;have db:=zH hB.dig;have LB:=zH hB.lies;have HC:=zH (ZK A c a w hA hn);clear hA hB;go_enter Tryz.func133,Tryz.ntmps133;go_wp2_with fail;refine HC.out.mono ?_;rintro e w1 ⟨A1,c1,rfl,ho1,hb1⟩;clear HC;go_wp2_with fail;go_loopw [6,7,8,9,14] (fun br _ _ _ i wr=>∃ k:Nat,k <= a.length /\ i = .int .i64 k /\ ∃ out q,Hid (MinusAt a b out k q) /\ br = .int .u64 q /\ wr.ownsRow w.heap.size 173 1 (.slice A1 a.length c1) a.length (ucs (out ++ a.drop k)) /\ Below w.heap.size w wr) (fun _ _ _ _ i _=>a.length - (intOf i).toNat)
 case atStart=>exact ⟨0,by omega,rfl,[],0,HST,rfl,ho1,hb1⟩
 case round=>
  obtain ⟨k,hk,rfl,out,q,HM,rfl,r1,r2⟩:=hrel;clear HST ho1;have h0:=HM.out.c0;have h1:=HM.out.c1;have hol:=HM.out.len;by_cases hlt:k < a.length
  ·obtain ⟨g,cap,hv',hgg,hglt⟩:=r1.form (by omega);obtain rfl:A1 = some ⟨g,0,none⟩:=(by injection hv');clear hv' cap;have HB:=zH (LB.out.below r2);have d1:=JH da.out k;have d2:=JH db.out k;have hq:=J1 r1 (UZ hol hk) hlt;rw [Ze3 hol k nR] at hq;obtain ⟨q1,q2⟩:=hq;have HS:Hid (∀ t,(out ++ a.drop k).set k t = (out ++ [t]) ++ a.drop (k + 1)):=zH (fun t=>Zb5 hol hlt t);have HO:=zH r1;have HR2:=zH r2;clear r1 r2 hol;have fin:∀ d' t,0 <= d' -> d' <= 1 -> t = a[k]?.getD 0 - (q + b[k]?.getD 0) + 4294967296 * d' -> 0 <= t -> t <= 4294967295 -> ∀ W,(wr.setCell ⟨g,k,none⟩ (.int .u32 t)) = W -> (∃ k':Nat,k' <= a.length /\ Value.int .i64 (k + 1:Int) = .int .i64 k' /\ ∃ out q,Hid (MinusAt a b out k' q) /\ Value.int .u64 d' = .int .u64 q /\ W.ownsRow w.heap.size 173 1 (.slice (some ⟨g,0,none⟩) a.length c1) a.length (ucs (out ++ a.drop k')) /\ Below w.heap.size w W):=by
    rintro d' t x1 x2 x3 x4 x5 W rfl;refine ⟨k + 1,by omega,by simp,_,_,zH (HM.out.next x1 x2 x3 x4 x5),rfl,?_,HR2.out.setCell hgg _⟩;rw [<- HS.out];exact Xk HO.out k _
   have FIN:=zH fin;clear fin;by_cases hkb:k < b.length
   ·obtain ⟨b2,o2,rfl,hb2,hc2⟩:=HB.out.uat hkb;by_cases hxy:a[k]?.getD 0 < q + b[k]?.getD 0
    ·have F:=zH (FIN.out 1 (a[k]?.getD 0 + 4294967296 - (q + b[k]?.getD 0)) (by omega) (by omega) (by omega) (by omega) (by omega) _ rfl);clear FIN;generalize a[k]?.getD 0 = x at *
     generalize b[k]?.getD 0 = y at *
     go_wp2_with fail;exact ⟨F.out,by simp [intOf];omega⟩
    ·have F:=zH (FIN.out 0 (a[k]?.getD 0 - (q + b[k]?.getD 0)) (by omega) (by omega) (by omega) (by omega) (by omega) _ rfl);clear FIN;generalize a[k]?.getD 0 = x at *
     generalize b[k]?.getD 0 = y at *
     go_wp2_with fail;exact ⟨F.out,by simp [intOf];omega⟩
   ·have hy:b[k]?.getD 0 = 0:=(by rw [WF (by omega)];rfl);by_cases hxy:a[k]?.getD 0 < q
    ·have F:=zH (FIN.out 1 (a[k]?.getD 0 + 4294967296 - q) (by omega) (by omega) (by omega) (by omega) (by omega) _ rfl);clear FIN hy;generalize a[k]?.getD 0 = x at *
     go_wp2_with fail;exact ⟨F.out,by simp [intOf];omega⟩
    ·have F:=zH (FIN.out 0 (a[k]?.getD 0 - q) (by omega) (by omega) (by omega) (by omega) (by omega) _ rfl);clear FIN hy;generalize a[k]?.getD 0 = x at *
     go_wp2_with fail;exact ⟨F.out,by simp [intOf];omega⟩
  ·obtain rfl:k = a.length:=by omega
   have HT:=zH (Zbm r1 (UZ hol hk) (by rw [WN nR,Wa1];exact HM.out.dig) (by omega) (v:=v) (by rw [WN nR,Wa1,HM.out.done hl (by have:=hv.out;omega)];exact hv.out));have HR2:=zH r2;clear r1 r2 hol;go_wp2_with fail;refine HT.out.mono ?_;rintro e w' ⟨A2,c2,rfl,t1,t4⟩;go_wp2_with fail;go_ret;exact ⟨A2,c2,rfl,JI t1 HR2.out.size,HR2.out.trans (t4.mono HR2.out.size)⟩
theorem Zcu (A B:Option Addr) (c d:Nat) (a b:List Int) (w:World) (hA:Dg w A c a) (hB:Dg w B d b) (hl:b.length <= a.length) (hn:a.length <= 1000000)
  (v:Nat) (hv:Hid (vl a - vl b = v)) :
  Calls Tryz.prog 133 #[.slice A a.length c,.slice B b.length d] w (Yx v w):=(Zct A B c d a b w hA hB hl hn v hv).mono fun _ _ hR=>hR.nd
theorem Zz (A B:Option Addr) (c d:Nat) (a b:List Int) (w:World) (hA0:Dg w A c a) (hB0:Dg w B d b) (hn:a.length <= 450000) (hm:b.length <= 450000)
  (v:Nat) (hv:Hid (vl a * vl b = v)) :
  Calls Tryz.prog 130 #[.slice A a.length c,.slice B b.length d] w (Yx v w):=by
 have hA:=hA0.lies;have hB:=hB0.lies;have da:=zH hA0.dig;have db:=zH hB0.dig;clear hA0 hB0;obtain ⟨w1,hmk,ho1,hb1⟩:=XW w (a.length + b.length) (by omega) w.heap.size nR;have e2:((a.length + b.length:Nat):Int) = (a.length:Int) + (b.length:Int):=by simp
 rw [e2] at hmk;obtain ⟨g,hg⟩:∃ g,g = w.heap.size:=⟨_,rfl⟩;rw [<- hg] at ho1 hmk;have HG:Hid (w.heap.size <= g):=by show _ <= _;omega
 have HST:=zH (MulOut.start a b);clear hg e2;go_enter Tryz.func130,Tryz.ntmps130;go_wp2_with fail;clear hmk;go_loopw [6,7,8,9,10,19] (fun _ _ _ _ _ i wr=>∃ k:Nat,k <= a.length /\ i = .int .i64 k /\ ∃ out,Hid (MulOut a b out k) /\ wr.ownsRow g 173 1 (.slice (some ⟨g,0,none⟩) (a.length + b.length) (a.length + b.length)) (a.length + b.length) (ucs out) /\ Below w.heap.size w wr) (fun _ _ _ _ _ i _=>a.length - (intOf i).toNat)
 case atStart=>exact ⟨0,by omega,rfl,_,HST,ho1,hb1⟩
 case round=>
  obtain ⟨k,hk,rfl,out,HO,r1,r2⟩:=hrel;by_cases hlt:k < a.length
  ·obtain ⟨bk,off,rfl,hb,hc⟩:=(hA.below r2).uat hlt;have HI:=zH HO.out.enter;have hx:=JH da.out k;generalize hx1:a[k]?.getD 0 = x at *
   have HX:=zH hx1;clear hx1;go_wp2_with fail;go_loopw [8,9,10,26] (fun cy _ _ i wr=>∃ m:Nat,m <= b.length /\ i = .int .i64 m /\ ∃ out c,Hid (MulIn a b out k m c) /\ cy = .int .u64 c /\ wr.ownsRow g 173 1 (.slice (some ⟨g,0,none⟩) (a.length + b.length) (a.length + b.length)) (a.length + b.length) (ucs out) /\ Below w.heap.size w wr) (fun _ _ _ i _=>b.length - (intOf i).toNat)
   case atStart=>exact ⟨0,by omega,rfl,out,0,HI,rfl,r1,r2⟩
   case round=>
    obtain ⟨m,hm',rfl,out',cy,HS,rfl,s1,s2⟩:=hrel;clear r1 r2;by_cases hlm:m < b.length
    ·obtain ⟨bj,offj,rfl,hbj,hcj⟩:=(hB.below s2).uat hlm;have hy:=JH db.out m;have ho:=JH HS.out.dig (k + m);have h0:=HS.out.c0;have h1:=HS.out.c1;have hl:=HS.out.len;obtain ⟨q1,q2⟩:=J1 s1 hl (show k + m < a.length + b.length by omega);have HN:=zH (fun t ht=>HS.out.next da.out db.out hlt hlm (t:=t) ht);have hp:=Zb3 hx hy;generalize hy1:b[m]?.getD 0 = y at *
     generalize ho1':out'[k + m]?.getD 0 = z at *
     have HL:=zH hl;have HY:=zH hy1;have HZ:=zH ho1';clear hl hy1 ho1';have hs:=HN.out (cy + (x * y + z)) (by rw [HX.out];omega);have HS1:=zH hs;clear hs;have i0:((k:Int) + (m:Int)).toNat = k + m:=(by omega);have i1:(0:Int) <= (k:Int) + (m:Int):=(by omega);have i2:(k:Int) + (m:Int) < (a.length:Int) + (b.length:Int):=(by omega);have p4:IntKind.i64.wrap ((k:Int) + (m:Int)) = (k:Int) + (m:Int):=WM _ (by omega);have p2:IntKind.u64.wrap (x * y) = x * y:=Wb3 _ (by omega);have p1:IntKind.u64.wrap (x * y + z) = x * y + z:=Wb3 _ (by omega);have p3:IntKind.u64.wrap (cy + (x * y + z)) = cy + (x * y + z):=Wb3 _ (by omega);go_wp2_with fail;have b3 : 0 <= cy + (x * y + z) /\ cy + (x * y + z) <= 18446744073709551615:=(by clear p1 p2 p3 p4;omega);clear p1 p2 p3 p4;go_wp2_with fail;exact ⟨⟨m + 1,by omega,by go_num,_,_,HS1,rfl,Xk s1 (k + m) _,s2.setCell (by exact HG.out) _⟩,by simp [intOf];omega⟩
    ·obtain rfl:m = b.length:=(by omega);have h0:=HS.out.c0;have h1:=HS.out.c1;have hl:=HS.out.len;obtain ⟨q1,q2⟩:=J1 s1 hl (show k + b.length < a.length + b.length by omega);have HL:=zH (HS.out.leave hlt);have i0:((k:Int) + (b.length:Int)).toNat = k + b.length:=(by omega);clear hl;go_wp2_with fail;exact ⟨⟨k + 1,by omega,by go_num,_,HL,Xk s1 (k + b.length) _,s2.setCell (by exact HG.out) _⟩,by simp [intOf];omega⟩
  ·obtain rfl:k = a.length:=by omega
   have HT:=zH (Vp r1 HO.out.len HO.out.dig (by omega) (v:=v) (by rw [HO.out.done,hv.out]));have HR2:=zH r2;clear r1 r2;go_wp2_with fail;refine HT.out.mono ?_;rintro e w' ⟨A2,c2,rfl,t1,t2,t3,t4⟩;go_wp2_with fail;go_ret;exact ⟨A2,c2,rfl,t1,t2,t3,HR2.out.trans (t4.mono HR2.out.size)⟩
end Go.Proofs.YtcjicjfbippmnaaGreat
namespace Ear

theorem ZV (l:List Int) (i:Nat):vl (l.drop i) = l[i]?.getD 0 + 4294967296 * vl (l.drop (i + 1)):=by
 by_cases hi:i < l.length
 ·rw [Wv hi,vl,WW hi];simp only [BB,Option.getD_some]
 ·rw [WN (by omega),WN (by omega),WF (by omega)];simp [vl]
theorem ZaH (l:List Int) (i:Nat) (v:Int):(l.set i v).drop (i + 1) = l.drop (i + 1):=by
 rw [List.drop_set];rw [WA (by omega)]
structure OverAt (a out:List Int) (d:Int) (i:Nat) (r:Int):Prop where
 len:out.length = a.length
 dig:dgs out
 r0 : 0 <= r
 r1:r < d
 val:vl (a.drop i) = vl (out.drop i) * d + r
theorem OverAt.start (a:List Int) {d:Int} (h : 0 < d):OverAt a (List.replicate a.length 0) d a.length 0:=
 ⟨by simp,J6 _,by omega,h,by simp [vl]⟩
theorem Ub {r d x:Int} (h0 : 0 <= r) (h1:r < d) (hx0 : 0 <= x) (hx1:x <= 4294967295) : 0 <= (r * 4294967296 + x) / d /\ (r * 4294967296 + x) / d <= 4294967295 /\ 0 <= (r * 4294967296 + x) % d /\ (r * 4294967296 + x) % d < d:=by
 have a1:=Wd8 (a:=r * 4294967296 + x) (b:=d) (by omega) (by omega);have a2:(r * 4294967296 + x) / d < 4294967296:=WeT (by omega) (by omega);exact ⟨a1,by omega,Int.emod_nonneg _ (by omega),WfF _ (by omega)⟩
theorem OverAt.next {a out:List Int} {d:Int} {i:Nat} {r:Int} (h:OverAt a out d (i + 1) r) (ha:dgs a) (hi:i < a.length) {t:Int} (ht:t = r * 4294967296 + a[i]?.getD 0):OverAt a (out.set i (t / d)) d i (t % d):=by
 have hx:=JH ha i;have hq:=Ub h.r0 h.r1 hx.1 hx.2;rw [<- ht] at hq;refine ⟨by simp [h.len],Zx h.dig _ hq.1 hq.2.1,hq.2.2.1,hq.2.2.2,?_⟩;rw [ZV a i,ZV (out.set i _) i,ZaH,h.val,WbH (by rw [h.len];exact hi)];simp only [Option.getD_some];have e:=WdU t d;rw [We7,Wa8,WbD (t / d) d,WbS];omega
theorem OverAt.done {a out:List Int} {d:Int} {r:Int} (h:OverAt a out d 0 r):vl out = vl a / d /\ r = vl a % d:=by
 have hv:=h.val;simp only [List.drop_zero] at hv;have h0:=h.r0;have h1:=h.r1;rw [hv];constructor
 ·rw [Int.add_comm,Int.add_mul_ediv_right _ _ (by omega),Int.ediv_eq_zero_of_lt h0 h1];omega
 ·rw [Int.add_comm,Int.add_mul_emod_self_right,WeF h0 h1]
structure ShAt (a out:List Int) (p:Int) (i:Nat):Prop where
 len:out.length = a.length + 1
 dig:dgs out
 zer:zer out (i + 1)
 top:out[i]?.getD 0 < p
 val:vl out = vl (a.take i) * p
theorem ShAt.start (a:List Int) {p:Int} (h : 0 < p):ShAt a (List.replicate (a.length + 1) 0) p 0:=
 ⟨by simp,J6 _,Vd _ _,by simp;exact h,by rw [Xe];simp [vl]⟩
theorem ShAt.next {a out:List Int} {p s:Int} {i:Nat} (h:ShAt a out p i) (ha:dgs a) (hi:i < a.length) (hp : 0 < p) (hs:p * s = 4294967296) {x y z:Int} (hx:x = a[i]?.getD 0) (hy:y = out[i]?.getD 0 + x * p % 4294967296) (hz:z = x / s) :
  0 <= y /\ y <= 4294967295 /\ 0 <= z /\ z < p /\ ShAt a ((out.set i y).set (i + 1) z) p (i + 1):=by
 have hd:=JH ha i;rw [<- hx] at hd;have ho:=JH h.dig i;have ht:=h.top;have s0 : 0 < s:=by
  rcases Int.lt_trichotomy s 0 with h1 | h1 | h1
  ·have:=Int.mul_neg_of_pos_of_neg hp h1;omega
  ·rw [h1,Int.mul_zero] at hs;omega
  ·exact h1
 -- x p = (x / s) B + (x % s) p
 have e0:=WdU x s;have e1:x * p = (x / s) * 4294967296 + (x % s) * p:=by
  have:x * p = (s * (x / s) + x % s) * p:=by rw [e0]
  rw [this,We7,<- hs,WbD s (x / s),Wa8,WbD s p]
 have r0:=Int.emod_nonneg x (show s ≠ 0 by omega);have r1:=WfF x s0;have b1:(x % s) * p <= 4294967296 - p:=by
  have:=WdT (show x % s <= s - 1 by omega) (show 0 <= p by omega);rw [Int.sub_mul,Int.one_mul,WbD s p,hs] at this;exact this
 have b0 : 0 <= (x % s) * p:=WcX r0 (by omega);have e2:x * p % 4294967296 = (x % s) * p:=by
  rw [e1,Int.add_comm,Int.add_mul_emod_self_right,WeF b0 (by omega)]
 have z0 : 0 <= x / s:=Wd8 hd.1 (by omega);have z1:x / s < p:=WeT s0 (by rw [hs];omega);rw [e2] at hy;rw [<- hz] at e1 z0 z1;have y1 : 0 <= y:=by omega
 have y2:y <= 4294967295:=by omega
 have pB:p <= 4294967296:=by
  have:=WbK (show 1 <= s by omega) (show 0 <= p by omega);omega
 refine ⟨y1,y2,z0,z1,by simp [h.len],Zx (Zx h.dig _ y1 y2) _ z0 (by omega),?_,?_,?_⟩
 ·intro q hq;rw [WaW (by omega),WaW (by omega)];exact h.zer q (by omega)
 ·rw [WbH (by simp [h.len];omega)];exact z1
 ·rw [QL _ _ _ (by simp [h.len];omega),QL _ _ _ (by rw [h.len];omega),WaW (by omega),h.zer _ (WK _),h.val,YG a i hi,<- hx,We7,ZaQ];have e3:BB * BB ^ i * (z - 0) = BB ^ i * (z * 4294967296):=by rw [Int.sub_zero,WbD BB,Wa8,WbD BB z]
  rw [e3,Wa8 (BB ^ i) x p,e1,hy,WbS];have e4:BB ^ i * (out[i]?.getD 0 + x % s * p - out[i]?.getD 0) = BB ^ i * (x % s * p):=by congr 1;omega
  rw [e4];omega
theorem ShAt.done {a out:List Int} {p:Int} (h:ShAt a out p a.length):vl out = vl a * p:=by
 rw [h.val,WdD]
def Zia (a:List Int) (p:Int) (i:Nat):Int:=(a[i]?.getD 0 + a[i + 1]?.getD 0 * 4294967296) / p % 4294967296
def dnL (a:List Int) (p:Int):List Int:=(List.range a.length).map (Zia a p)
theorem ZhQ (a:List Int) (p:Int):dgs (dnL a p):=by
 intro x hx;obtain ⟨i,_,rfl⟩:=WaO.1 hx;unfold Zia;omega
theorem ZhO {x M p s:Int} (hp : 0 < p) (hs:p * s = 4294967296) (hx0 : 0 <= x) (hx1:x <= 4294967295):(x + 4294967296 * M) / p = (x + M % 4294967296 * 4294967296) / p % 4294967296 + 4294967296 * (M / p):=by
 have s0 : 0 < s:=by
  rcases Int.lt_trichotomy s 0 with h1 | h1 | h1
  ·have:=Int.mul_neg_of_pos_of_neg hp h1;omega
  ·rw [h1,Int.mul_zero] at hs;omega
  ·exact h1
 have f:∀ y:Int,(x + y * 4294967296) / p = x / p + s * y:=fun y=>by
  have e:y * 4294967296 = (s * y) * p:=by rw [<- hs,WbD p s,<- Wa8,WbD y s]
  rw [e,Int.add_mul_ediv_right _ _ (by omega)]
 rw [WbD 4294967296 M,f,f];have q0 : 0 <= x / p:=Wd8 hx0 (by omega);have q1:x / p < s:=WeT hp (by rw [WbD s p,hs];omega)
 -- M = p m + r
 have e0:=WdU M p;have r0:=Int.emod_nonneg M (show p ≠ 0 by omega);have r1:=WfF M hp;have b1:s * (M % p) <= 4294967296 - s:=by
  have:=WbK (show M % p <= p - 1 by omega) (show 0 <= s by omega);rw [Int.mul_sub,We6,WbD s p,hs] at this;exact this
 have b0 : 0 <= s * (M % p):=WcX (by omega) r0;have e1:s * M = 4294967296 * (M / p) + s * (M % p):=by
  have:s * M = s * (p * (M / p) + M % p):=by rw [e0]
  rw [this,WbS,<- Wa8,WbD s p,hs]
 -- the lower part of M
 have e2:M % 4294967296 % p = M % p:=by
  rw [<- hs,Int.emod_emod_of_dvd _ (Int.dvd_mul_right p s)]
 have e3:s * (M % 4294967296) = 4294967296 * (M % 4294967296 / p) + s * (M % p):=by
  have h:=WdU (M % 4294967296) p;rw [e2] at h;have:s * (M % 4294967296) = s * (p * (M % 4294967296 / p) + M % p):=by rw [h]
  rw [this,WbS,<- Wa8,WbD s p,hs]
 rw [e1,e3];have e4:(x / p + (4294967296 * (M % 4294967296 / p) + s * (M % p))) % 4294967296 = x / p + s * (M % p):=by
  have:x / p + (4294967296 * (M % 4294967296 / p) + s * (M % p)) = (x / p + s * (M % p)) + 4294967296 * (M % 4294967296 / p):=by omega
  rw [this,Int.add_mul_emod_self_left,WeF (by omega) (by omega)]
 rw [e4];omega
theorem ZgR {l:List Int} (h:dgs l) (i:Nat):vl (l.drop i) % 4294967296 = l[i]?.getD 0:=by
 have hx:=JH h i;rw [ZV,Int.add_mul_emod_self_left,WeF hx.1 (by omega)]
theorem ZhP {a:List Int} (h:dgs a) {p s:Int} (hp : 0 < p) (hs:p * s = 4294967296):vl (dnL a p) = vl a / p:=by
 have key:∀ k i,i + k = a.length -> vl ((dnL a p).drop i) = vl (a.drop i) / p:=by
  intro k
  induction k with
  | zero=>
   intro i hi;rw [WN (by simp [dnL];omega),WN (by omega)];simp [vl]
  | succ k ih=>
   intro i hi;have hx:=JH h i;rw [ZV (dnL a p),ZV a,ih (i + 1) (by omega),ZhO hp hs hx.1 hx.2,ZgR h];have e:(dnL a p)[i]?.getD 0 = Zia a p i:=by
    unfold dnL;rw [WL,WdG (by omega)];rfl
   rw [e];rfl
 have:=key a.length 0 (by omega);simpa using this
structure DivAt (u v:Nat) (q:List Int) (m j rest:Nat):Prop where
 len:q.length = m
 dig:dgs q
 low:∀ k,k < j -> q[k]?.getD 0 = 0
 val:(u:Int) = vl q * v + rest
 small:rest < v * 4294967296 ^ j
theorem DivAt.start {u v m:Nat} (h:u < v * 4294967296 ^ m):DivAt u v (List.replicate m 0) m m u:=
 ⟨by simp,J6 _,fun k _=>by
  by_cases hk:k < m
  ·rw [WW (by simpa using hk)];simp
  ·rw [WF (by simpa using WdX hk)];rfl,by rw [Xe];simp,h⟩
theorem DivAt.next {u v:Nat} {q:List Int} {m j rest t:Nat} (h:DivAt u v q m (j + 1) rest) (hj:j < m) (h1:v * t * 4294967296 ^ j <= rest) (h2:rest < v * (t + 1) * 4294967296 ^ j) :
  t <= 4294967295 /\ DivAt u v (q.set j t) m j (rest - v * t * 4294967296 ^ j):=by
 have hP : 0 < 4294967296 ^ j:=Wb5 (by decide);have hsm:=h.small;have ht:t <= 4294967295:=by
  have h3:v * t * 4294967296 ^ j < v * 4294967296 * 4294967296 ^ j:=by
   rw [WbC,Wb8 (4294967296 ^ j),<- Wa0] at hsm;omega
  have h4:=Nat.lt_of_mul_lt_mul_right h3;have h5:=Nat.lt_of_mul_lt_mul_left h4;omega
 refine ⟨ht,by simp [h.len],Zx h.dig _ (by omega) (by omega),fun k hk=>?_,?_,?_⟩
 ·rw [WaW (by omega)];exact h.low k (by omega)
 ·rw [QL _ _ _ (by rw [h.len];exact hj),h.low j (by omega),h.val,Qt];have e:(((4294967296 ^ j:Nat):Int) * ((t:Int) - 0)) * (v:Int) = ((v * t * 4294967296 ^ j:Nat):Int):=by
   simp only [Int.natCast_mul,Int.sub_zero];rw [WbD _ (v:Int),WbD _ (t:Int),<- Wa8]
  rw [We7,e];omega
 ·rw [We2,Nat.mul_one,Nat.add_mul] at h2;omega
theorem DivAt.done {u v:Nat} {q:List Int} {m rest:Nat} (h:DivAt u v q m 0 rest):vl q = ((u / v:Nat):Int) /\ rest = u % v:=by
 have hv:=h.val;have hs:=h.small;simp only [Nat.pow_zero,Nat.mul_one] at hs;have h0:=Jx h.dig;obtain ⟨x,hx⟩:∃ x:Nat,vl q = x:=⟨(vl q).toNat,by omega⟩;rw [hx] at hv ⊢;have hu:u = x * v + rest:=by
  have:((u:Nat):Int) = ((x * v + rest:Nat):Int):=by rw [hv];simp
  exact_mod_cast this
 subst hu;constructor
 ·congr 1;rw [WeS,Nat.add_mul_div_right _ _ (by omega),WdY hs];omega
 ·rw [WeS,Nat.add_mul_mod_self_right,WcS hs]
end Ear
