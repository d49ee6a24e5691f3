/- TalkBetter -/
import Derived.Test.YtcjicjfbippmnaaGreatMTBett4
set_option maxRecDepth 100000
set_option maxHeartbeats 32000000
namespace Go.Proofs.YtcjicjfbippmnaaGreat
open Go.RowKit Ear

theorem Z7 {W:World} {k:Nat} {u0 u1 u2:Value} (v0 v1 v2:Value) (h0:W.cell? ⟨k,0,none⟩ = some u0) (h1:W.cell? ⟨k,1,none⟩ = some u1) (h2:W.cell? ⟨k,2,none⟩ = some u2) :
  (((W.setCell ⟨k,0,none⟩ v0).setCell ⟨k,1,none⟩ v1).setCell ⟨k,2,none⟩ v2).cell? ⟨k,0,none⟩ = some v0 /\ (((W.setCell ⟨k,0,none⟩ v0).setCell ⟨k,1,none⟩ v1).setCell ⟨k,2,none⟩ v2).cell? ⟨k,1,none⟩ = some v1 /\ (((W.setCell ⟨k,0,none⟩ v0).setCell ⟨k,1,none⟩ v1).setCell ⟨k,2,none⟩ v2).cell? ⟨k,2,none⟩ = some v2:=by
 simp [go_sem,h0,h1,h2]
theorem QZ {W:World} {k:Nat} {u0 u1 u2:Value} (v0 v1 v2:Value) (o:Obj) (h0:W.cell? ⟨k,0,none⟩ = some u0) (h1:W.cell? ⟨k,1,none⟩ = some u1) (h2:W.cell? ⟨k,2,none⟩ = some u2) (hk:k < W.heap.size) :
  ((((W.setCell ⟨k,0,none⟩ v0).setCell ⟨k,1,none⟩ v1).setCell ⟨k,2,none⟩ v2).alloc o).cell? ⟨k,0,none⟩ = some v0 /\ ((((W.setCell ⟨k,0,none⟩ v0).setCell ⟨k,1,none⟩ v1).setCell ⟨k,2,none⟩ v2).alloc o).cell? ⟨k,1,none⟩ = some v1 /\ ((((W.setCell ⟨k,0,none⟩ v0).setCell ⟨k,1,none⟩ v1).setCell ⟨k,2,none⟩ v2).alloc o).cell? ⟨k,2,none⟩ = some v2:=by
 obtain ⟨e0,e1,e2⟩:=Z7 v0 v1 v2 h0 h1 h2;have hs:k < (((W.setCell ⟨k,0,none⟩ v0).setCell ⟨k,1,none⟩ v1).setCell ⟨k,2,none⟩ v2).heap.size:=by simpa using hk
 exact ⟨(World.cell?_alloc_lt _ o ⟨k,0,none⟩ hs).trans e0,(World.cell?_alloc_lt _ o ⟨k,1,none⟩ hs).trans e1,(World.cell?_alloc_lt _ o ⟨k,2,none⟩ hs).trans e2⟩
theorem VT (A:Option Addr) (c:Nat) (w:World) (h:Lies w A (ucs [1])):Calls Tryz.prog 145 #[.slice A 1 c] w fun e w'=>e = .returned (.bool true) /\ w = w':=by
 have h1:=VU A c 1 w (by rw [ZS];exact h) (by rw [ZS];simp) true (zH (by simp));rw [ZS] at h1;simpa using h1
theorem Vl {w:World} {base c:Nat} {A:Option Addr} {l:List Int} (h:w.ownsRow base 173 1 (.slice A l.length c) l.length (ucs l)) (hd:dgs l):Dg w A c l:=
 ⟨Lies.of_own h,hd,(Xu h).1,(Xu h).2⟩
theorem QR (neg:Bool) (A B:Option Addr) (c d:Nat) (a b:List Int) (w:World) (hA:Dg w A c a) (hB:Dg w B d b) (hn:a.length <= 1000000) (hm:b.length <= 1000000) (hx:Hid (vl a = 0)) :
  Calls Tryz.prog 94 #[.bool neg,.slice A a.length c,.slice B b.length d] w (RetFr false 0 1 w):=by
 have DA:=zH hA.dig;have DB:=zH hB.dig;have ca:=hA.cap;have cb:=hB.cap;have LA:=zH (fun o=>hA.lies.alloc (w:=w) o);have LB:=zH (fun o=>hB.lies.alloc (w:=w) o);have hvb:=Jv DB.out;have HV:Hid (vl b = ((vl b).toNat:Nat)):=zH (by omega);have HX:Hid (vl a = (0:Nat)):=zH (by rw [hx.out];rfl);have HZ:Hid ((nd 0).length = 0):=zH (by rw [JC];rfl);clear hvb hA hB;generalize (vl b).toNat = v at *
 go_enter Tryz.func94,Tryz.ntmps94;go_wp2_with fail;refine (JN A c a _ (LA.out _) DA ca (by omega) 0 HX).mono ?_;rintro e w' ⟨rfl,rfl⟩;rw [HZ.out];go_wp2_with fail;refine (JN B d b _ (LB.out _) DB cb (by omega) v HV).mono ?_;rintro e w' ⟨rfl,rfl⟩;go_wp2_with fail;refine bodyPost_ret (v:=.agg #[.bool false,.slice none 0 0,.slice none 0 0]) (by simp [results,Tryz.results94,go_sem]) rfl ?_;refine ⟨⟨false,none,0,[],none,0,[]⟩,rfl,⟨Dg.none _,Dg.none _⟩,rfl,JC.symm,rfl,?_⟩
 first
  | exact bR.alloc nR _
  | exact (((bR.alloc nR _).setCell (by simp) _).setCell (by simp) _).setCell (by simp) _
theorem ZgX (neg:Bool) (A B:Option Addr) (c d:Nat) (a b:List Int) (w:World) (hA:Dg w A c a) (hB:Dg w B d b) (hn:a.length <= 1000000) (hm:b.length <= 1000000) (x:Nat) (hx:Hid (vl a = x)) (h0:x ≠ 0) (hb0:Hid (vl b = 0)) :
  Calls Tryz.prog 94 #[.bool neg,.slice A a.length c,.slice B b.length d] w (RetFr neg x 1 w):=by
 obtain ⟨j0,hj0,ky0,ky1,ky2⟩:=info_parts XU;have KI:=zH hj0;have KZ0:=zH ky0;have KZ1:=zH ky1;have KZ2:=zH ky2;clear hj0 ky0 ky1 ky2;have DA:=zH hA.dig;have DB:=zH hB.dig;have ca:=hA.cap;have cb:=hB.cap;have NA:=zH hA.nil;have LA:=zH (fun o=>hA.lies.alloc (w:=w) o);have LB:=zH (fun o=>hB.lies.alloc (w:=w) o);have hB0:Hid (vl b = (0:Nat)):=zH (by rw [hb0.out];rfl);have HZ:Hid ((nd 0).length = 0):=zH (by rw [JC];rfl);have DX:=zH (hA.nd hx.out);have hlx:=JH DA.out hx.out;have hne:(nd x).length ≠ 0:=fun h=>h0 (Ju.1 h);have q0:(((nd x).length:Int) == 0) = false:=beq_eq_false_iff_ne.2 (by omega);clear hA hB;go_enter Tryz.func94,Tryz.ntmps94;go_wp2_with fail;refine (JN A c a _ (LA.out _) DA ca (by omega) x hx).mono ?_;rintro e w' ⟨rfl,rfl⟩;go_wp2_with fail;refine (JN B d b _ (LB.out _) DB cb (by omega) 0 hB0).mono ?_;rintro e w' ⟨rfl,rfl⟩;rw [HZ.out];go_wp2_with fail;obtain ⟨W2,hW2⟩:∃ W2:World,W2 = (((w.alloc (.cells #[.bool false,.slice none 0 0,.slice none 0 0] 28)).alloc (.cells #[.int .u32 1] 173)).alloc (.cells #[.int .u32 1] 173)):=⟨_,rfl⟩;have D2:=zH ((((Led.nil w).make #[.bool false,.slice none 0 0,.slice none 0 0] 28 w.heap.size rfl).make #[.int .u32 1] 173 (w.heap.size + 1) (by simp)).make #[.int .u32 1] 173 (w.heap.size + 2) (by simp));rw [<- hW2] at D2 ⊢;have L2:Hid (Dg W2 A c (nd x)):=zH (by rw [hW2];exact (DX.out.below (((bR.alloc nR _).alloc (by simp) _).alloc (by simp;omega) _)));have hs2:w.heap.size + 3 = W2.heap.size:=by rw [hW2];simp
 have f2:W2.frozen? ⟨w.heap.size,0,none⟩ = false /\ W2.frozen? ⟨w.heap.size,1,none⟩ = false /\ W2.frozen? ⟨w.heap.size,2,none⟩ = false:=by rw [hW2];simp [go_sem]
 have HF2:=zH f2;clear hW2 f2 LA LB DX;refine (VT (some ⟨w.heap.size + 1,0,none⟩) 1 W2 (D2.out.lies 1 _ _ rfl)).mono ?_;rintro e w' ⟨rfl,rfl⟩;go_wp2_with fail;refine (VT (some ⟨w.heap.size + 2,0,none⟩) 1 W2 (D2.out.lies 2 _ _ rfl)).mono ?_;rintro e w' ⟨rfl,rfl⟩;generalize hxs:nd x = xs at *
 have HXS:=zH hxs;clear hxs;have L2':=L2.out;go_wp2_with (at_builtin;refine Jf _ rfl (.const (.slice none 0 0)) (.tmp 49) _ rfl W2.heap.size 173 j0 _ 1 4 Tryz.underlying26 KI.out KZ0.out KZ1.out KZ2.out rfl (by omega) (.slice none 0 0) 0 [] rfl (World.ownsRow_nil _ _ _ _) A xs.length c (ucs xs) rfl NA.out L2'.lies (by simp) (ZY _) (by unfold maxLen;omega) (by omega) nR xs.length (Nat.zero_add _) ?_;intro A4 c4 w4 ho4 hg4 _);have hb4:Below W2.heap.size W2 w4:=Xf hg4;have D4:=zH (D2.out.below hb4);obtain ⟨-,hf4⟩:=ZhP hb4;have r0:=D4.out.cell 0 rfl 0 rfl;have r1:=D4.out.cell 0 rfl 1 rfl;have r2:=D4.out.cell 0 rfl 2 rfl;have s0:w4.frozen? ⟨w.heap.size,0,none⟩ = false:=by rw [hf4 _ _ (by omega)];exact HF2.out.1
 have s1:w4.frozen? ⟨w.heap.size,1,none⟩ = false:=by rw [hf4 _ _ (by omega)];exact HF2.out.2.1
 have s2:w4.frozen? ⟨w.heap.size,2,none⟩ = false:=by rw [hf4 _ _ (by omega)];exact HF2.out.2.2
 have hs4:w.heap.size + 3 <= w4.heap.size:=by have:=hb4.size;omega
 have hlt4:w.heap.size < w4.heap.size:=by omega
 have L4:=zH (D4.out.lies 1 _ _ rfl);have HO4:=zH ho4;simp only [Nat.add_zero,Nat.zero_add] at r0 r1 r2;clear hb4 hf4 ho4 hg4 L2';go_wp2_with fail;refine (VT (some ⟨w.heap.size + 1,0,none⟩) 1 _ (L4.out.alloc _)).mono ?_;rintro e w' ⟨rfl,rfl⟩;go_wp2_with fail;obtain ⟨e0,e1,e2⟩:=QZ (.bool neg) (.slice A4 xs.length c4) (.slice none 0 0) (.cells #[.bool neg,.slice A4 xs.length c4,.slice none 0 0] 28) r0 r1 r2 hlt4;refine bodyPost_ret (v:=.agg #[.bool neg,.slice A4 xs.length c4,.slice none 0 0]) (by simp [results,Tryz.results94,go_sem,e0,e1,e2]) rfl ?_;refine ⟨⟨neg,A4,c4,xs,none,0,[]⟩,rfl,⟨Vl ((JT (JT (JT HO4.out (by simp;omega) _) (by simp;omega) _) (by simp;omega) _).alloc _) (by rw [<- HXS.out];exact JJ _),Dg.none _⟩,rfl,HXS.out.symm,rfl,?_⟩;exact ((((D4.out.bel).setCell nR _).setCell nR _).setCell nR _).alloc (by simp;omega) _
theorem ZgW (neg:Bool) (A B:Option Addr) (c d:Nat) (a b:List Int) (w:World) (hA:Dg w A c a) (hB:Dg w B d b) (hn:a.length <= 1000000) (hm:b.length <= 1000000) (x:Nat) (hx:Hid (vl a = x)) (h0:x ≠ 0) (hb0:Hid (vl b = 1)) :
  Calls Tryz.prog 94 #[.bool neg,.slice A a.length c,.slice B b.length d] w (RetFr neg x 1 w):=by
 obtain ⟨j0,hj0,ky0,ky1,ky2⟩:=info_parts XU;have KI:=zH hj0;have KZ0:=zH ky0;have KZ1:=zH ky1;have KZ2:=zH ky2;clear hj0 ky0 ky1 ky2;have DA:=zH hA.dig;have DB:=zH hB.dig;have ca:=hA.cap;have cb:=hB.cap;have NA:=zH hA.nil;have LA:=zH (fun o=>hA.lies.alloc (w:=w) o);have LB:=zH (fun o=>hB.lies.alloc (w:=w) o);have hB0:Hid (vl b = (1:Nat)):=zH (by rw [hb0.out];rfl);have HZ:Hid ((nd 1).length = 1):=zH (by rw [ZS];rfl);have LB1:Hid (Dg w B d [1]):=zH (by have:=hB.nd hB0.out;rwa [ZS] at this);have DX:=zH (hA.nd hx.out);have hlx:=JH DA.out hx.out;have hne:(nd x).length ≠ 0:=fun h=>h0 (Ju.1 h);have q0:(((nd x).length:Int) == 0) = false:=beq_eq_false_iff_ne.2 (by omega);clear hA hB;go_enter Tryz.func94,Tryz.ntmps94;go_wp2_with fail;refine (JN A c a _ (LA.out _) DA ca (by omega) x hx).mono ?_;rintro e w' ⟨rfl,rfl⟩;go_wp2_with fail;refine (JN B d b _ (LB.out _) DB cb (by omega) 1 hB0).mono ?_;rintro e w' ⟨rfl,rfl⟩;rw [HZ.out];go_wp2_with fail;obtain ⟨W2,hW2⟩:∃ W2:World,W2 = ((w.alloc (.cells #[.bool false,.slice none 0 0,.slice none 0 0] 28)).alloc (.cells #[.int .u32 1] 173)):=⟨_,rfl⟩;have D2:=zH ((((Led.nil w).add LB1.out.lies).make #[.bool false,.slice none 0 0,.slice none 0 0] 28 w.heap.size rfl).make #[.int .u32 1] 173 (w.heap.size + 1) (by simp));rw [<- hW2] at D2 ⊢;have L2:Hid (Dg W2 A c (nd x)):=zH (by rw [hW2];exact (DX.out.below ((bR.alloc nR _).alloc (by simp) _)));have hs2:w.heap.size + 2 = W2.heap.size:=by rw [hW2];simp
 have f2:W2.frozen? ⟨w.heap.size,0,none⟩ = false /\ W2.frozen? ⟨w.heap.size,1,none⟩ = false /\ W2.frozen? ⟨w.heap.size,2,none⟩ = false:=by rw [hW2];simp [go_sem]
 have HF2:=zH f2;clear hW2 f2 LA LB DX;refine (VT B d W2 (D2.out.lies 0 _ _ rfl)).mono ?_;rintro e w' ⟨rfl,rfl⟩;go_wp2_with fail;refine (VT (some ⟨w.heap.size + 1,0,none⟩) 1 W2 (D2.out.lies 2 _ _ rfl)).mono ?_;rintro e w' ⟨rfl,rfl⟩;generalize hxs:nd x = xs at *
 have HXS:=zH hxs;clear hxs;have L2':=L2.out;go_wp2_with (at_builtin;refine Jf _ rfl (.const (.slice none 0 0)) (.tmp 49) _ rfl W2.heap.size 173 j0 _ 1 4 Tryz.underlying26 KI.out KZ0.out KZ1.out KZ2.out rfl (by omega) (.slice none 0 0) 0 [] rfl (World.ownsRow_nil _ _ _ _) A xs.length c (ucs xs) rfl NA.out L2'.lies (by simp) (ZY _) (by unfold maxLen;omega) (by omega) nR xs.length (Nat.zero_add _) ?_;intro A4 c4 w4 ho4 hg4 _);have hb4:Below W2.heap.size W2 w4:=Xf hg4;have D4:=zH (D2.out.below hb4);obtain ⟨-,hf4⟩:=ZhP hb4;have r0:=D4.out.cell 1 rfl 0 rfl;have r1:=D4.out.cell 1 rfl 1 rfl;have r2:=D4.out.cell 1 rfl 2 rfl;have s0:w4.frozen? ⟨w.heap.size,0,none⟩ = false:=by rw [hf4 _ _ (by omega)];exact HF2.out.1
 have s1:w4.frozen? ⟨w.heap.size,1,none⟩ = false:=by rw [hf4 _ _ (by omega)];exact HF2.out.2.1
 have s2:w4.frozen? ⟨w.heap.size,2,none⟩ = false:=by rw [hf4 _ _ (by omega)];exact HF2.out.2.2
 have hs4:w.heap.size + 2 <= w4.heap.size:=by have:=hb4.size;omega
 have hlt4:w.heap.size < w4.heap.size:=by omega
 have L4:=zH (D4.out.lies 0 _ _ rfl);have HO4:=zH ho4;simp only [Nat.add_zero,Nat.zero_add] at r0 r1 r2;clear hb4 hf4 ho4 hg4 L2';go_wp2_with fail;refine (VT B d _ (L4.out.alloc _)).mono ?_;rintro e w' ⟨rfl,rfl⟩;go_wp2_with fail;obtain ⟨e0,e1,e2⟩:=QZ (.bool neg) (.slice A4 xs.length c4) (.slice none 0 0) (.cells #[.bool neg,.slice A4 xs.length c4,.slice none 0 0] 28) r0 r1 r2 hlt4;refine bodyPost_ret (v:=.agg #[.bool neg,.slice A4 xs.length c4,.slice none 0 0]) (by simp [results,Tryz.results94,go_sem,e0,e1,e2]) rfl ?_;refine ⟨⟨neg,A4,c4,xs,none,0,[]⟩,rfl,⟨Vl ((JT (JT (JT HO4.out (by simp;omega) _) (by simp;omega) _) (by simp;omega) _).alloc _) (by rw [<- HXS.out];exact JJ _),Dg.none _⟩,rfl,HXS.out.symm,rfl,?_⟩;exact ((((D4.out.bel).setCell nR _).setCell nR _).setCell nR _).alloc (by simp;omega) _
theorem Zbj (neg:Bool) (A B:Option Addr) (c d:Nat) (a b:List Int) (w:World) (hA:Dg w A c a) (hB:Dg w B d b) (hn:a.length <= 1000000) (hm:b.length <= 1000000) (x:Nat) (hx:Hid (vl a = x)) (hb0:Hid (vl b = 0 ∨ vl b = 1)) :
  Calls Tryz.prog 94 #[.bool neg,.slice A a.length c,.slice B b.length d] w (RetFr (neg && decide (x ≠ 0)) x 1 w):=by
 by_cases h0:x = 0
 ·subst h0;simpa using QR neg A B c d a b w hA hB hn hm (zH (by rw [hx.out];rfl))
 ·have e:(neg && decide (x ≠ 0)) = neg:=by simp [h0]
  rw [e];rcases hb0.out with h | h
  ·exact ZgX neg A B c d a b w hA hB hn hm x hx h0 (zH h)
  ·exact ZgW neg A B c d a b w hA hB hn hm x hx h0 (zH h)
theorem Zb5 {out l:List Int} {i:Nat} (ho:out.length = i) (hi:i < l.length) (t:Int):(out ++ l.drop i).set i t = (out ++ [t]) ++ l.drop (i + 1):=by
 rw [List.set_append_right _ _ (by omega),ho,Nat.sub_self,List.drop_eq_getElem_cons hi,List.set_cons_zero,List.append_assoc];rfl
theorem Zfy {out l:List Int} {i:Nat} (ho:out.length = i) (k:Nat) (hk:i <= k):(out ++ l.drop i)[k]?.getD 0 = l[k]?.getD 0:=by
 rw [List.getElem?_append_right (by omega),ho,List.getElem?_drop];congr 2;omega
theorem UZ {out l:List Int} {i:Nat} (ho:out.length = i) (hi:i <= l.length):(out ++ l.drop i).length = l.length:=by simp;omega
theorem J3 {w:World} {base g n c:Nat} {l:List Int} (h:w.ownsRow base 173 1 (.slice (some ⟨g,0,none⟩) n c) n (ucs l)) (hl:l.length = n) {k:Nat} (hk:k < n):w.cell? ⟨g,k,none⟩ = some (.int .u32 (l[k]?.getD 0)) /\ w.frozen? ⟨g,k,none⟩ = false:=
 ⟨by rw [h.cellAt k (by omega)];simp only [List.getElem?_map,gE (show k < l.length by omega)];rfl,h.frozenAt k⟩
theorem Xq {w:World} {base g n c:Nat} {l:List Int} (h:w.ownsRow base 173 1 (.slice (some ⟨g,0,none⟩) n c) n (ucs l)) (k:Nat) (v:Int):(w.setCell ⟨g,k,none⟩ (.int .u32 v)).ownsRow base 173 1 (.slice (some ⟨g,0,none⟩) n c) n (ucs (l.set k v)):=by
 have hst:=h.stored k (.int .u32 v);rw [<- List.map_set] at hst;exact hst.1
theorem Zbd {w:World} {base n c:Nat} {A:Option Addr} {l:List Int} (h:w.ownsRow base 173 1 (.slice A n c) n (ucs l)) (hl:l.length = n) (hd:dgs l) (hn:n <= 1000000) {v:Nat} (hv:vl l = v):Calls Tryz.prog 126 #[.slice A n c] w (URet (nd v) w):=by
 subst hl;exact ZaZ A c l w (Vl h hd) hn v (zH hv)
theorem Vk {w:World} {base n c:Nat} {A:Option Addr} {l:List Int} (h:w.ownsRow base 173 1 (.slice A n c) n (ucs l)) (hl:l.length = n) (hd:dgs l) (hn:n <= 1000000) {v:Nat} (hv:vl l = v):Calls Tryz.prog 126 #[.slice A n c] w (Zh v w):=by
 subst hl;exact Zj A c l w (Vl h hd) hn v (zH hv)
theorem Zgj (A B:Option Addr) (c d:Nat) (a b:List Int) (w:World) (hA:Dg w A c a) (hB:Dg w B d b) (hn:a.length <= 900000) (hm:b.length <= 900000)
  (v:Nat) (hv:Hid (vl a + vl b = v)) :
  Calls Tryz.prog 131 #[.slice A a.length c,.slice B b.length d] w (Zh v w):=by
 obtain ⟨N,hN⟩:∃ N:Nat,N = max a.length b.length:=⟨_,rfl⟩;obtain ⟨w1,hmk,ho1,hb1⟩:=Yj w (N + 1) (by omega) w.heap.size nR;have hmx:max (a.length:Int) (b.length:Int) = (N:Int):=by omega
 have e2:((N + 1:Nat):Int) = (N:Int) + 1:=by simp
 rw [e2] at hmk;obtain ⟨g,hg⟩:∃ g,g = w.heap.size:=⟨_,rfl⟩;rw [<- hg] at ho1 hmk;have HG:Hid (w.heap.size <= g):=by show _ <= _;omega
 have HST:=zH (PlusAt.start a b);have la:a.length <= N:=by omega
 have lb:b.length <= N:=by omega
 have da:=zH hA.dig;have db:=zH hB.dig;have LA:=zH hA.lies;have LB:=zH hB.lies;have NB:N <= 900000:=by omega
 clear hg e2 hA hB hN;go_enter Tryz.func131,Tryz.ntmps131;go_wp2_with fail;clear hmk hmx;go_loopw [6,7,17] (fun cy _ i wr=>∃ k:Nat,k <= N + 1 /\ i = .int .i64 k /\ ∃ out q,Hid (PlusAt a b out k q) /\ cy = .int .u64 q /\ wr.ownsRow g 173 1 (.slice (some ⟨g,0,none⟩) (N + 1) (N + 1)) (N + 1) (ucs (out ++ (List.replicate (N + 1) 0).drop k)) /\ Below w.heap.size w wr) (fun _ _ i _=>N + 1 - (intOf i).toNat)
 case atStart=>exact ⟨0,by omega,rfl,[],0,HST,rfl,by simpa using ho1,hb1⟩
 case round=>
  obtain ⟨k,hk,rfl,out,q,HM,rfl,r1,r2⟩:=hrel;clear HST ho1;have h0:=HM.out.c0;have h1:=HM.out.c1;have hol:=HM.out.len;by_cases hlt:k < N + 1
  ·have HA:=zH (LA.out.below r2);have HB:=zH (LB.out.below r2);have d1:=JI da.out k;have d2:=JI db.out k;have HN:=zH (fun t ht=>HM.out.next da.out db.out (t:=t) ht);have hq:=J3 r1 (by rw [UZ hol (by simp;omega)];simp) hlt;rw [Zfy hol k nR] at hq;have hz:(List.replicate (N + 1) (0:Int))[k]?.getD 0 = 0:=(by rw [List.getElem?_replicate];split <;> rfl);rw [hz] at hq;obtain ⟨q1,q2⟩:=hq;have HS:Hid (∀ t,(out ++ (List.replicate (N + 1) 0).drop k).set k t = (out ++ [t]) ++ (List.replicate (N + 1) 0).drop (k + 1)):=zH (fun t=>Zb5 hol (by simp;omega) t);have HO:=zH r1;have HR2:=zH r2;clear r1 r2 hz hol;have fin:∀ t,t = q + a[k]?.getD 0 + b[k]?.getD 0 -> ∀ W,(wr.setCell ⟨g,k,none⟩ (.int .u32 (t % 4294967296))) = W -> (∃ k':Nat,k' <= N + 1 /\ Value.int .i64 (k + 1:Int) = .int .i64 k' /\ ∃ out q,Hid (PlusAt a b out k' q) /\ Value.int .u64 (t / 4294967296) = .int .u64 q /\ W.ownsRow g 173 1 (.slice (some ⟨g,0,none⟩) (N + 1) (N + 1)) (N + 1) (ucs (out ++ (List.replicate (N + 1) 0).drop k')) /\ Below w.heap.size w W):=by
    rintro t ht W rfl;refine ⟨k + 1,by omega,by simp,_,_,zH (HN.out t ht),rfl,?_,HR2.out.setCell HG.out _⟩;rw [<- HS.out];exact Xq HO.out k _
   have FIN:=zH fin;clear fin;by_cases hka:k < a.length
   ·obtain ⟨b1,o1,rfl,hb1,hc1⟩:=HA.out.uat hka;by_cases hkb:k < b.length
    ·obtain ⟨b2,o2,rfl,hb2,hc2⟩:=HB.out.uat hkb;have F:=zH (FIN.out _ rfl _ rfl);clear FIN;generalize a[k]?.getD 0 = x at *
     generalize b[k]?.getD 0 = y at *
     go_wp2_with fail;exact ⟨F.out,by simp [intOf];omega⟩
    ·have hy:b[k]?.getD 0 = 0:=(by rw [List.getElem?_eq_none (by omega)];rfl);have F:=zH (FIN.out _ rfl _ rfl);rw [hy,Int.add_zero] at F;clear FIN hy;generalize a[k]?.getD 0 = x at *
     go_wp2_with fail;exact ⟨F.out,by simp [intOf];omega⟩
   ·have hx:a[k]?.getD 0 = 0:=(by rw [List.getElem?_eq_none (by omega)];rfl);by_cases hkb:k < b.length
    ·obtain ⟨b2,o2,rfl,hb2,hc2⟩:=HB.out.uat hkb;have F:=zH (FIN.out _ rfl _ rfl);rw [hx,Int.add_zero] at F;clear FIN hx;generalize b[k]?.getD 0 = y at *
     go_wp2_with fail;exact ⟨F.out,by simp [intOf];omega⟩
    ·have hy:b[k]?.getD 0 = 0:=(by rw [List.getElem?_eq_none (by omega)];rfl);have F:=zH (FIN.out _ rfl _ rfl);rw [hx,hy,Int.add_zero,Int.add_zero,show q % 4294967296 = q by omega] at F;clear FIN hx hy;go_wp2_with fail;exact ⟨F.out,by simp [intOf];omega⟩
  ·obtain rfl:k = N + 1:=by omega
   have VV:Hid (vl out = v):=zH (by
    have hval:=HM.out.val;rw [List.take_of_length_le (show a.length <= N + 1 by omega),List.take_of_length_le (show b.length <= N + 1 by omega)] at hval;have e1:=XP (vl a).toNat (vl b).toNat N (tR (JH da.out (by have:=Jv da.out;omega)) la) (tR (JH db.out (by have:=Jv db.out;omega)) lb);have e2:v < 4294967296 ^ (N + 1):=by
     have a0:=Jv da.out;have b0:=Jv db.out;have e3:(vl a).toNat + (vl b).toNat = v:=(by have:=hv.out;omega);rw [e3] at e1;exact Nat.lt_of_lt_of_le (Vo v) (Nat.pow_le_pow_right (by decide) e1)
    have e4:=Jv HM.out.dig;rw [Qm] at hval;have:=hv.out;rcases (show q = 0 ∨ q = 1 by omega) with rfl | rfl
    ·simp at hval;omega
    ·exfalso;rw [Int.mul_one] at hval;omega)
   have HT:=zH (Vk r1 (by rw [UZ hol (by simp)];simp) (by rw [List.drop_eq_nil_of_le (by simp),List.append_nil];exact HM.out.dig) (by omega) (v:=v) (by rw [List.drop_eq_nil_of_le (by simp),List.append_nil];exact VV.out));have HR2:=zH r2;clear r1 r2 hol;go_wp2_with fail;refine HT.out.mono ?_;rintro e w' ⟨A2,c2,rfl,t1,t2,t3,t4⟩;go_wp2_with fail;go_ret;exact ⟨A2,c2,rfl,t1,t2,t3,HR2.out.trans (t4.mono HR2.out.size)⟩
theorem ZcF (A B:Option Addr) (c d:Nat) (a b:List Int) (w:World) (hA:Dg w A c a) (hB:Dg w B d b) (hl:b.length <= a.length) (hn:a.length <= 1000000)
  (v:Nat) (hv:Hid (vl a - vl b = v)) :
  Calls Tryz.prog 133 #[.slice A a.length c,.slice B b.length d] w (URet (nd v) w):=by
 have HST:=zH (MinusAt.start a b);have da:=zH hA.dig;have db:=zH hB.dig;have LB:=zH hB.lies;have HC:=zH (ZM A c a w hA hn);clear hA hB;go_enter Tryz.func133,Tryz.ntmps133;go_wp2_with fail;refine HC.out.mono ?_;rintro e w1 ⟨A1,c1,rfl,ho1,hb1⟩;clear HC;go_wp2_with fail;go_loopw [6,7,8,9,14] (fun br _ _ _ i wr=>∃ k:Nat,k <= a.length /\ i = .int .i64 k /\ ∃ out q,Hid (MinusAt a b out k q) /\ br = .int .u64 q /\ wr.ownsRow w.heap.size 173 1 (.slice A1 a.length c1) a.length (ucs (out ++ a.drop k)) /\ Below w.heap.size w wr) (fun _ _ _ _ i _=>a.length - (intOf i).toNat)
 case atStart=>exact ⟨0,by omega,rfl,[],0,HST,rfl,ho1,hb1⟩
 case round=>
  obtain ⟨k,hk,rfl,out,q,HM,rfl,r1,r2⟩:=hrel;clear HST ho1;have h0:=HM.out.c0;have h1:=HM.out.c1;have hol:=HM.out.len;by_cases hlt:k < a.length
  ·obtain ⟨g,cap,hv',hgg,hglt⟩:=r1.form (by omega);obtain rfl:A1 = some ⟨g,0,none⟩:=(by injection hv');clear hv' cap;have HB:=zH (LB.out.below r2);have d1:=JI da.out k;have d2:=JI db.out k;have hq:=J3 r1 (UZ hol hk) hlt;rw [Zfy hol k nR] at hq;obtain ⟨q1,q2⟩:=hq;have HS:Hid (∀ t,(out ++ a.drop k).set k t = (out ++ [t]) ++ a.drop (k + 1)):=zH (fun t=>Zb5 hol hlt t);have HO:=zH r1;have HR2:=zH r2;clear r1 r2 hol;have fin:∀ d' t,0 <= d' -> d' <= 1 -> t = a[k]?.getD 0 - (q + b[k]?.getD 0) + 4294967296 * d' -> 0 <= t -> t <= 4294967295 -> ∀ W,(wr.setCell ⟨g,k,none⟩ (.int .u32 t)) = W -> (∃ k':Nat,k' <= a.length /\ Value.int .i64 (k + 1:Int) = .int .i64 k' /\ ∃ out q,Hid (MinusAt a b out k' q) /\ Value.int .u64 d' = .int .u64 q /\ W.ownsRow w.heap.size 173 1 (.slice (some ⟨g,0,none⟩) a.length c1) a.length (ucs (out ++ a.drop k')) /\ Below w.heap.size w W):=by
    rintro d' t x1 x2 x3 x4 x5 W rfl;refine ⟨k + 1,by omega,by simp,_,_,zH (HM.out.next x1 x2 x3 x4 x5),rfl,?_,HR2.out.setCell hgg _⟩;rw [<- HS.out];exact Xq HO.out k _
   have FIN:=zH fin;clear fin;by_cases hkb:k < b.length
   ·obtain ⟨b2,o2,rfl,hb2,hc2⟩:=HB.out.uat hkb;by_cases hxy:a[k]?.getD 0 < q + b[k]?.getD 0
    ·have F:=zH (FIN.out 1 (a[k]?.getD 0 + 4294967296 - (q + b[k]?.getD 0)) (by omega) (by omega) (by omega) (by omega) (by omega) _ rfl);clear FIN;generalize a[k]?.getD 0 = x at *
     generalize b[k]?.getD 0 = y at *
     go_wp2_with fail;exact ⟨F.out,by simp [intOf];omega⟩
    ·have F:=zH (FIN.out 0 (a[k]?.getD 0 - (q + b[k]?.getD 0)) (by omega) (by omega) (by omega) (by omega) (by omega) _ rfl);clear FIN;generalize a[k]?.getD 0 = x at *
     generalize b[k]?.getD 0 = y at *
     go_wp2_with fail;exact ⟨F.out,by simp [intOf];omega⟩
   ·have hy:b[k]?.getD 0 = 0:=(by rw [List.getElem?_eq_none (by omega)];rfl);by_cases hxy:a[k]?.getD 0 < q
    ·have F:=zH (FIN.out 1 (a[k]?.getD 0 + 4294967296 - q) (by omega) (by omega) (by omega) (by omega) (by omega) _ rfl);clear FIN hy;generalize a[k]?.getD 0 = x at *
     go_wp2_with fail;exact ⟨F.out,by simp [intOf];omega⟩
    ·have F:=zH (FIN.out 0 (a[k]?.getD 0 - q) (by omega) (by omega) (by omega) (by omega) (by omega) _ rfl);clear FIN hy;generalize a[k]?.getD 0 = x at *
     go_wp2_with fail;exact ⟨F.out,by simp [intOf];omega⟩
  ·obtain rfl:k = a.length:=by omega
   have HT:=zH (Zbd r1 (UZ hol hk) (by rw [List.drop_eq_nil_of_le nR,List.append_nil];exact HM.out.dig) (by omega) (v:=v) (by rw [List.drop_eq_nil_of_le nR,List.append_nil,HM.out.done hl (by have:=hv.out;omega)];exact hv.out));have HR2:=zH r2;clear r1 r2 hol;go_wp2_with fail;refine HT.out.mono ?_;rintro e w' ⟨A2,c2,rfl,t1,t4⟩;go_wp2_with fail;go_ret;exact ⟨A2,c2,rfl,Jw t1 HR2.out.size,HR2.out.trans (t4.mono HR2.out.size)⟩
theorem ZcG (A B:Option Addr) (c d:Nat) (a b:List Int) (w:World) (hA:Dg w A c a) (hB:Dg w B d b) (hl:b.length <= a.length) (hn:a.length <= 1000000)
  (v:Nat) (hv:Hid (vl a - vl b = v)) :
  Calls Tryz.prog 133 #[.slice A a.length c,.slice B b.length d] w (Zh v w):=(ZcF A B c d a b w hA hB hl hn v hv).mono fun _ _ hR=>hR.nd
theorem ZB (A B:Option Addr) (c d:Nat) (a b:List Int) (w:World) (hA0:Dg w A c a) (hB0:Dg w B d b) (hn:a.length <= 450000) (hm:b.length <= 450000)
  (v:Nat) (hv:Hid (vl a * vl b = v)) :
  Calls Tryz.prog 130 #[.slice A a.length c,.slice B b.length d] w (Zh v w):=by
 have hA:=hA0.lies;have hB:=hB0.lies;have da:=zH hA0.dig;have db:=zH hB0.dig;clear hA0 hB0;obtain ⟨w1,hmk,ho1,hb1⟩:=Yj w (a.length + b.length) (by omega) w.heap.size nR;have e2:((a.length + b.length:Nat):Int) = (a.length:Int) + (b.length:Int):=by simp
 rw [e2] at hmk;obtain ⟨g,hg⟩:∃ g,g = w.heap.size:=⟨_,rfl⟩;rw [<- hg] at ho1 hmk;have HG:Hid (w.heap.size <= g):=by show _ <= _;omega
 have HST:=zH (MulOut.start a b);clear hg e2;go_enter Tryz.func130,Tryz.ntmps130;go_wp2_with fail;clear hmk;go_loopw [6,7,8,9,10,19] (fun _ _ _ _ _ i wr=>∃ k:Nat,k <= a.length /\ i = .int .i64 k /\ ∃ out,Hid (MulOut a b out k) /\ wr.ownsRow g 173 1 (.slice (some ⟨g,0,none⟩) (a.length + b.length) (a.length + b.length)) (a.length + b.length) (ucs out) /\ Below w.heap.size w wr) (fun _ _ _ _ _ i _=>a.length - (intOf i).toNat)
 case atStart=>exact ⟨0,by omega,rfl,_,HST,ho1,hb1⟩
 case round=>
  obtain ⟨k,hk,rfl,out,HO,r1,r2⟩:=hrel;by_cases hlt:k < a.length
  ·obtain ⟨bk,off,rfl,hb,hc⟩:=(hA.below r2).uat hlt;have HI:=zH HO.out.enter;have hx:=JI da.out k;generalize hx1:a[k]?.getD 0 = x at *
   have HX:=zH hx1;clear hx1;go_wp2_with fail;go_loopw [8,9,10,26] (fun cy _ _ i wr=>∃ m:Nat,m <= b.length /\ i = .int .i64 m /\ ∃ out c,Hid (MulIn a b out k m c) /\ cy = .int .u64 c /\ wr.ownsRow g 173 1 (.slice (some ⟨g,0,none⟩) (a.length + b.length) (a.length + b.length)) (a.length + b.length) (ucs out) /\ Below w.heap.size w wr) (fun _ _ _ i _=>b.length - (intOf i).toNat)
   case atStart=>exact ⟨0,by omega,rfl,out,0,HI,rfl,r1,r2⟩
   case round=>
    obtain ⟨m,hm',rfl,out',cy,HS,rfl,s1,s2⟩:=hrel;clear r1 r2;by_cases hlm:m < b.length
    ·obtain ⟨bj,offj,rfl,hbj,hcj⟩:=(hB.below s2).uat hlm;have hy:=JI db.out m;have ho:=JI HS.out.dig (k + m);have h0:=HS.out.c0;have h1:=HS.out.c1;have hl:=HS.out.len;obtain ⟨q1,q2⟩:=J3 s1 hl (show k + m < a.length + b.length by omega);have HN:=zH (fun t ht=>HS.out.next da.out db.out hlt hlm (t:=t) ht);have hp:=ZeA hx hy;generalize hy1:b[m]?.getD 0 = y at *
     generalize ho1':out'[k + m]?.getD 0 = z at *
     have HL:=zH hl;have HY:=zH hy1;have HZ:=zH ho1';clear hl hy1 ho1';have hs:=HN.out (cy + (x * y + z)) (by rw [HX.out];omega);have HS1:=zH hs;clear hs;have i0:((k:Int) + (m:Int)).toNat = k + m:=(by omega);have i1:(0:Int) <= (k:Int) + (m:Int):=(by omega);have i2:(k:Int) + (m:Int) < (a.length:Int) + (b.length:Int):=(by omega);have p4:IntKind.i64.wrap ((k:Int) + (m:Int)) = (k:Int) + (m:Int):=IntWalk.i64_in _ (by omega);have p2:IntKind.u64.wrap (x * y) = x * y:=IntWalk.u64_in _ (by omega);have p1:IntKind.u64.wrap (x * y + z) = x * y + z:=IntWalk.u64_in _ (by omega);have p3:IntKind.u64.wrap (cy + (x * y + z)) = cy + (x * y + z):=IntWalk.u64_in _ (by omega);go_wp2_with fail;have b3 : 0 <= cy + (x * y + z) /\ cy + (x * y + z) <= 18446744073709551615:=(by clear p1 p2 p3 p4;omega);clear p1 p2 p3 p4;go_wp2_with fail;exact ⟨⟨m + 1,by omega,by go_num,_,_,HS1,rfl,Xq s1 (k + m) _,s2.setCell (by exact HG.out) _⟩,by simp [intOf];omega⟩
    ·obtain rfl:m = b.length:=(by omega);have h0:=HS.out.c0;have h1:=HS.out.c1;have hl:=HS.out.len;obtain ⟨q1,q2⟩:=J3 s1 hl (show k + b.length < a.length + b.length by omega);have HL:=zH (HS.out.leave hlt);have i0:((k:Int) + (b.length:Int)).toNat = k + b.length:=(by omega);clear hl;go_wp2_with fail;exact ⟨⟨k + 1,by omega,by go_num,_,HL,Xq s1 (k + b.length) _,s2.setCell (by exact HG.out) _⟩,by simp [intOf];omega⟩
  ·obtain rfl:k = a.length:=by omega
   have HT:=zH (Vk r1 HO.out.len HO.out.dig (by omega) (v:=v) (by rw [HO.out.done,hv.out]));have HR2:=zH r2;clear r1 r2;go_wp2_with fail;refine HT.out.mono ?_;rintro e w' ⟨A2,c2,rfl,t1,t2,t3,t4⟩;go_wp2_with fail;go_ret;exact ⟨A2,c2,rfl,t1,t2,t3,HR2.out.trans (t4.mono HR2.out.size)⟩
end Go.Proofs.YtcjicjfbippmnaaGreat
