/- TalkBetter -/
import Derived.Test.YtcjicjfbippmnaaGreatMTBett10
set_option maxRecDepth 100000
set_option maxHeartbeats 32000000
namespace Go.Proofs.YtcjicjfbippmnaaGreat
open Go.RowKit Ear

def Bt (t:TypeId) (w:World) (k:Nat):Prop:=w.heap[k]? = some (.cells #[.bool false,.slice none 0 0,.slice none 0 0] t (0,0))
theorem Bt.new (t:TypeId) (w:World):Bt t (w.alloc (.cells #[.bool false,.slice none 0 0,.slice none 0 0] t)) w.heap.size:=heap_alloc_new w _
theorem Bt.lt {t:TypeId} {w:World} {k:Nat} (h:Bt t w k):k < w.heap.size:=(aE h).1
theorem Bt.below {t:TypeId} {w w':World} {k:Nat} (h:Bt t w k) (hb:Below w.heap.size w w'):Bt t w' k:=(hb.block k h.lt).trans h
theorem Bt.alloc {t:TypeId} {w:World} {k:Nat} (h:Bt t w k) (o:Obj):Bt t (w.alloc o) k:=h.below ((Below.refl _ w).alloc nR o)
theorem Bt.facts {t:TypeId} {w:World} {k:Nat} (h:Bt t w k):w.cell? ⟨k,0,none⟩ = some (.bool false) /\ w.cell? ⟨k,1,none⟩ = some (.slice none 0 0) /\ w.cell? ⟨k,2,none⟩ = some (.slice none 0 0) /\ w.frozen? ⟨k,0,none⟩ = false /\ w.frozen? ⟨k,1,none⟩ = false /\ w.frozen? ⟨k,2,none⟩ = false:=
 ⟨by rw [cell_of_row w k 0 _ _ _ h];rfl,by rw [cell_of_row w k 1 _ _ _ h];rfl,by rw [cell_of_row w k 2 _ _ _ h];rfl,by simp [World.frozen?,show w.heap[k]? = _ from h],by simp [World.frozen?,show w.heap[k]? = _ from h],by simp [World.frozen?,show w.heap[k]? = _ from h]⟩
theorem Lies.apartBt {t:TypeId} {w w':World} {A:Option Addr} {l:List Int} {k:Nat} (h:Lies w A (ucs l)) (hb:Bt t w k) (hs:w.heap.size <= w'.heap.size) (hk:∀ b,b ≠ k -> b < w.heap.size -> w'.heap[b]? = w.heap[b]?):Lies w' A (ucs l):=fun h0=>by
 obtain ⟨b,off,e,hlt,hc⟩:=h h0;have hne:b ≠ k:=by
  rintro rfl;have hl : 0 < l.length:=by simpa using h0
  have:=hc 0 (.int .u32 l[0]) (by simp [gE hl]);rw [cell_of_row w b _ _ _ _ hb] at this;rcases (show off + 0 = 0 ∨ off + 0 = 1 ∨ off + 0 = 2 ∨ 3 <= off + 0 by omega) with e | e | e | e
  ·rw [e] at this;simp at this
  ·rw [e] at this;simp at this
  ·rw [e] at this;simp at this
  ·rw [Array.getElem?_eq_none (by simpa using e)] at this;cases this
 exact ⟨b,off,e,by omega,fun j u hu=>by
  rw [<- hc j u hu];exact World.cell?_of_block (a:=⟨b,off + j,none⟩) (hk b hne hlt)⟩
theorem XN {t:TypeId} {w:World} {A:Option Addr} {c k:Nat} {l:List Int} (h:Dg w A c l) (hb:Bt t w k) (v0 v1 v2:Value):Dg (((w.setCell ⟨k,0,none⟩ v0).setCell ⟨k,1,none⟩ v1).setCell ⟨k,2,none⟩ v2) A c l:=by
 have hk:∀ b,b ≠ k -> b < w.heap.size -> (((w.setCell ⟨k,0,none⟩ v0).setCell ⟨k,1,none⟩ v1).setCell ⟨k,2,none⟩ v2).heap[b]? = w.heap[b]?:=fun b hne _=>
  (Below.heap_setCell _ ⟨k,2,none⟩ v2 b hne).trans ((Below.heap_setCell _ ⟨k,1,none⟩ v1 b hne).trans (Below.heap_setCell _ ⟨k,0,none⟩ v0 b hne))
 exact ⟨h.lies.apartBt hb (by simp) hk,h.dig,h.cap,h.nil⟩
theorem Ji {w w':World} {B k:Nat} (h:Below B w w') (hk:B <= k) (v0 v1 v2:Value):Below B w (((w'.setCell ⟨k,0,none⟩ v0).setCell ⟨k,1,none⟩ v1).setCell ⟨k,2,none⟩ v2):=((h.setCell hk _).setCell hk _).setCell hk _
structure Nm (w:World) (x:Fr) (q:Rat):Prop where
 neg:x.neg = qs q
 num:x.N = nd (qn q)
 dn:x.D = nd q.den
 n:Dg w x.A x.c (nd (qn q))
 d:Dg w x.B x.d (nd q.den)
theorem Nm.below {w w':World} {x:Fr} {q:Rat} (h:Nm w x q) (hb:Below w.heap.size w w'):Nm w' x q:=⟨h.neg,h.num,h.dn,h.n.below hb,h.d.below hb⟩
def Qf (q:Rat) (w:World) (e:Ending) (w':World):Prop:=∃ x:Fr,e = .returned x.val /\ Nm w' x q /\ Below w.heap.size w w'
theorem Nm.mk' {w:World} {A B:Option Addr} {c d:Nat} {q:Rat} {b:Bool} (hb:b = qs q) (h1:Dg w A c (nd (qn q))) (h2:Dg w B d (nd q.den)):Nm w ⟨b,A,c,nd (qn q),B,d,nd q.den⟩ q:=⟨hb,rfl,rfl,h1,h2⟩
theorem Zz {W:World} {k:Nat} {a b c:Value} {t:TypeId} (h:W.heap[k]? = some (.cells #[a,b,c] t (0,0))):W.cell? ⟨k,0,none⟩ = some a /\ W.cell? ⟨k,1,none⟩ = some b /\ W.cell? ⟨k,2,none⟩ = some c:=
 ⟨by rw [cell_of_row W k 0 _ _ _ h];rfl,by rw [cell_of_row W k 1 _ _ _ h];rfl,by rw [cell_of_row W k 2 _ _ _ h];rfl⟩
/-! what slots of a drawn region hold -/
def isV (v:Value):Value -> World -> Prop:=fun x _=>x = v
def isNd (n:Nat):Value -> World -> Prop:=fun x w=>∃ A c,x = .slice A (nd n).length c /\ Hid (Dg w A c (nd n))
def isNm (q:Rat):Value -> World -> Prop:=fun x w=>∃ r:Fr,x = r.val /\ Hid (Nm w r q)
def isFq (q:Rat):Value -> World -> Prop:=fun x w=>∃ r:Fr,x = r.val /\ Hid (Fq w r q)
def Keeps (p:Value -> World -> Prop):Prop:=∀ v w w',p v w -> Below w.heap.size w w' -> p v w'
theorem Fq.below {w w':World} {x:Fr} {q:Rat} (h:Fq w x q) (hb:Below w.heap.size w w'):Fq w' x q:=⟨h.ok.below hb,h.neg,h.num,h.dn⟩
theorem Keeps.isV (v:Value):Keeps (isV v):=fun _ _ _ h _=>h
theorem Keeps.isNd (n:Nat):Keeps (isNd n):=fun _ _ _ ⟨A,c,h1,h2⟩ hb=>⟨A,c,h1,zH (h2.out.below hb)⟩
theorem Keeps.isNm (q:Rat):Keeps (isNm q):=fun _ _ _ ⟨r,h1,h2⟩ hb=>⟨r,h1,zH (h2.out.below hb)⟩
theorem Keeps.isFq (q:Rat):Keeps (isFq q):=fun _ _ _ ⟨r,h1,h2⟩ hb=>⟨r,h1,zH (h2.out.below hb)⟩
def isBt (t:TypeId) (base:Nat):Value -> World -> Prop:=fun x w=>∃ k,x = .pointer (some ⟨k,0,none⟩) /\ Hid (Bt t w k) /\ base <= k
def isAg (b:Bool) (n:Nat):Value -> World -> Prop:=fun x w=>∃ A c,x = .agg #[.bool b,.slice A (nd n).length c,.slice none 0 0] /\ Hid (Dg w A c (nd n))
theorem Keeps.isBt (t:TypeId) (base:Nat):Keeps (isBt t base):=fun _ _ _ ⟨k,h1,h2,h3⟩ hb=>⟨k,h1,zH (h2.out.below hb),h3⟩
theorem Keeps.isAg (b:Bool) (n:Nat):Keeps (isAg b n):=fun _ _ _ ⟨A,c,h1,h2⟩ hb=>⟨A,c,h1,zH (h2.out.below hb)⟩
def Gl (l:List (Value -> World -> Prop)) (j:Nat) (v:Value) (w:World):Prop:=l.getD j (fun _ _=>True) v w
theorem Gl.keep {l:List (Value -> World -> Prop)} (h:∀ p ∈ l,Keeps p):∀ j v w w',Gl l j v w -> Below w.heap.size w w' -> Gl l j v w':=by
 intro j v w w' hj hb;unfold Gl at *
 by_cases hl:j < l.length
 ·have e:l.getD j (fun _ _=>True) = l[j]:=by rw [List.getD_eq_getElem?_getD,gE hl];rfl
  rw [e] at hj ⊢;exact h _ (yM hl) _ _ _ hj hb
 ·have e:l.getD j (fun _ _=>True) = fun _ _=>True:=by rw [List.getD_eq_getElem?_getD,List.getElem?_eq_none (Nat.le_of_not_lt hl)];rfl
  rw [e];trivial
theorem XO (neg:Bool) (A B:Option Addr) (c d n m:Nat) (w:World) (hA:Dg w A c (nd n)) (hB:Dg w B d (nd m)) (hn:(nd n).length <= 400000) (hm:(nd m).length <= 400000) (m0:m ≠ 0) :
  Calls Tryz.prog 128 #[.bool neg,.slice A (nd n).length c,.slice B (nd m).length d] w (Qf (fq neg n m) w):=by
 obtain ⟨p1,p2,p3⟩:=ZJ (a:=neg) (n:=n) m0;have HP1:=zH p1;have HP2:=zH p2;have HP3:=zH p3;clear p1 p2 p3;have hg0:n.gcd m ≠ 0:=by have:=Nat.gcd_pos_of_pos_right n (show 0 < m by omega);omega
 obtain ⟨W1,hW1⟩:∃ W1:World,W1 = w.alloc (.cells #[.bool false,.slice none 0 0,.slice none 0 0] 119):=⟨_,rfl⟩;have B1:Hid (Below w.heap.size w W1):=zH (by rw [hW1];exact bR.alloc nR _);have X1:Hid (Bt 119 W1 w.heap.size):=zH (by rw [hW1];exact Bt.new _ w);have DN:=zH (hA.below B1.out);have DM:=zH (hB.below B1.out);have C1:=zH (Zgh A B c d n m W1 DN.out DM.out hn hm);have hz:(decide (n ≠ 0)) = decide (n / n.gcd m ≠ 0):=by
  rw [decide_eq_decide];constructor
  ·intro h;exact Nat.pos_iff_ne_zero.1 (Nat.div_pos (Nat.gcd_le_left m (Nat.pos_of_ne_zero h)) (Nat.pos_of_ne_zero hg0))
  ·rintro h rfl;exact h (Nat.zero_div _)
 have HZ:=zH hz;clear hz hA hB;go_enter Tryz.func128,Tryz.ntmps128;go_wp2_with fail;rw [<- hW1];clear hW1;refine C1.out.mono ?_;clear C1;rintro e w2 ⟨GA,gc,rfl,g1,g2,g3,g4⟩;have DG:=zH (JF g1 g2 g3);have B2:=zH g4;have C2:=zH (Q6 A GA c gc n (n.gcd m) w2 (DN.out.below g4) DG.out hn hg0);clear g1 g2 g3 g4;go_wp2_with fail;refine C2.out.mono ?_;clear C2;rintro e w3 ⟨A3,c3,A3',c3',rfl,d1,d2,hb⟩;have D3:=zH d1;have B3:=zH (B2.out.trans (hb.mono B2.out.size));have C3:=zH (Q6 B GA d gc m (n.gcd m) w3 (DM.out.below B3.out) (DG.out.below hb) hm hg0);clear d1 d2 hb;go_wp2_with fail;refine C3.out.mono ?_;clear C3;rintro e w4 ⟨A4,c4,A4',c4',rfl,d1,d2,hb⟩;have D4:=zH d1;have D3':=zH (D3.out.below hb);have B4:=zH (B3.out.trans (hb.mono B3.out.size));have X4:=zH (X1.out.below B4.out);have BW:=zH (B1.out.trans (B4.out.mono B1.out.size));have HN:Hid (decide (0 < (nd (n / n.gcd m)).length) = decide (n / n.gcd m ≠ 0)):=zH (by
  rw [decide_eq_decide,Nat.pos_iff_ne_zero];exact not_congr Ju)
 clear d1 d2 hb DN DM DG D3 B1 B2 B3 B4 X1;obtain ⟨k0,k1,k2,f0,f1,f2⟩:=X4.out.facts;have HL:∀ b:Bool,b = (neg && decide (0 < (nd (n / n.gcd m)).length)) -> b = qs (fq neg n m):=fun b hb=>by rw [hb,HP1.out,HN.out,HZ.out]
 have HLH:=zH HL;clear HL;have fin:∀ b:Bool,b = (neg && decide (0 < (nd (n / n.gcd m)).length)) -> Qf (fq neg n m) w (.returned (.agg #[.bool b,.slice A3 (nd (n / n.gcd m)).length c3,.slice A4 (nd (m / n.gcd m)).length c4])) (((w4.setCell ⟨w.heap.size,0,none⟩ (.bool b)).setCell ⟨w.heap.size,1,none⟩ (.slice A3 (nd (n / n.gcd m)).length c3)).setCell ⟨w.heap.size,2,none⟩ (.slice A4 (nd (m / n.gcd m)).length c4)):=fun b hb=>by
  rw [<- HP2.out,<- HP3.out] at *
  exact ⟨⟨b,A3,c3,_,A4,c4,_⟩,rfl,Nm.mk' (HLH.out b hb) (XN D3'.out X4.out _ _ _) (XN D4.out X4.out _ _ _),Ji BW.out nR _ _ _⟩
 have FIN:=zH fin;clear fin HLH HN HZ HP1 HP2 HP3;generalize (nd (n / n.gcd m)).length = ln at *
 generalize (nd (m / n.gcd m)).length = lm at *
 cases neg with
 | false=>
  go_wp2_with fail;obtain ⟨e0,e1,e2⟩:=Z7 (.bool false) (.slice A3 ln c3) (.slice A4 lm c4) k0 k1 k2;refine bodyPost_ret (v:=.agg #[.bool false,.slice A3 ln c3,.slice A4 lm c4]) (by simp [results,Tryz.results128,go_sem,e0,e1,e2]) rfl ?_;exact FIN.out false (by simp)
 | true=>
  have q:decide ((0:Int) < (ln:Int)) = decide (0 < ln):=by simp
  go_wp2_with fail;obtain ⟨e0,e1,e2⟩:=Z7 (.bool (decide (0 < ln))) (.slice A3 ln c3) (.slice A4 lm c4) k0 k1 k2;refine bodyPost_ret (v:=.agg #[.bool (decide (0 < ln)),.slice A3 ln c3,.slice A4 lm c4]) (by simp [results,Tryz.results128,go_sem,e0,e1,e2]) rfl ?_;exact FIN.out (decide (0 < ln)) (by simp)
theorem al2 (w:World) (o1 o2:Obj):Below w.heap.size w ((w.alloc o1).alloc o2):=(bR.alloc nR _).alloc (by simp) _
theorem Zgf (x:Fr) (q:Rat) (w:World) (hx:Nm w x q) (q0:q ≠ 0):Calls Tryz.prog 167 #[x.val] w (Qf q⁻¹ w):=by
 obtain ⟨xn,xA,xc,xN,xB,xd,xD⟩:=x;obtain ⟨h1,h2,h3,hN,hD⟩:=hx;simp only at h1 h2 h3 hN hD;subst h1 h2 h3;simp only [Fr.val];obtain ⟨i1,i2,i3⟩:=Zv q0;have HN:=zH hN;have HD:=zH hD;have HI1:=zH i1;have HI2:=zH i2;have HI3:=zH i3;clear hN hD i1 i2 i3 q0;go_enter Tryz.func167,Tryz.ntmps167;go_wp2_with fail;refine bodyPost_ret (v:=.agg #[.bool (qs q),.slice xB (nd q.den).length xd,.slice xA (nd (qn q)).length xc]) (by simp [results,Tryz.results167,go_sem]) rfl ?_;refine ⟨⟨qs q,xB,xd,_,xA,xc,_⟩,rfl,⟨HI1.out.symm,by rw [HI2.out],by rw [HI3.out],?_,?_⟩,al2 w _ _⟩
 ·rw [HI2.out];exact HD.out.below (al2 w _ _)
 ·rw [HI3.out];exact HN.out.below (al2 w _ _)
theorem ZaX (x:Fr) (q:Rat) (w:World) (hx:Nm w x q) (b:Bool) (hb:Hid (decide (q = 0) = b)):Calls Tryz.prog 129 #[x.val] w fun e w'=>e = .returned (.bool b) /\ Below w.heap.size w w':=by
 obtain ⟨xn,xA,xc,xN,xB,xd,xD⟩:=x;obtain ⟨h1,h2,h3,hN,hD⟩:=hx;simp only at h1 h2 h3 hN hD;subst h1 h2 h3;simp only [Fr.val];have HB:Hid (b = (((nd (qn q)).length:Int) == 0)):=zH (by
  rw [<- hb.out,Bool.eq_iff_iff];simp only [decide_eq_true_eq,beq_iff_eq];rw [<- ZeN,<- Ju];omega)
 generalize (nd (qn q)).length = m at *
 generalize (nd q.den).length = m2 at *
 clear hN hD;go_enter Tryz.func129,Tryz.ntmps129;go_wp2_with fail;go_ret;exact ⟨Jn (by rw [HB.out]),bR.alloc nR _⟩
theorem ZaY (x:Fr) (q:Rat) (w:World) (hx:Nm w x q) (r:Int) (hr:Hid (Yu q = r)):Calls Tryz.prog 64 #[x.val] w fun e w'=>e = .returned (.int .i64 r) /\ Below w.heap.size w w':=by
 have Z0:=zH (ZaX x q (w.alloc (.cells #[.bool x.neg,.slice x.A x.N.length x.c,.slice x.B x.D.length x.d] 119)) (hx.below (bR.alloc nR _)) (decide (q = 0)) (zH rfl));have HS:Hid (qs q = decide (q.num < 0)):=zH rfl;have HQ:Hid (r = if q.num < 0 then -1 else if q.num = 0 then 0 else 1):=zH hr.out.symm;have HE:Hid (q = 0 ↔ q.num = 0):=zH Rat.num_eq_zero.symm;obtain ⟨xn,xA,xc,xN,xB,xd,xD⟩:=x;obtain ⟨h1,h2,h3,hN,hD⟩:=hx;simp only at h1 h2 h3 hN hD;subst h1 h2 h3;simp only [Fr.val];have HC:Hid (∀ W,Below (w.alloc (.cells #[.bool (qs q),.slice xA (nd (qn q)).length xc,.slice xB (nd q.den).length xd] 119)).heap.size (w.alloc (.cells #[.bool (qs q),.slice xA (nd (qn q)).length xc,.slice xB (nd q.den).length xd] 119)) W -> W.cell? ⟨w.heap.size,0,none⟩ = some (.bool (qs q))):=zH (fun W hW=>(hW.cell (p:=⟨w.heap.size,0,none⟩) (by simp)).trans (by simp [go_sem]));simp only [Fr.val] at Z0;generalize (nd (qn q)).length = m at *
 generalize (nd q.den).length = m2 at *
 clear hN hD hr;by_cases h0:q = 0
 ·have hd:decide (q = 0) = true:=decide_eq_true h0;have HR:Hid (r = 0):=zH (by rw [HQ.out,(HE.out.1 h0)];rfl);rw [hd] at Z0;clear HQ HE hd HS h0;go_enter Tryz.func64,Tryz.ntmps64;go_wp2_with fail;refine Z0.out.mono ?_;rintro e w' ⟨rfl,hb⟩;have HB:=zH hb;clear hb Z0 HC;go_wp2_with fail;go_ret;exact ⟨JS (by rw [HR.out]),(Below.refl w.heap.size w).alloc nR _ |>.trans (HB.out.mono (by simp))⟩
 ·have hd:decide (q = 0) = false:=dF h0;have h1:¬ q.num = 0:=fun h=>h0 (HE.out.2 h);rw [hd] at Z0;by_cases hn:q.num < 0
  ·have HR:Hid (r = -1):=zH (by rw [HQ.out,if_pos hn]);have hs:qs q = true:=(by rw [HS.out];exact decide_eq_true hn);rw [hs] at HC Z0 ⊢;clear HQ HE hd HS h0 h1 hn hs;go_enter Tryz.func64,Tryz.ntmps64;go_wp2_with fail;refine Z0.out.mono ?_;rintro e w' ⟨rfl,hb⟩;have HB:=zH hb;have c0:=HC.out _ hb;clear hb Z0 HC;go_wp2_with fail;go_ret;exact ⟨JS (by rw [HR.out]),(Below.refl w.heap.size w).alloc nR _ |>.trans (HB.out.mono (by simp))⟩
  ·have HR:Hid (r = 1):=zH (by rw [HQ.out,if_neg hn,if_neg h1]);have hs:qs q = false:=(by rw [HS.out];exact dF hn);rw [hs] at HC Z0 ⊢;clear HQ HE hd HS h0 h1 hn hs;go_enter Tryz.func64,Tryz.ntmps64;go_wp2_with fail;refine Z0.out.mono ?_;rintro e w' ⟨rfl,hb⟩;have HB:=zH hb;have c0:=HC.out _ hb;clear hb Z0 HC;go_wp2_with fail;go_ret;exact ⟨JS (by rw [HR.out]),(Below.refl w.heap.size w).alloc nR _ |>.trans (HB.out.mono (by simp))⟩
theorem Zds (x:Fr) (q:Rat) (w:World) (hx:Nm w x q):Calls Tryz.prog 66 #[x.val] w (Qf (-q) w):=by
 obtain ⟨xn,xA,xc,xN,xB,xd,xD⟩:=x;obtain ⟨h1,h2,h3,hN,hD⟩:=hx;simp only at h1 h2 h3 hN hD;subst h1 h2 h3;simp only [Fr.val];have HN:=zH hN;have HD:=zH hD;have HI1:Hid (∀ b,b = (!qs q && decide (0 < (nd (qn q)).length)) -> b = qs (-q)):=zH (fun b hb=>by
  rw [hb,Zjs];congr 1;rw [decide_eq_decide,Nat.pos_iff_ne_zero];exact not_congr Ju)
 have HI2:=zH (Zhz q);have HI3:=zH (ZfN q);have fin:∀ b,b = (!qs q && decide (0 < (nd (qn q)).length)) -> Qf (-q) w (.returned (.agg #[.bool b,.slice xA (nd (qn q)).length xc,.slice xB (nd q.den).length xd])) ((w.alloc (.cells #[.bool (qs q),.slice xA (nd (qn q)).length xc,.slice xB (nd q.den).length xd] 119)).alloc (.cells #[.bool b,.slice xA (nd (qn q)).length xc,.slice xB (nd q.den).length xd] 119)):=fun b hb=>
  ⟨⟨b,xA,xc,_,xB,xd,_⟩,rfl,⟨HI1.out b hb,by rw [HI2.out],by rw [HI3.out],by rw [HI2.out];exact HN.out.below (al2 w _ _),by rw [HI3.out];exact HD.out.below (al2 w _ _)⟩,al2 w _ _⟩
 have FIN:=zH fin;clear fin hN hD HN HD HI1 HI2 HI3;generalize hs:qs q = s at *
 generalize (nd (qn q)).length = m at *
 generalize (nd q.den).length = m2 at *
 cases s with
 | true=>
  go_enter Tryz.func66,Tryz.ntmps66;go_wp2_with fail;refine bodyPost_ret (v:=.agg #[.bool false,.slice xA m xc,.slice xB m2 xd]) (by simp [results,Tryz.results66,go_sem]) rfl ?_;exact FIN.out false (by simp)
 | false=>
  go_enter Tryz.func66,Tryz.ntmps66;go_wp2_with fail;refine bodyPost_ret (v:=.agg #[.bool (decide (0 < m)),.slice xA m xc,.slice xB m2 xd]) (by simp [results,Tryz.results66,go_sem]) rfl ?_;exact FIN.out (decide (0 < m)) (by simp)
theorem Zbq (z:Int):qs (z:Rat) = decide (z < 0) /\ qn (z:Rat) = z.natAbs /\ (z:Rat).den = 1:=⟨by unfold qs;rw [Rat.num_intCast],by unfold qn;rw [Rat.num_intCast],Rat.den_intCast z⟩
theorem VK (z:Int) (w:World) (h1 : -9223372036854775808 <= z) (h2:z <= 9223372036854775807):Calls Tryz.prog 135 #[.int .i64 z] w (Qf (z:Rat) w):=by
 obtain ⟨p1,p2,p3⟩:=Zbq z;have HP1:=zH p1;have HP2:=zH p2;have HP3:=zH p3;clear p1 p2 p3;have S1:=zH (fun W=>Yp z.natAbs W (by omega));have S2:=zH (fun W=>Yp 1 W (by omega));have X0:=zH (Bt.new 119 w);have B0:Hid (Below w.heap.size w (w.alloc (.cells #[.bool false,.slice none 0 0,.slice none 0 0] 119))):=zH (bR.alloc nR _);by_cases hz:z < 0
 ·have hc:((z.natAbs:Nat):Int) = -z:=by omega
  have HB:Hid (true = qs (z:Rat)):=zH (by rw [HP1.out];exact (decide_eq_true hz).symm);rw [hc] at S1;have k1 : -(z + 1) + 1 = -z:=by omega
  go_enter Tryz.func135,Tryz.ntmps135;go_wp2_with fail;refine (S1.out _).mono ?_;rintro e w2 ⟨A1,c1,rfl,s1,s2,s3,s4⟩;have D1:=zH (JF s1 s2 s3);have B1:=zH (B0.out.trans (s4.mono B0.out.size));have X1:=zH (X0.out.below s4);clear s1 s2 s3 s4 S1;go_wp2_with fail;refine (S2.out _).mono ?_;rintro e w3 ⟨A2,c2,rfl,s1,s2,s3,s4⟩;have D2:=zH (JF s1 s2 s3);have D1':=zH (D1.out.below s4);have B2:=zH (B1.out.trans (s4.mono B1.out.size));have X2:=zH (X1.out.below s4);clear s1 s2 s3 s4 S2 D1 B1 X1 B0 X0;obtain ⟨k0,k1',k2,f0,f1,f2⟩:=X2.out.facts;go_wp2_with fail;obtain ⟨e0,e1,e2⟩:=Z7 (.bool true) (.slice A1 (nd z.natAbs).length c1) (.slice A2 (nd 1).length c2) k0 k1' k2;refine bodyPost_ret (v:=.agg #[.bool true,.slice A1 (nd z.natAbs).length c1,.slice A2 (nd 1).length c2]) (by simp [results,Tryz.results135,go_sem,e0,e1,e2]) rfl ?_;refine ⟨⟨true,A1,c1,_,A2,c2,_⟩,rfl,⟨HB.out,by rw [HP2.out],by rw [HP3.out],?_,?_⟩,Ji B2.out nR _ _ _⟩
  ·rw [HP2.out];exact XN D1'.out X2.out _ _ _
  ·rw [HP3.out];exact XN D2.out X2.out _ _ _
 ·have hc:((z.natAbs:Nat):Int) = z:=by omega
  have HB:Hid (false = qs (z:Rat)):=zH (by rw [HP1.out];exact (dF hz).symm);rw [hc] at S1;go_enter Tryz.func135,Tryz.ntmps135;go_wp2_with fail;refine (S1.out _).mono ?_;rintro e w2 ⟨A1,c1,rfl,s1,s2,s3,s4⟩;have D1:=zH (JF s1 s2 s3);have B1:=zH (B0.out.trans (s4.mono B0.out.size));have X1:=zH (X0.out.below s4);clear s1 s2 s3 s4 S1;go_wp2_with fail;refine (S2.out _).mono ?_;rintro e w3 ⟨A2,c2,rfl,s1,s2,s3,s4⟩;have D2:=zH (JF s1 s2 s3);have D1':=zH (D1.out.below s4);have B2:=zH (B1.out.trans (s4.mono B1.out.size));have X2:=zH (X1.out.below s4);clear s1 s2 s3 s4 S2 D1 B1 X1 B0 X0;obtain ⟨k0,k1',k2,f0,f1,f2⟩:=X2.out.facts;go_wp2_with fail;obtain ⟨e0,e1,e2⟩:=Z7 (.bool false) (.slice A1 (nd z.natAbs).length c1) (.slice A2 (nd 1).length c2) k0 k1' k2;refine bodyPost_ret (v:=.agg #[.bool false,.slice A1 (nd z.natAbs).length c1,.slice A2 (nd 1).length c2]) (by simp [results,Tryz.results135,go_sem,e0,e1,e2]) rfl ?_;refine ⟨⟨false,A1,c1,_,A2,c2,_⟩,rfl,⟨HB.out,by rw [HP2.out],by rw [HP3.out],?_,?_⟩,Ji B2.out nR _ _ _⟩
  ·rw [HP2.out];exact XN D1'.out X2.out _ _ _
  ·rw [HP3.out];exact XN D2.out X2.out _ _ _
set_option linter.unusedVariables false

theorem YP {t:TypeId} {w:World} {x:Fr} {q:Rat} {k:Nat} (h:Nm w x q) (hb:Bt t w k) (v0 v1 v2:Value):Nm (((w.setCell ⟨k,0,none⟩ v0).setCell ⟨k,1,none⟩ v1).setCell ⟨k,2,none⟩ v2) x q:=
 ⟨h.neg,h.num,h.dn,XN h.n hb _ _ _,XN h.d hb _ _ _⟩
theorem J2 {t:TypeId} {w:World} {x:Fr} {q:Rat} {k:Nat} (h:Fq w x q) (hb:Bt t w k) (v0 v1 v2:Value):Fq (((w.setCell ⟨k,0,none⟩ v0).setCell ⟨k,1,none⟩ v1).setCell ⟨k,2,none⟩ v2) x q:=
 ⟨⟨XN h.ok.n hb _ _ _,XN h.ok.d hb _ _ _⟩,h.neg,h.num,h.dn⟩
theorem ZeX (p q:Rat):fq (qs p != qs q) (qn p * qn q) (p.den * q.den) = p * q:=by
 rw [<- ZfC p.den_nz q.den_nz,XX,XX]
theorem ZcD (x y:Fr) (p q:Rat) (w:World) (hx:Nm w x p) (hy:Nm w y q) (sp:Sz p 200000) (sq:Sz q 200000):Calls Tryz.prog 166 #[x.val,y.val] w (Qf (p * q) w):=by
 obtain ⟨xn,xA,xc,xN,xB,xd,xD⟩:=x;obtain ⟨h1,h2,h3,HxN,HxD⟩:=hx;simp only at h1 h2 h3 HxN HxD;subst h1 h2 h3;obtain ⟨yn,yA,yc,yN,yB,yd,yD⟩:=y;obtain ⟨h1,h2,h3,HyN,HyD⟩:=hy;simp only at h1 h2 h3 HyN HyD;subst h1 h2 h3;simp only [Fr.val];have s1:=sp.num;have s2:=sp.den;have s3:=sq.num;have s4:=sq.den;have l1:=JW (qn p) (qn q);have l2:=JW p.den q.den;have d0:p.den * q.den ≠ 0:=Nat.mul_ne_zero p.den_nz q.den_nz;rw [<- ZeX p q];go_enter Tryz.func166,Tryz.ntmps166;go_wp2_with fail;obtain ⟨W,hW⟩:∃ W:World,W = ((w.alloc (.cells #[.bool (qs p),.slice xA (nd (qn p)).length xc,.slice xB (nd p.den).length xd] 119)).alloc (.cells #[.bool (qs q),.slice yA (nd (qn q)).length yc,.slice yB (nd q.den).length yd] 119)).alloc (.cells #[.bool false,.slice none 0 0,.slice none 0 0] 119):=⟨_,rfl⟩;have hs:W.heap.size = w.heap.size + 3:=by rw [hW];simp
 have HB0:Hid (Below w.heap.size w W):=zH (by rw [hW];exact (al2 w _ _).alloc (by simp;omega) _);have HBX:Hid (Bt 119 W (w.heap.size + 1 + 1)):=zH (by rw [hW];have:=Bt.new 119 ((w.alloc (.cells #[.bool (qs p),.slice xA (nd (qn p)).length xc,.slice xB (nd p.den).length xd] 119)).alloc (.cells #[.bool (qs q),.slice yA (nd (qn q)).length yc,.slice yB (nd q.den).length yd] 119));simpa using this);have HC:Hid (∀ u,Below W.heap.size W u -> u.cell? ⟨w.heap.size,0,none⟩ = some (.bool (qs p)) /\ u.cell? ⟨w.heap.size,1,none⟩ = some (.slice xA (nd (qn p)).length xc) /\ u.cell? ⟨w.heap.size,2,none⟩ = some (.slice xB (nd p.den).length xd) /\ u.cell? ⟨w.heap.size + 1,0,none⟩ = some (.bool (qs q)) /\ u.cell? ⟨w.heap.size + 1,1,none⟩ = some (.slice yA (nd (qn q)).length yc) /\ u.cell? ⟨w.heap.size + 1,2,none⟩ = some (.slice yB (nd q.den).length yd)):=zH (fun u hu=>by
  rw [hu.cell (p:=⟨w.heap.size,0,none⟩) (by simp;omega),hu.cell (p:=⟨w.heap.size,1,none⟩) (by simp;omega),hu.cell (p:=⟨w.heap.size,2,none⟩) (by simp;omega),hu.cell (p:=⟨w.heap.size + 1,0,none⟩) (by simp;omega),hu.cell (p:=⟨w.heap.size + 1,1,none⟩) (by simp;omega),hu.cell (p:=⟨w.heap.size + 1,2,none⟩) (by simp;omega),hW];simp [go_sem])
 have HxN1:=zH (HxN.below HB0.out);have HxD1:=zH (HxD.below HB0.out);have HyN1:=zH (HyN.below HB0.out);have HyD1:=zH (HyD.below HB0.out);clear HxN HxD HyN HyD;rw [<- hW];clear hW;refine Je 16 21 rfl (by kernel_rfl) (by kernel_rfl) (by kernel_rfl) (by kernel_rfl) (fun u=>Below W.heap.size W u) (fun u u'=>Below u.heap.size u u') (Gl [isV (.pointer (some ⟨w.heap.size,0,none⟩)),isV (.bool (qs p)),isV (.pointer (some ⟨w.heap.size + 1,0,none⟩)),isV (.bool (qs q)),isV (.bool (qs p != qs q)),isV (.pointer (some ⟨w.heap.size,1,none⟩)),isV (.slice xA (nd (qn p)).length xc),isV (.pointer (some ⟨w.heap.size + 1,1,none⟩)),isV (.slice yA (nd (qn q)).length yc),isNd ((qn p) * (qn q)),isV (.pointer (some ⟨w.heap.size,2,none⟩)),isV (.slice xB (nd p.den).length xd),isV (.pointer (some ⟨w.heap.size + 1,2,none⟩)),isV (.slice yB (nd q.den).length yd),isNd ((p.den) * (q.den)),isNm (fq (qs p != qs q) ((qn p) * (qn q)) ((p.den) * (q.den)))]) (Gl.keep (by
   intro p hp;simp only [List.mem_cons,List.not_mem_nil,or_false] at hp;rcases hp with rfl | rfl | rfl | rfl | rfl | rfl | rfl | rfl | rfl | rfl | rfl | rfl | rfl | rfl | rfl | rfl
   ·exact Keeps.isV _
   ·exact Keeps.isV _
   ·exact Keeps.isV _
   ·exact Keeps.isV _
   ·exact Keeps.isV _
   ·exact Keeps.isV _
   ·exact Keeps.isV _
   ·exact Keeps.isV _
   ·exact Keeps.isV _
   ·exact Keeps.isNd _
   ·exact Keeps.isV _
   ·exact Keeps.isV _
   ·exact Keeps.isV _
   ·exact Keeps.isV _
   ·exact Keeps.isNd _
   ·exact Keeps.isNm _)) ?_ ?_ ?_
 ·exact (Below.refl _ W).drew
 ·simp only [List.pop_toArray,List.dropLast,Jl];refine ⟨?_,?_,?_,?_,?_,?_,?_,?_,?_,?_,?_,?_,?_,?_,?_,?_,trivial⟩
  ·intro bb u su dp kp K hK;have e2:gT bb 2 = .pointer (some ⟨w.heap.size,0,none⟩):=kp 2 (by kernel_rfl);go_simp;exact hK _ _ su bR rfl
  ·intro bb u su dp kp K hK;have e5:gT bb 5 = .pointer (some ⟨w.heap.size,0,none⟩):=dp 0 _ rfl (by kernel_rfl);obtain ⟨cc0,cc1,cc2,cc3,cc4,cc5⟩:=HC.out u su;go_simp;exact hK _ _ su bR rfl
  ·intro bb u su dp kp K hK;have e3:gT bb 3 = .pointer (some ⟨w.heap.size + 1,0,none⟩):=kp 3 (by kernel_rfl);go_simp;exact hK _ _ su bR rfl
  ·intro bb u su dp kp K hK;have e7:gT bb 7 = .pointer (some ⟨w.heap.size + 1,0,none⟩):=dp 2 _ rfl (by kernel_rfl);obtain ⟨cc0,cc1,cc2,cc3,cc4,cc5⟩:=HC.out u su;go_simp;exact hK _ _ su bR rfl
  ·intro bb u su dp kp K hK;have e6:gT bb 6 = .bool (qs p):=dp 1 _ rfl (by kernel_rfl);have e8:gT bb 8 = .bool (qs q):=dp 3 _ rfl (by kernel_rfl);go_simp;exact hK _ _ su bR rfl
  ·intro bb u su dp kp K hK;have e2:gT bb 2 = .pointer (some ⟨w.heap.size,0,none⟩):=kp 2 (by kernel_rfl);go_simp;exact hK _ _ su bR rfl
  ·intro bb u su dp kp K hK;have e10:gT bb 10 = .pointer (some ⟨w.heap.size,1,none⟩):=dp 5 _ rfl (by kernel_rfl);obtain ⟨cc0,cc1,cc2,cc3,cc4,cc5⟩:=HC.out u su;go_simp;exact hK _ _ su bR rfl
  ·intro bb u su dp kp K hK;have e3:gT bb 3 = .pointer (some ⟨w.heap.size + 1,0,none⟩):=kp 3 (by kernel_rfl);go_simp;exact hK _ _ su bR rfl
  ·intro bb u su dp kp K hK;have e12:gT bb 12 = .pointer (some ⟨w.heap.size + 1,1,none⟩):=dp 7 _ rfl (by kernel_rfl);obtain ⟨cc0,cc1,cc2,cc3,cc4,cc5⟩:=HC.out u su;go_simp;exact hK _ _ su bR rfl
  ·intro bb u su dp kp K hK;have e11:gT bb 11 = .slice xA (nd (qn p)).length xc:=dp 6 _ rfl (by kernel_rfl);have e13:gT bb 13 = .slice yA (nd (qn q)).length yc:=dp 8 _ rfl (by kernel_rfl);go_simp;refine (ZB xA yA xc yc (nd (qn p)) (nd (qn q)) u (HxN1.out.below su) (HyN1.out.below su) (by omega) (by omega) ((qn p) * (qn q)) (zH (by rw [Jy,Jy];simp))).mono ?_;rintro e w' ⟨A,c,rfl,h1,h2,h3,h4⟩;go_simp;exact hK _ _ (su.trans (h4.mono su.size)) h4 ⟨A,c,rfl,zH (JF h1 h2 h3)⟩
  ·intro bb u su dp kp K hK;have e2:gT bb 2 = .pointer (some ⟨w.heap.size,0,none⟩):=kp 2 (by kernel_rfl);go_simp;exact hK _ _ su bR rfl
  ·intro bb u su dp kp K hK;have e15:gT bb 15 = .pointer (some ⟨w.heap.size,2,none⟩):=dp 10 _ rfl (by kernel_rfl);obtain ⟨cc0,cc1,cc2,cc3,cc4,cc5⟩:=HC.out u su;go_simp;exact hK _ _ su bR rfl
  ·intro bb u su dp kp K hK;have e3:gT bb 3 = .pointer (some ⟨w.heap.size + 1,0,none⟩):=kp 3 (by kernel_rfl);go_simp;exact hK _ _ su bR rfl
  ·intro bb u su dp kp K hK;have e17:gT bb 17 = .pointer (some ⟨w.heap.size + 1,2,none⟩):=dp 12 _ rfl (by kernel_rfl);obtain ⟨cc0,cc1,cc2,cc3,cc4,cc5⟩:=HC.out u su;go_simp;exact hK _ _ su bR rfl
  ·intro bb u su dp kp K hK;have e16:gT bb 16 = .slice xB (nd p.den).length xd:=dp 11 _ rfl (by kernel_rfl);have e18:gT bb 18 = .slice yB (nd q.den).length yd:=dp 13 _ rfl (by kernel_rfl);go_simp;refine (ZB xB yB xd yd (nd (p.den)) (nd (q.den)) u (HxD1.out.below su) (HyD1.out.below su) (by omega) (by omega) ((p.den) * (q.den)) (zH (by rw [Jy,Jy];simp))).mono ?_;rintro e w' ⟨A,c,rfl,h1,h2,h3,h4⟩;go_simp;exact hK _ _ (su.trans (h4.mono su.size)) h4 ⟨A,c,rfl,zH (JF h1 h2 h3)⟩
  ·intro bb u su dp kp K hK;have e9:gT bb 9 = .bool (qs p != qs q):=dp 4 _ rfl (by kernel_rfl);obtain ⟨A14,c14,e14,D14⟩:∃ A c,gT bb 14 = .slice A (nd ((qn p) * (qn q))).length c /\ Hid (Dg u A c (nd ((qn p) * (qn q)))):=dp 9 _ rfl (by kernel_rfl);obtain ⟨A19,c19,e19,D19⟩:∃ A c,gT bb 19 = .slice A (nd ((p.den) * (q.den))).length c /\ Hid (Dg u A c (nd ((p.den) * (q.den)))):=dp 14 _ rfl (by kernel_rfl);go_simp;refine (XO (qs p != qs q) A14 A19 c14 c19 ((qn p) * (qn q)) ((p.den) * (q.den)) u D14.out D19.out (by omega) (by omega) d0).mono ?_;rintro e w' ⟨r,rfl,hr,h4⟩;go_simp;exact hK _ _ (su.trans (h4.mono su.size)) h4 ⟨r,rfl,zH hr⟩
 ·intro bb u hN hdf su hG sm;obtain ⟨r,e20,hr⟩:∃ r:Fr,gT bb 20 = r.val /\ Hid (Nm u r (fq (qs p != qs q) ((qn p) * (qn q)) ((p.den) * (q.den)))):=hG 15 _ rfl;have e4:gT bb 4 = .pointer (some ⟨w.heap.size + 1 + 1,0,none⟩):=sm 4 (by kernel_rfl);have BX2:=zH (HBX.out.below su);obtain ⟨c0,c1,c2,f0,f1,f2⟩:=BX2.out.facts;have HB2:=zH (HB0.out.trans (su.mono HB0.out.size));clear su hG sm;rw [J6 bb 21 hN];simp only [show List.range 21 = [0,1,2,3,4,5,6,7,8,9,10,11,12,13,14,15,16,17,18,19,20] from rfl,List.map_cons,List.map_nil,e4,e20,hdf];clear e4 e20 hN hdf;generalize gT bb 0 = z0,gT bb 1 = z1,gT bb 2 = z2,gT bb 3 = z3,gT bb 5 = z5,gT bb 6 = z6,gT bb 7 = z7,gT bb 8 = z8,gT bb 9 = z9,gT bb 10 = z10,gT bb 11 = z11,gT bb 12 = z12,gT bb 13 = z13,gT bb 14 = z14,gT bb 15 = z15,gT bb 16 = z16,gT bb 17 = z17,gT bb 18 = z18,gT bb 19 = z19;obtain ⟨rn,rA,rc,rN,rB,rd,rD⟩:=r;refine PopQ.last rfl rfl (fun K hK=>?_);go_simp;refine hK _ _ ?_;clear hK K;go_wp2_with fail;obtain ⟨g0,g1,g2⟩:=Z7 (.bool rn) (.slice rA rN.length rc) (.slice rB rD.length rd) c0 c1 c2;refine bodyPost_ret (v:=.agg #[.bool rn,.slice rA rN.length rc,.slice rB rD.length rd]) (by simp [results,Tryz.results166,go_sem,g0,g1,g2]) rfl ?_;exact ⟨⟨rn,rA,rc,rN,rB,rd,rD⟩,rfl,YP hr.out BX2.out _ _ _,Ji HB2.out (by omega) _ _ _⟩
end Go.Proofs.YtcjicjfbippmnaaGreat
