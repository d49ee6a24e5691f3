/- TalkLearns -/
import Derived.Test.YtcjicjfbippmnaaGreatMTLear10
import Derived.Test.YtcjicjfbippmnaaGreatMTLear2
set_option maxRecDepth 100000
set_option maxHeartbeats 32000000
namespace Go.Proofs.YtcjicjfbippmnaaGreat
open Go.RowKit Ear

def Bt (t:TypeId) (w:World) (k:Nat):Prop:=w.heap[k]? = some (.cells #[.bool false,.slice none 0 0,.slice none 0 0] t (0,0))
theorem Bt.new (t:TypeId) (w:World):Bt t (w.alloc (.cells #[.bool false,.slice none 0 0,.slice none 0 0] t)) w.heap.size:=heap_alloc_new w _
theorem Bt.lt {t:TypeId} {w:World} {k:Nat} (h:Bt t w k):k < w.heap.size:=(aE h).1
theorem Bt.below {t:TypeId} {w w':World} {k:Nat} (h:Bt t w k) (hb:Below w.heap.size w w'):Bt t w' k:=(hb.block k h.lt).trans h
theorem Bt.alloc {t:TypeId} {w:World} {k:Nat} (h:Bt t w k) (o:Obj):Bt t (w.alloc o) k:=h.below ((Below.refl _ w).alloc nR o)
theorem Bt.facts {t:TypeId} {w:World} {k:Nat} (h:Bt t w k):w.cell? ⟨k,0,none⟩ = some (.bool false) /\ w.cell? ⟨k,1,none⟩ = some (.slice none 0 0) /\ w.cell? ⟨k,2,none⟩ = some (.slice none 0 0) /\ w.frozen? ⟨k,0,none⟩ = false /\ w.frozen? ⟨k,1,none⟩ = false /\ w.frozen? ⟨k,2,none⟩ = false:=
 ⟨by rw [cell_of_row w k 0 _ _ _ h];rfl,by rw [cell_of_row w k 1 _ _ _ h];rfl,by rw [cell_of_row w k 2 _ _ _ h];rfl,by simp [World.frozen?,show w.heap[k]? = _ from h],by simp [World.frozen?,show w.heap[k]? = _ from h],by simp [World.frozen?,show w.heap[k]? = _ from h]⟩
theorem Lies.apartBt {t:TypeId} {w w':World} {A:Option Addr} {l:List Int} {k:Nat} (h:Lies w A (ucs l)) (hb:Bt t w k) (hs:w.heap.size <= w'.heap.size) (hk:∀ b,b ≠ k -> b < w.heap.size -> w'.heap[b]? = w.heap[b]?):Lies w' A (ucs l):=fun h0=>by
 obtain ⟨b,off,e,hlt,hc⟩:=h h0;have hne:b ≠ k:=by
  rintro rfl;have hl : 0 < l.length:=by simpa using h0
  have:=hc 0 (.int .u32 l[0]) (by simp [gE hl]);rw [cell_of_row w b _ _ _ _ hb] at this;rcases (show off + 0 = 0 ∨ off + 0 = 1 ∨ off + 0 = 2 ∨ 3 <= off + 0 by omega) with e | e | e | e
  ·rw [e] at this;simp at this
  ·rw [e] at this;simp at this
  ·rw [e] at this;simp at this
  ·rw [Array.getElem?_eq_none (by simpa using e)] at this;cases this
 exact ⟨b,off,e,by omega,fun j u hu=>by
  rw [<- hc j u hu];exact World.cell?_of_block (a:=⟨b,off + j,none⟩) (hk b hne hlt)⟩
theorem XG {t:TypeId} {w:World} {A:Option Addr} {c k:Nat} {l:List Int} (h:Dg w A c l) (hb:Bt t w k) (v0 v1 v2:Value):Dg (((w.setCell ⟨k,0,none⟩ v0).setCell ⟨k,1,none⟩ v1).setCell ⟨k,2,none⟩ v2) A c l:=by
 have hk:∀ b,b ≠ k -> b < w.heap.size -> (((w.setCell ⟨k,0,none⟩ v0).setCell ⟨k,1,none⟩ v1).setCell ⟨k,2,none⟩ v2).heap[b]? = w.heap[b]?:=fun b hne _=>
  (Below.heap_setCell _ ⟨k,2,none⟩ v2 b hne).trans ((Below.heap_setCell _ ⟨k,1,none⟩ v1 b hne).trans (Below.heap_setCell _ ⟨k,0,none⟩ v0 b hne))
 exact ⟨h.lies.apartBt hb (by simp) hk,h.dig,h.cap,h.nil⟩
theorem Jj {w w':World} {B k:Nat} (h:Below B w w') (hk:B <= k) (v0 v1 v2:Value):Below B w (((w'.setCell ⟨k,0,none⟩ v0).setCell ⟨k,1,none⟩ v1).setCell ⟨k,2,none⟩ v2):=((h.setCell hk _).setCell hk _).setCell hk _
structure Nm (w:World) (x:Fr) (q:Rat):Prop where
 neg:x.neg = qs q
 num:x.N = nd (qn q)
 dn:x.D = nd q.den
 n:Dg w x.A x.c (nd (qn q))
 d:Dg w x.B x.d (nd q.den)
theorem Nm.below {w w':World} {x:Fr} {q:Rat} (h:Nm w x q) (hb:Below w.heap.size w w'):Nm w' x q:=⟨h.neg,h.num,h.dn,h.n.below hb,h.d.below hb⟩
def Qh (q:Rat) (w:World) (e:Ending) (w':World):Prop:=∃ x:Fr,e = .returned x.val /\ Nm w' x q /\ Below w.heap.size w w'
theorem Nm.mk' {w:World} {A B:Option Addr} {c d:Nat} {q:Rat} {b:Bool} (hb:b = qs q) (h1:Dg w A c (nd (qn q))) (h2:Dg w B d (nd q.den)):Nm w ⟨b,A,c,nd (qn q),B,d,nd q.den⟩ q:=⟨hb,rfl,rfl,h1,h2⟩
theorem Xe {W:World} {k:Nat} {a b c:Value} {t:TypeId} (h:W.heap[k]? = some (.cells #[a,b,c] t (0,0))):W.cell? ⟨k,0,none⟩ = some a /\ W.cell? ⟨k,1,none⟩ = some b /\ W.cell? ⟨k,2,none⟩ = some c:=
 ⟨by rw [cell_of_row W k 0 _ _ _ h];rfl,by rw [cell_of_row W k 1 _ _ _ h];rfl,by rw [cell_of_row W k 2 _ _ _ h];rfl⟩
/-! what slots of a drawn region hold -/
def isV (v:Value):Value -> World -> Prop:=fun x _=>x = v
def isNd (n:Nat):Value -> World -> Prop:=fun x w=>∃ A c,x = .slice A (nd n).length c /\ Hid (Dg w A c (nd n))
def isNm (q:Rat):Value -> World -> Prop:=fun x w=>∃ r:Fr,x = r.val /\ Hid (Nm w r q)
def isFq (q:Rat):Value -> World -> Prop:=fun x w=>∃ r:Fr,x = r.val /\ Hid (Fq w r q)
def Keeps (p:Value -> World -> Prop):Prop:=∀ v w w',p v w -> Below w.heap.size w w' -> p v w'
theorem Fq.below {w w':World} {x:Fr} {q:Rat} (h:Fq w x q) (hb:Below w.heap.size w w'):Fq w' x q:=⟨h.ok.below hb,h.neg,h.num,h.dn⟩
theorem Keeps.isV (v:Value):Keeps (isV v):=fun _ _ _ h _=>h
theorem Keeps.isNd (n:Nat):Keeps (isNd n):=fun _ _ _ ⟨A,c,h1,h2⟩ hb=>⟨A,c,h1,zH (h2.out.below hb)⟩
theorem Keeps.isNm (q:Rat):Keeps (isNm q):=fun _ _ _ ⟨r,h1,h2⟩ hb=>⟨r,h1,zH (h2.out.below hb)⟩
theorem Keeps.isFq (q:Rat):Keeps (isFq q):=fun _ _ _ ⟨r,h1,h2⟩ hb=>⟨r,h1,zH (h2.out.below hb)⟩
def isBt (t:TypeId) (base:Nat):Value -> World -> Prop:=fun x w=>∃ k,x = .pointer (some ⟨k,0,none⟩) /\ Hid (Bt t w k) /\ base <= k
def isAg (b:Bool) (n:Nat):Value -> World -> Prop:=fun x w=>∃ A c,x = .agg #[.bool b,.slice A (nd n).length c,.slice none 0 0] /\ Hid (Dg w A c (nd n))
theorem Keeps.isBt (t:TypeId) (base:Nat):Keeps (isBt t base):=fun _ _ _ ⟨k,h1,h2,h3⟩ hb=>⟨k,h1,zH (h2.out.below hb),h3⟩
theorem Keeps.isAg (b:Bool) (n:Nat):Keeps (isAg b n):=fun _ _ _ ⟨A,c,h1,h2⟩ hb=>⟨A,c,h1,zH (h2.out.below hb)⟩
def Gl (l:List (Value -> World -> Prop)) (j:Nat) (v:Value) (w:World):Prop:=l.getD j (fun _ _=>True) v w
theorem Gl.keep {l:List (Value -> World -> Prop)} (h:∀ p ∈ l,Keeps p):∀ j v w w',Gl l j v w -> Below w.heap.size w w' -> Gl l j v w':=by
 intro j v w w' hj hb;unfold Gl at *
 by_cases hl:j < l.length
 ·have e:l.getD j (fun _ _=>True) = l[j]:=by rw [List.getD_eq_getElem?_getD,gE hl];rfl
  rw [e] at hj ⊢;exact h _ (yM hl) _ _ _ hj hb
 ·have e:l.getD j (fun _ _=>True) = fun _ _=>True:=by rw [List.getD_eq_getElem?_getD,List.getElem?_eq_none (Nat.le_of_not_lt hl)];rfl
  rw [e];trivial
theorem XJ (neg:Bool) (A B:Option Addr) (c d n m:Nat) (w:World) (hA:Dg w A c (nd n)) (hB:Dg w B d (nd m)) (hn:(nd n).length <= 400000) (hm:(nd m).length <= 400000) (m0:m ≠ 0) :
  Calls Tryz.prog 128 #[.bool neg,.slice A (nd n).length c,.slice B (nd m).length d] w (Qh (fq neg n m) w):=by
 obtain ⟨p1,p2,p3⟩:=Vv (a:=neg) (n:=n) m0;have HP1:=zH p1;have HP2:=zH p2;have HP3:=zH p3;clear p1 p2 p3;have hg0:n.gcd m ≠ 0:=by have:=Nat.gcd_pos_of_pos_right n (show 0 < m by omega);omega
 obtain ⟨W1,hW1⟩:∃ W1:World,W1 = w.alloc (.cells #[.bool false,.slice none 0 0,.slice none 0 0] 119):=⟨_,rfl⟩;have B1:Hid (Below w.heap.size w W1):=zH (by rw [hW1];exact bR.alloc nR _);have X1:Hid (Bt 119 W1 w.heap.size):=zH (by rw [hW1];exact Bt.new _ w);have DN:=zH (hA.below B1.out);have DM:=zH (hB.below B1.out);have C1:=zH (Zfk A B c d n m W1 DN.out DM.out hn hm);have hz:(decide (n ≠ 0)) = decide (n / n.gcd m ≠ 0):=by
  rw [decide_eq_decide];constructor
  ·intro h;exact Nat.pos_iff_ne_zero.1 (Nat.div_pos (Nat.gcd_le_left m (Nat.pos_of_ne_zero h)) (Nat.pos_of_ne_zero hg0))
  ·rintro h rfl;exact h (Nat.zero_div _)
 have HZ:=zH hz;clear hz hA hB;go_enter Tryz.func128,Tryz.ntmps128;go_wp2_with fail;rw [<- hW1];clear hW1;refine C1.out.mono ?_;clear C1;rintro e w2 ⟨GA,gc,rfl,g1,g2,g3,g4⟩;have DG:=zH (JB g1 g2 g3);have B2:=zH g4;have C2:=zH (Zag A GA c gc n (n.gcd m) w2 (DN.out.below g4) DG.out hn hg0);clear g1 g2 g3 g4;go_wp2_with fail;refine C2.out.mono ?_;clear C2;rintro e w3 ⟨A3,c3,A3',c3',rfl,d1,d2,hb⟩;have D3:=zH d1;have B3:=zH (B2.out.trans (hb.mono B2.out.size));have C3:=zH (Zag B GA d gc m (n.gcd m) w3 (DM.out.below B3.out) (DG.out.below hb) hm hg0);clear d1 d2 hb;go_wp2_with fail;refine C3.out.mono ?_;clear C3;rintro e w4 ⟨A4,c4,A4',c4',rfl,d1,d2,hb⟩;have D4:=zH d1;have D3':=zH (D3.out.below hb);have B4:=zH (B3.out.trans (hb.mono B3.out.size));have X4:=zH (X1.out.below B4.out);have BW:=zH (B1.out.trans (B4.out.mono B1.out.size));have HN:Hid (decide (0 < (nd (n / n.gcd m)).length) = decide (n / n.gcd m ≠ 0)):=zH (by
  rw [decide_eq_decide,Nat.pos_iff_ne_zero];exact not_congr Jw)
 clear d1 d2 hb DN DM DG D3 B1 B2 B3 B4 X1;obtain ⟨k0,k1,k2,f0,f1,f2⟩:=X4.out.facts;have HL:∀ b:Bool,b = (neg && decide (0 < (nd (n / n.gcd m)).length)) -> b = qs (fq neg n m):=fun b hb=>by rw [hb,HP1.out,HN.out,HZ.out]
 have HLH:=zH HL;clear HL;have fin:∀ b:Bool,b = (neg && decide (0 < (nd (n / n.gcd m)).length)) -> Qh (fq neg n m) w (.returned (.agg #[.bool b,.slice A3 (nd (n / n.gcd m)).length c3,.slice A4 (nd (m / n.gcd m)).length c4])) (((w4.setCell ⟨w.heap.size,0,none⟩ (.bool b)).setCell ⟨w.heap.size,1,none⟩ (.slice A3 (nd (n / n.gcd m)).length c3)).setCell ⟨w.heap.size,2,none⟩ (.slice A4 (nd (m / n.gcd m)).length c4)):=fun b hb=>by
  rw [<- HP2.out,<- HP3.out] at *
  exact ⟨⟨b,A3,c3,_,A4,c4,_⟩,rfl,Nm.mk' (HLH.out b hb) (XG D3'.out X4.out _ _ _) (XG D4.out X4.out _ _ _),Jj BW.out nR _ _ _⟩
 have FIN:=zH fin;clear fin HLH HN HZ HP1 HP2 HP3;generalize (nd (n / n.gcd m)).length = ln at *
 generalize (nd (m / n.gcd m)).length = lm at *
 cases neg with
 | false=>
  go_wp2_with fail;obtain ⟨e0,e1,e2⟩:=Z6 (.bool false) (.slice A3 ln c3) (.slice A4 lm c4) k0 k1 k2;refine bodyPost_ret (v:=.agg #[.bool false,.slice A3 ln c3,.slice A4 lm c4]) (by simp [results,Tryz.results128,go_sem,e0,e1,e2]) rfl ?_;exact FIN.out false (by simp)
 | true=>
  have q:decide ((0:Int) < (ln:Int)) = decide (0 < ln):=by simp
  go_wp2_with fail;obtain ⟨e0,e1,e2⟩:=Z6 (.bool (decide (0 < ln))) (.slice A3 ln c3) (.slice A4 lm c4) k0 k1 k2;refine bodyPost_ret (v:=.agg #[.bool (decide (0 < ln)),.slice A3 ln c3,.slice A4 lm c4]) (by simp [results,Tryz.results128,go_sem,e0,e1,e2]) rfl ?_;exact FIN.out (decide (0 < ln)) (by simp)
theorem al2 (w:World) (o1 o2:Obj):Below w.heap.size w ((w.alloc o1).alloc o2):=(bR.alloc nR _).alloc (by simp) _
theorem Zfi (x:Fr) (q:Rat) (w:World) (hx:Nm w x q) (q0:q ≠ 0):Calls Tryz.prog 167 #[x.val] w (Qh q⁻¹ w):=by
 obtain ⟨xn,xA,xc,xN,xB,xd,xD⟩:=x;obtain ⟨h1,h2,h3,hN,hD⟩:=hx;simp only at h1 h2 h3 hN hD;subst h1 h2 h3;simp only [Fr.val];obtain ⟨i1,i2,i3⟩:=UV q0;have HN:=zH hN;have HD:=zH hD;have HI1:=zH i1;have HI2:=zH i2;have HI3:=zH i3;clear hN hD i1 i2 i3 q0;go_enter Tryz.func167,Tryz.ntmps167;go_wp2_with fail;refine bodyPost_ret (v:=.agg #[.bool (qs q),.slice xB (nd q.den).length xd,.slice xA (nd (qn q)).length xc]) (by simp [results,Tryz.results167,go_sem]) rfl ?_;refine ⟨⟨qs q,xB,xd,_,xA,xc,_⟩,rfl,⟨HI1.out.symm,by rw [HI2.out],by rw [HI3.out],?_,?_⟩,al2 w _ _⟩
 ·rw [HI2.out];exact HD.out.below (al2 w _ _)
 ·rw [HI3.out];exact HN.out.below (al2 w _ _)
theorem ZaY (x:Fr) (q:Rat) (w:World) (hx:Nm w x q) (b:Bool) (hb:Hid (decide (q = 0) = b)):Calls Tryz.prog 129 #[x.val] w fun e w'=>e = .returned (.bool b) /\ Below w.heap.size w w':=by
 obtain ⟨xn,xA,xc,xN,xB,xd,xD⟩:=x;obtain ⟨h1,h2,h3,hN,hD⟩:=hx;simp only at h1 h2 h3 hN hD;subst h1 h2 h3;simp only [Fr.val];have HB:Hid (b = (((nd (qn q)).length:Int) == 0)):=zH (by
  rw [<- hb.out,Bool.eq_iff_iff];simp only [decide_eq_true_eq,beq_iff_eq];rw [<- Zd4,<- Jw];omega)
 generalize (nd (qn q)).length = m at *
 generalize (nd q.den).length = m2 at *
 clear hN hD;go_enter Tryz.func129,Tryz.ntmps129;go_wp2_with fail;go_ret;exact ⟨Jr (by rw [HB.out]),bR.alloc nR _⟩
theorem ZaZ (x:Fr) (q:Rat) (w:World) (hx:Nm w x q) (r:Int) (hr:Hid (YZ q = r)):Calls Tryz.prog 64 #[x.val] w fun e w'=>e = .returned (.int .i64 r) /\ Below w.heap.size w w':=by
 have Z0:=zH (ZaY x q (w.alloc (.cells #[.bool x.neg,.slice x.A x.N.length x.c,.slice x.B x.D.length x.d] 119)) (hx.below (bR.alloc nR _)) (decide (q = 0)) (zH rfl));have HS:Hid (qs q = decide (q.num < 0)):=zH rfl;have HQ:Hid (r = if q.num < 0 then -1 else if q.num = 0 then 0 else 1):=zH hr.out.symm;have HE:Hid (q = 0 ↔ q.num = 0):=zH Rat.num_eq_zero.symm;obtain ⟨xn,xA,xc,xN,xB,xd,xD⟩:=x;obtain ⟨h1,h2,h3,hN,hD⟩:=hx;simp only at h1 h2 h3 hN hD;subst h1 h2 h3;simp only [Fr.val];have HC:Hid (∀ W,Below (w.alloc (.cells #[.bool (qs q),.slice xA (nd (qn q)).length xc,.slice xB (nd q.den).length xd] 119)).heap.size (w.alloc (.cells #[.bool (qs q),.slice xA (nd (qn q)).length xc,.slice xB (nd q.den).length xd] 119)) W -> W.cell? ⟨w.heap.size,0,none⟩ = some (.bool (qs q))):=zH (fun W hW=>(hW.cell (p:=⟨w.heap.size,0,none⟩) (by simp)).trans (by simp [go_sem]));simp only [Fr.val] at Z0;generalize (nd (qn q)).length = m at *
 generalize (nd q.den).length = m2 at *
 clear hN hD hr;by_cases h0:q = 0
 ·have hd:decide (q = 0) = true:=decide_eq_true h0;have HR:Hid (r = 0):=zH (by rw [HQ.out,(HE.out.1 h0)];rfl);rw [hd] at Z0;clear HQ HE hd HS h0;go_enter Tryz.func64,Tryz.ntmps64;go_wp2_with fail;refine Z0.out.mono ?_;rintro e w' ⟨rfl,hb⟩;have HB:=zH hb;clear hb Z0 HC;go_wp2_with fail;go_ret;exact ⟨JX (by rw [HR.out]),(Below.refl w.heap.size w).alloc nR _ |>.trans (HB.out.mono (by simp))⟩
 ·have hd:decide (q = 0) = false:=dF h0;have h1:¬ q.num = 0:=fun h=>h0 (HE.out.2 h);rw [hd] at Z0;by_cases hn:q.num < 0
  ·have HR:Hid (r = -1):=zH (by rw [HQ.out,if_pos hn]);have hs:qs q = true:=(by rw [HS.out];exact decide_eq_true hn);rw [hs] at HC Z0 ⊢;clear HQ HE hd HS h0 h1 hn hs;go_enter Tryz.func64,Tryz.ntmps64;go_wp2_with fail;refine Z0.out.mono ?_;rintro e w' ⟨rfl,hb⟩;have HB:=zH hb;have c0:=HC.out _ hb;clear hb Z0 HC;go_wp2_with fail;go_ret;exact ⟨JX (by rw [HR.out]),(Below.refl w.heap.size w).alloc nR _ |>.trans (HB.out.mono (by simp))⟩
  ·have HR:Hid (r = 1):=zH (by rw [HQ.out,if_neg hn,if_neg h1]);have hs:qs q = false:=(by rw [HS.out];exact dF hn);rw [hs] at HC Z0 ⊢;clear HQ HE hd HS h0 h1 hn hs;go_enter Tryz.func64,Tryz.ntmps64;go_wp2_with fail;refine Z0.out.mono ?_;rintro e w' ⟨rfl,hb⟩;have HB:=zH hb;have c0:=HC.out _ hb;clear hb Z0 HC;go_wp2_with fail;go_ret;exact ⟨JX (by rw [HR.out]),(Below.refl w.heap.size w).alloc nR _ |>.trans (HB.out.mono (by simp))⟩
theorem Zc0 (x:Fr) (q:Rat) (w:World) (hx:Nm w x q):Calls Tryz.prog 66 #[x.val] w (Qh (-q) w):=by
 obtain ⟨xn,xA,xc,xN,xB,xd,xD⟩:=x;obtain ⟨h1,h2,h3,hN,hD⟩:=hx;simp only at h1 h2 h3 hN hD;subst h1 h2 h3;simp only [Fr.val];have HN:=zH hN;have HD:=zH hD;have HI1:Hid (∀ b,b = (!qs q && decide (0 < (nd (qn q)).length)) -> b = qs (-q)):=zH (fun b hb=>by
  rw [hb,Zh4];congr 1;rw [decide_eq_decide,Nat.pos_iff_ne_zero];exact not_congr Jw)
 have HI2:=zH (Zgy q);have HI3:=zH (ZeW q);have fin:∀ b,b = (!qs q && decide (0 < (nd (qn q)).length)) -> Qh (-q) w (.returned (.agg #[.bool b,.slice xA (nd (qn q)).length xc,.slice xB (nd q.den).length xd])) ((w.alloc (.cells #[.bool (qs q),.slice xA (nd (qn q)).length xc,.slice xB (nd q.den).length xd] 119)).alloc (.cells #[.bool b,.slice xA (nd (qn q)).length xc,.slice xB (nd q.den).length xd] 119)):=fun b hb=>
  ⟨⟨b,xA,xc,_,xB,xd,_⟩,rfl,⟨HI1.out b hb,by rw [HI2.out],by rw [HI3.out],by rw [HI2.out];exact HN.out.below (al2 w _ _),by rw [HI3.out];exact HD.out.below (al2 w _ _)⟩,al2 w _ _⟩
 have FIN:=zH fin;clear fin hN hD HN HD HI1 HI2 HI3;generalize hs:qs q = s at *
 generalize (nd (qn q)).length = m at *
 generalize (nd q.den).length = m2 at *
 cases s with
 | true=>
  go_enter Tryz.func66,Tryz.ntmps66;go_wp2_with fail;refine bodyPost_ret (v:=.agg #[.bool false,.slice xA m xc,.slice xB m2 xd]) (by simp [results,Tryz.results66,go_sem]) rfl ?_;exact FIN.out false (by simp)
 | false=>
  go_enter Tryz.func66,Tryz.ntmps66;go_wp2_with fail;refine bodyPost_ret (v:=.agg #[.bool (decide (0 < m)),.slice xA m xc,.slice xB m2 xd]) (by simp [results,Tryz.results66,go_sem]) rfl ?_;exact FIN.out (decide (0 < m)) (by simp)
theorem Zbr (z:Int):qs (z:Rat) = decide (z < 0) /\ qn (z:Rat) = z.natAbs /\ (z:Rat).den = 1:=⟨by unfold qs;rw [Rat.num_intCast],by unfold qn;rw [Rat.num_intCast],Rat.den_intCast z⟩
theorem VK (z:Int) (w:World) (h1 : -9223372036854775808 <= z) (h2:z <= 9223372036854775807):Calls Tryz.prog 135 #[.int .i64 z] w (Qh (z:Rat) w):=by
 obtain ⟨p1,p2,p3⟩:=Zbr z;have HP1:=zH p1;have HP2:=zH p2;have HP3:=zH p3;clear p1 p2 p3;have S1:=zH (fun W=>Yi z.natAbs W (by omega));have S2:=zH (fun W=>Yi 1 W (by omega));have X0:=zH (Bt.new 119 w);have B0:Hid (Below w.heap.size w (w.alloc (.cells #[.bool false,.slice none 0 0,.slice none 0 0] 119))):=zH (bR.alloc nR _);by_cases hz:z < 0
 ·have hc:((z.natAbs:Nat):Int) = -z:=by omega
  have HB:Hid (true = qs (z:Rat)):=zH (by rw [HP1.out];exact (decide_eq_true hz).symm);rw [hc] at S1;have k1 : -(z + 1) + 1 = -z:=by omega
  go_enter Tryz.func135,Tryz.ntmps135;go_wp2_with fail;refine (S1.out _).mono ?_;rintro e w2 ⟨A1,c1,rfl,s1,s2,s3,s4⟩;have D1:=zH (JB s1 s2 s3);have B1:=zH (B0.out.trans (s4.mono B0.out.size));have X1:=zH (X0.out.below s4);clear s1 s2 s3 s4 S1;go_wp2_with fail;refine (S2.out _).mono ?_;rintro e w3 ⟨A2,c2,rfl,s1,s2,s3,s4⟩;have D2:=zH (JB s1 s2 s3);have D1':=zH (D1.out.below s4);have B2:=zH (B1.out.trans (s4.mono B1.out.size));have X2:=zH (X1.out.below s4);clear s1 s2 s3 s4 S2 D1 B1 X1 B0 X0;obtain ⟨k0,k1',k2,f0,f1,f2⟩:=X2.out.facts;go_wp2_with fail;obtain ⟨e0,e1,e2⟩:=Z6 (.bool true) (.slice A1 (nd z.natAbs).length c1) (.slice A2 (nd 1).length c2) k0 k1' k2;refine bodyPost_ret (v:=.agg #[.bool true,.slice A1 (nd z.natAbs).length c1,.slice A2 (nd 1).length c2]) (by simp [results,Tryz.results135,go_sem,e0,e1,e2]) rfl ?_;refine ⟨⟨true,A1,c1,_,A2,c2,_⟩,rfl,⟨HB.out,by rw [HP2.out],by rw [HP3.out],?_,?_⟩,Jj B2.out nR _ _ _⟩
  ·rw [HP2.out];exact XG D1'.out X2.out _ _ _
  ·rw [HP3.out];exact XG D2.out X2.out _ _ _
 ·have hc:((z.natAbs:Nat):Int) = z:=by omega
  have HB:Hid (false = qs (z:Rat)):=zH (by rw [HP1.out];exact (dF hz).symm);rw [hc] at S1;go_enter Tryz.func135,Tryz.ntmps135;go_wp2_with fail;refine (S1.out _).mono ?_;rintro e w2 ⟨A1,c1,rfl,s1,s2,s3,s4⟩;have D1:=zH (JB s1 s2 s3);have B1:=zH (B0.out.trans (s4.mono B0.out.size));have X1:=zH (X0.out.below s4);clear s1 s2 s3 s4 S1;go_wp2_with fail;refine (S2.out _).mono ?_;rintro e w3 ⟨A2,c2,rfl,s1,s2,s3,s4⟩;have D2:=zH (JB s1 s2 s3);have D1':=zH (D1.out.below s4);have B2:=zH (B1.out.trans (s4.mono B1.out.size));have X2:=zH (X1.out.below s4);clear s1 s2 s3 s4 S2 D1 B1 X1 B0 X0;obtain ⟨k0,k1',k2,f0,f1,f2⟩:=X2.out.facts;go_wp2_with fail;obtain ⟨e0,e1,e2⟩:=Z6 (.bool false) (.slice A1 (nd z.natAbs).length c1) (.slice A2 (nd 1).length c2) k0 k1' k2;refine bodyPost_ret (v:=.agg #[.bool false,.slice A1 (nd z.natAbs).length c1,.slice A2 (nd 1).length c2]) (by simp [results,Tryz.results135,go_sem,e0,e1,e2]) rfl ?_;refine ⟨⟨false,A1,c1,_,A2,c2,_⟩,rfl,⟨HB.out,by rw [HP2.out],by rw [HP3.out],?_,?_⟩,Jj B2.out nR _ _ _⟩
  ·rw [HP2.out];exact XG D1'.out X2.out _ _ _
  ·rw [HP3.out];exact XG D2.out X2.out _ _ _
theorem Qd {B:Nat} {w w':World} (h:Below B w w'):Below B w w'.drew:=⟨h.os,h.tape,h.output,h.size,h.block⟩
theorem VN (w:World) (o1 o2:Obj):((w.alloc o1).alloc o2).drew.heap[w.heap.size]? = some o1:=(Below.heap_alloc _ _ _ (by simp)).trans (heap_alloc_new w _)
theorem VM (w:World) (o1 o2:Obj):((w.alloc o1).alloc o2).drew.heap[w.heap.size + 1]? = some o2:=by
 have h:=heap_alloc_new (w.alloc o1) o2;rw [show (w.alloc o1).heap.size = w.heap.size + 1 by simp] at h;exact h
theorem ZaO (o v o2 v2:Int) (A B:Option Addr) (c d:Nat) (L M:List Gm) (w:World) (hL:Tb w A L) (hM:Tb w B M) (hn:L.length <= 1000000) (_hm:M.length <= 1000000) (r:Bool) (hr:Hid (decide (o = o2 /\ v = v2 /\ Jf L = Jf M) = r)) :
  Calls Tryz.prog 49 #[.agg #[.int .i64 o,.int .i64 v,.slice A L.length c],.agg #[.int .i64 o2,.int .i64 v2,.slice B M.length d]] w (ZcY r w):=by
 obtain ⟨W,hW⟩:∃ W:World,W = (w.alloc (.cells #[.int .i64 o,.int .i64 v,.slice A L.length c] 84)).alloc (.cells #[.int .i64 o2,.int .i64 v2,.slice B M.length d] 84):=⟨_,rfl⟩;have HB0:Hid (Below w.heap.size w W):=zH (by rw [hW];exact al2 w _ _);have hWs:W.heap.size = w.heap.size + 2:=by rw [hW];simp
 have HC:Hid (∀ u,Below W.heap.size W u -> u.cell? ⟨w.heap.size,0,none⟩ = some (.int .i64 o) /\ u.cell? ⟨w.heap.size,1,none⟩ = some (.int .i64 v) /\ u.cell? ⟨w.heap.size,2,none⟩ = some (.slice A L.length c) /\
   u.cell? ⟨w.heap.size + 1,0,none⟩ = some (.int .i64 o2) /\ u.cell? ⟨w.heap.size + 1,1,none⟩ = some (.int .i64 v2) /\ u.cell? ⟨w.heap.size + 1,2,none⟩ = some (.slice B M.length d)):=zH (fun u hu=>by
  have hs:w.heap.size < W.heap.size:=by omega
  have hs2:w.heap.size + 1 < W.heap.size:=by omega
  rw [hu.cell (p:=⟨w.heap.size,0,none⟩) hs,hu.cell (p:=⟨w.heap.size,1,none⟩) hs,hu.cell (p:=⟨w.heap.size,2,none⟩) hs,hu.cell (p:=⟨w.heap.size + 1,0,none⟩) hs2,hu.cell (p:=⟨w.heap.size + 1,1,none⟩) hs2,hu.cell (p:=⟨w.heap.size + 1,2,none⟩) hs2,hW];simp [go_sem])
 have HTL:Hid ((Jf L).length = L.length /\ (Jf M).length = M.length):=zH (by simp);have HL:=zH (hL.below HB0.out);have HM:=zH (hM.below HB0.out);have HRW:=zH (Below.refl W.heap.size W);obtain ⟨c0,c1,c2,c3,c4,c5⟩:=HC.out W HRW.out;have HWS:=zH hWs;clear hL hM hWs;by_cases e1:o = o2
 ·by_cases e2:v = v2
  ·by_cases e3:L.length = M.length
   ·subst e1 e2;have E3:=zH e3;have HR:Hid (decide (Jf L = Jf M) = r):=zH (by rw [<- hr.out];simp);rw [<- e3] at c5 HC hW;have q3:((L.length:Int) != (M.length:Int)) = false:=(by simp [e3]);have q3':((L.length:Int) != (L.length:Int)) = false:=(by simp);go_enter Tryz.func49,Tryz.ntmps49;rw [<- e3];clear e3 hr q3;go_wp2_with fail;rw [<- hW];clear hW c0 c1 c2 c3 c4 c5;go_loopw [5] (fun i wr=>∃ k:Nat,k <= L.length /\ i = .int .i64 k /\ Hid ((Jf L).take k = (Jf M).take k) /\ Hid (Below W.heap.size W wr)) (fun i _=>L.length - (intOf i).toNat)
    case atStart=>exact ⟨0,by omega,rfl,zH (by simp),HRW⟩
    case round=>
     obtain ⟨k,hk,rfl,HOK,HW⟩:=hrel;obtain ⟨c0,c1,c2,c3,c4,c5⟩:=HC.out _ HW.out;by_cases hlt:k < L.length
     ·have hlm:k < M.length:=(by rw [<- E3.out];exact hlt);obtain ⟨bk,off,rfl,hbk,hcw,hcn⟩:=(HL.out.below HW.out).at_ hlt;obtain ⟨bm,ofm,rfl,hbm,hdw,hdn⟩:=(HM.out.below HW.out).at_ hlm;have HX:=zH ((HL.out.below HW.out).inn _ (yM hlt));have HY:=zH ((HM.out.below HW.out).inn _ (yM hlm));have HT:Hid ((Jf L).take (k + 1) = (Jf L).take k ++ [(L[k].1.2.2,L[k].2)] /\ (Jf M).take (k + 1) = (Jf M).take k ++ [(M[k].1.2.2,M[k].2)]):=zH ⟨by rw [List.take_succ_eq_append_getElem (by rw [HTL.out.1];exact hlt)];simp,by rw [List.take_succ_eq_append_getElem (by rw [HTL.out.2];exact hlm)];simp⟩;have HNO:Hid ((L[k].1.2.2,L[k].2) ≠ (M[k].1.2.2,M[k].2) -> r = false):=zH (fun hne=>by
       rw [<- HR.out];refine dF fun e=>hne ?_;have h1:(Jf L)[k]? = (Jf M)[k]?:=(by rw [e]);rw [List.getElem?_map,List.getElem?_map,gE hlt,gE hlm] at h1;simpa using h1)
      have hws:w.heap.size < wr.heap.size:=(by have:=HW.out.size;have:=HWS.out;omega);have hws2:w.heap.size + 1 < wr.heap.size:=(by have:=HW.out.size;have:=HWS.out;omega)

      generalize L[k] = g at *
      generalize M[k] = g' at *
      obtain ⟨⟨XA,Xc,xl⟩,xn⟩:=g;obtain ⟨⟨YA,Yc,yl⟩,yn⟩:=g';simp only at *
      go_upto_region 6 with fail;go_cut [6,7] from 29 to 67 (fun t6 t7 wx=>∃ k6 k7,t6 = .pointer (some ⟨k6,0,none⟩) /\ t7 = .pointer (some ⟨k7,0,none⟩) /\ wx.heap[k6]? = some (.cells #[.slice XA xl.length Xc,.int .i64 xn] 114 (0,0)) /\ wx.heap[k7]? = some (.cells #[.slice YA yl.length Yc,.int .i64 yn] 114 (0,0)) /\ Below wr.heap.size wr wx)
      case first=>
       go_region;all_goals (go_wp2_with fail;go_meet)
       ·exact ⟨_,_,rfl,rfl,VN _ _ _,VM _ _ _,Qd (al2 _ _ _)⟩
       ·exact ⟨_,_,rfl,rfl,VM _ _ _,VN _ _ _,Qd (al2 _ _ _)⟩
      case rest=>
       obtain ⟨k6,k7,rfl,rfl,h6,h7,hbx⟩:=hcut;have HBX:=zH hbx;have HWX:=zH (HW.out.trans (hbx.mono HW.out.size));have HBF:=zH (HB0.out.trans (HWX.out.mono HB0.out.size));have HX1:Hid (Lies wc XA (ics xl)):=zH (HX.out.1.below hbx);have HY1:Hid (Lies wc YA (ics yl)):=zH (HY.out.1.below hbx);have d0:wc.cell? ⟨k6,0,none⟩ = some (.slice XA xl.length Xc):=(cR 0 h6).trans rfl;have d1:wc.cell? ⟨k6,1,none⟩ = some (.int .i64 xn):=(cR 1 h6).trans rfl;have d2:wc.cell? ⟨k7,0,none⟩ = some (.slice YA yl.length Yc):=(cR 0 h7).trans rfl;have d3:wc.cell? ⟨k7,1,none⟩ = some (.int .i64 yn):=(cR 1 h7).trans rfl;have hxn:xl.length <= 9223372036854775807:=HX.out.2.2.1;have hyn:yl.length <= 9223372036854775807:=HY.out.2.2.1;clear h6 h7 hbx c0 c1 c2 c3 c4 c5 hcw hcn hdw hdn;by_cases a1:xn = yn
       ·have q1:(xn != yn) = false:=(by simp [a1]);by_cases a2:xl.length = yl.length
        ·have q2:((xl.length:Int) != (yl.length:Int)) = false:=(by simp [a2]);obtain ⟨s,hs⟩:∃ s,s = J3 xl yl:=⟨_,rfl⟩;have HC0:=zH (QJ XA YA Xc Yc xl yl wc HX1.out HY1.out a2 hxn s (zH hs.symm));by_cases a3:s = 0
         ·have HOK2:Hid ((Jf L).take (k + 1) = (Jf M).take (k + 1)):=zH (by rw [HT.out.1,HT.out.2,HOK.out,a1,Xn.1 (hs.symm.trans a3)]);have q3:(s != 0) = false:=(by simp [a3]);clear hs a3 HNO HT HOK a1 a2;go_wp2_with fail;refine HC0.out.mono ?_;rintro e w2 ⟨rfl,n,rfl⟩;go_wp2_with fail;exact ⟨⟨k + 1,by omega,by go_num,HOK2,zH (HWX.out.drw _)⟩,by simp [intOf];omega⟩
         ·have hz:=HNO.out (fun e=>a3 (hs.trans (Xn.2 (congrArg Prod.fst e))));subst hz;have q3:(s != 0) = true:=(by simp [a3]);clear hs a3 HNO HT HOK a1 a2;go_wp2_with fail;refine HC0.out.mono ?_;rintro e w2 ⟨rfl,n,rfl⟩;go_wp2_with fail;go_ret;exact ⟨rfl,HBF.out.drw _⟩
        ·have hz:=HNO.out (fun e=>a2 (congrArg (fun z:List Int × Int=>z.1.length) e));subst hz;have q2:((xl.length:Int) != (yl.length:Int)) = true:=(by simp;omega);clear HNO HT HOK a1;go_wp2_with fail;go_ret;exact ⟨rfl,HBF.out⟩
       ·have hz:=HNO.out (fun e=>a1 (congrArg Prod.snd e));subst hz;have q1:(xn != yn) = true:=(by simp [a1]);clear HNO HT HOK;go_wp2_with fail;go_ret;exact ⟨rfl,HBF.out⟩
     ·obtain rfl:k = L.length:=(by omega);have hz:r = true:=by
       rw [<- HR.out];refine decide_eq_true ?_;have:=HOK.out
       rwa [List.take_of_length_le (by rw [HTL.out.1];exact Nat.le_refl _),List.take_of_length_le (by rw [HTL.out.2,E3.out];exact Nat.le_refl _)] at this
      subst hz;go_wp2_with fail;go_ret;exact ⟨rfl,HB0.out.trans (HW.out.mono HB0.out.size)⟩
   ·have hz:r = false:=by
     rw [<- hr.out];refine dF fun e=>e3 ?_;rw [<- HTL.out.1,<- HTL.out.2,e.2.2]
    subst hz;have q3:((L.length:Int) != (M.length:Int)) = true:=(by simp;omega);subst e1 e2;go_enter Tryz.func49,Tryz.ntmps49;go_wp2_with fail;go_ret;exact ⟨rfl,by rw [<- hW];exact HB0.out⟩
  ·have hz:r = false:=by rw [<- hr.out];exact dF fun e=>e2 e.2.1
   subst hz;have q2:(v != v2) = true:=(by simp [e2]);subst e1;go_enter Tryz.func49,Tryz.ntmps49;go_wp2_with fail;go_ret;exact ⟨rfl,by rw [<- hW];exact HB0.out⟩
 ·have hz:r = false:=by rw [<- hr.out];exact dF fun e=>e1 e.1
  subst hz;have q1:(o != o2) = true:=by simp [e1]
  go_enter Tryz.func49,Tryz.ntmps49;go_wp2_with fail;go_ret;exact ⟨rfl,by rw [<- hW];exact HB0.out⟩
abbrev Stp:=Int × Inn × Int
abbrev ZdB (L:List Stp):List Value:=L.flatMap fun s=>[Value.int .i64 s.1,Value.slice s.2.1.1 s.2.1.2.2.length s.2.1.2.1,Value.int .i64 s.2.2]
theorem ZbT (L:List Stp):(ZdB L).length = L.length * 3:=by
 induction L with
 | nil=>rfl
 | cons g L ih=>simp [ZdB] at ih ⊢;omega
theorem Zcx:∀ (L:List Stp) {k:Nat} (hk:k < L.length),(ZdB L)[k * 3]? = some (.int .i64 L[k].1) /\ (ZdB L)[k * 3 + 1]? = some (.slice L[k].2.1.1 L[k].2.1.2.2.length L[k].2.1.2.1) /\ (ZdB L)[k * 3 + 2]? = some (.int .i64 L[k].2.2)
 | [],k,hk=>by simp at hk
 | g :: L,0,_=>by simp [ZdB]
 | g :: L,k + 1,hk=>by
  have:=Zcx L (k:=k) (by simpa using hk);rw [show (k + 1) * 3 = k * 3 + 1 + 1 + 1 by omega];simpa [ZdB] using this
theorem Lies.stp {w:World} {A:Option Addr} {L:List Stp} (h:Lies w A (ZdB L)) {k:Nat} (hk:k < L.length) :
  ∃ b off,A = some ⟨b,off,none⟩ /\ b < w.heap.size /\ w.cell? ⟨b,off + k * 3,none⟩ = some (.int .i64 L[k].1) /\ w.cell? ⟨b,off + k * 3 + 1,none⟩ = some (.slice L[k].2.1.1 L[k].2.1.2.2.length L[k].2.1.2.1) /\ w.cell? ⟨b,off + k * 3 + 2,none⟩ = some (.int .i64 L[k].2.2):=by
 obtain ⟨b,off,e,hlt,hc⟩:=h (by rw [ZbT];omega);obtain ⟨h1,h2,h3⟩:=Zcx L hk;exact ⟨b,off,e,hlt,hc _ _ h1,by rw [Nat.add_assoc];exact hc _ _ h2,by rw [Nat.add_assoc];exact hc _ _ h3⟩
def ZgB (n:Nat):Bool:=(decide (8 < n) && decide (n <= 500)) || decide (600 < n)
def QS (n:Nat) (ns:List Nat) (m:Int):Bool:=decide (n <= 60) && decide ((ns.length:Int) <= m) && ns.all (fun k=>!ZgB k)
theorem ZdW (o v:Int) (TA A:Option Addr) (tc n c:Nat) (L:List Stp) (m:Int) (w:World) (h:Lies w A (ZdB L)) (hn:L.length <= 9223372036854775807) (hnn:n <= 9223372036854775807) (hln:Hid (∀ s ∈ L,s.2.1.2.2.length <= 9223372036854775807)) (r:Bool) (hr:Hid (QS n (L.map fun s=>s.2.1.2.2.length) m = r)) :
  Calls Tryz.prog 40 #[.agg #[.int .i64 o,.int .i64 v,.slice TA n tc],.slice A L.length c,.int .i64 m] w (ZcY r w):=by
 obtain ⟨W,hW⟩:∃ W:World,W = w.alloc (.cells #[.int .i64 o,.int .i64 v,.slice TA n tc] 84):=⟨_,rfl⟩;have HB0:Hid (Below w.heap.size w W):=zH (by rw [hW];exact bR.alloc nR _);have HL:=zH (h.below HB0.out);clear h;by_cases h1 : 60 < n
 ·have hz:r = false:=by rw [<- hr.out];unfold QS;rw [dF (by omega:¬ n <= 60)];rfl
  subst hz;go_enter Tryz.func40,Tryz.ntmps40;go_wp2_with fail;go_ret;exact ⟨rfl,by rw [<- hW];exact HB0.out⟩
 ·by_cases h2:m < (L.length:Int)
  ·have hz:r = false:=by rw [<- hr.out];unfold QS;rw [List.length_map,dF (by omega:¬ (L.length:Int) <= m)];simp
   subst hz;go_enter Tryz.func40,Tryz.ntmps40;go_wp2_with fail;go_ret;exact ⟨rfl,by rw [<- hW];exact HB0.out⟩
  ·have HR:Hid ((L.map fun s=>s.2.1.2.2.length).all (fun k=>!ZgB k) = r):=zH (by
    rw [<- hr.out];unfold QS;rw [List.length_map,decide_eq_true (by omega:n <= 60),decide_eq_true (by omega:(L.length:Int) <= m)];simp)
   clear hr;go_enter Tryz.func40,Tryz.ntmps40;go_wp2_with fail;rw [<- hW];clear hW;go_loop [7] (fun i=>∃ k:Nat,k <= L.length /\ i = .int .i64 k /\ Hid (((L.map fun s=>s.2.1.2.2.length).take k).all (fun k=>!ZgB k) = true)) (fun i=>L.length - (intOf i).toNat)
   case atStart=>exact ⟨0,by omega,rfl,zH (by simp)⟩
   case round=>
    obtain ⟨k,hk,rfl,HOK⟩:=hrel;by_cases hlt:k < L.length
    ·obtain ⟨b,off,rfl,hb,hc0,hc1,hc2⟩:=HL.out.stp hlt;have hxn:=hln.out _ (yM hlt);have HT:Hid (((L.map fun s=>s.2.1.2.2.length).take (k + 1)) = ((L.map fun s=>s.2.1.2.2.length).take k) ++ [L[k].2.1.2.2.length]):=zH (by rw [List.take_succ_eq_append_getElem (by simpa using hlt)];simp);have HF:Hid (ZgB L[k].2.1.2.2.length = true -> r = false):=zH (fun hb=>by
      rw [<- HR.out,List.all_eq_false];exact ⟨_,List.mem_map_of_mem (f:=fun s:Stp=>s.2.1.2.2.length) (yM hlt),by simp [hb]⟩)
     generalize L[k] = g at *
     obtain ⟨sk,⟨SA,Sc,sl⟩,st⟩:=g;simp only at *
     generalize sl.length = N at *
     by_cases hm:ZgB N = true
     ·have hz:=HF.out hm;subst hz;unfold ZgB at hm;simp only [Bool.or_eq_true,Bool.and_eq_true,decide_eq_true_eq] at hm;rcases (show (8 < N /\ N <= 500) ∨ (8 < N /\ ¬ N <= 500 /\ 600 < N) by omega) with ⟨m1,m2⟩ | ⟨m1,m2,m3⟩
      ·clear hm HF HT HOK HR;go_wp2_with fail;go_ret;exact ⟨rfl,HB0.out⟩
      ·clear hm HF HT HOK HR;go_wp2_with fail;go_ret;exact ⟨rfl,HB0.out⟩
     ·have HOK2:Hid (((L.map fun s=>s.2.1.2.2.length).take (k + 1)).all (fun k=>!ZgB k) = true):=zH (by rw [HT.out,List.all_append,HOK.out];simpa using hm);unfold ZgB at hm;simp only [Bool.or_eq_true,Bool.and_eq_true,decide_eq_true_eq] at hm;rcases (show (¬ 8 < N) ∨ (8 < N /\ ¬ N <= 500 /\ ¬ 600 < N) by omega) with m1 | ⟨m1,m2,m3⟩
      ·have m4:¬ 600 < N:=(by omega);clear hm HF HT HOK HR;go_wp2_with fail;exact ⟨⟨k + 1,by omega,by go_num,HOK2⟩,by simp [intOf];omega⟩
      ·clear hm HF HT HOK HR;go_wp2_with fail;exact ⟨⟨k + 1,by omega,by go_num,HOK2⟩,by simp [intOf];omega⟩
    ·obtain rfl:k = L.length:=(by omega);have hz:r = true:=by
      rw [<- HR.out];have:=HOK.out
      rwa [List.take_of_length_le (by simp)] at this
     subst hz;go_wp2_with fail;go_ret;exact ⟨rfl,HB0.out⟩
end Go.Proofs.YtcjicjfbippmnaaGreat
