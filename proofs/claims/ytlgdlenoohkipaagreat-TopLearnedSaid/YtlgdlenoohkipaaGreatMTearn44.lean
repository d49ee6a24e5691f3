/- TopLearned -/
import Derived.Test.YtlgdlenoohkipaaGreatMTearn40
import Derived.Test.YtlgdlenoohkipaaGreatMTearn43
set_option maxRecDepth 100000
set_option maxHeartbeats 32000000
namespace Go.Proofs.YtlgdlenoohkipaaGreat
open Go.RowKit Ear

def ZgF (o:Nat) (s:List Int) (k:Nat):List Int:=((YE o s).drop k).take (o - 1)
theorem Zbc {o:Nat} (s:List Int) (k:Nat):(Jt o s k).take (o - 1) = ZgF o s k:=by
 unfold Jt ZgF;rw [List.take_take,Nat.min_eq_left (by omega)]
theorem Zfa {o:Nat} (s:List Int):ZgF o s 0 = List.replicate (o - 1) 0:=by
 unfold ZgF YE;rw [List.drop_zero,List.append_assoc,List.take_left' (by simp)]
theorem Zfb {o:Nat} (ho : 2 <= o) (s:List Int) {k:Nat} (hk:k < s.length):ZgF o s (k + 1) = (ZgF o s k).drop 1 ++ [(s[k]?.getD 0)]:=by
 have hf:(YE o s)[k + (o - 1)]? = some (s[k]?.getD 0):=by
  unfold YE;rw [List.append_assoc,List.getElem?_append_right (by simp),List.length_replicate,show k + (o - 1) - (o - 1) = k by omega,List.getElem?_append_left hk,gE hk];rfl
 unfold ZgF;generalize YE o s = F at hf ⊢;apply List.ext_getElem?;intro i;rw [List.getElem?_take];by_cases hi:i < o - 1
 ·rw [if_pos hi,List.getElem?_drop];by_cases h2:i < o - 2
  ·rw [List.getElem?_append_left (by
    have hl:=(List.getElem?_eq_some_iff.1 hf).1;simp only [List.length_drop,List.length_take];omega),List.getElem?_drop,List.getElem?_take,if_pos (by omega),List.getElem?_drop]
   congr 1;omega
  ·obtain rfl:i = o - 2:=by omega
   have hl:=(List.getElem?_eq_some_iff.1 hf).1;rw [List.getElem?_append_right (by simp only [List.length_drop,List.length_take];omega)];rw [show (o - 2 - (List.drop 1 (List.take (o - 1) (List.drop k F))).length) = 0 by simp only [List.length_drop,List.length_take];omega];rw [show k + 1 + (o - 2) = k + (o - 1) by omega,hf];rfl
 ·rw [if_neg hi];symm;rw [List.getElem?_eq_none_iff];simp only [List.length_append,List.length_drop,List.length_take,List.length_cons,List.length_nil];omega
theorem Zfd {o:Nat} (ho : 2 <= o /\ o <= 4) (h:K4) (x:Int):Zb6 o (Ub (o - 1) h x) = (Zb6 o h).drop 1 ++ [x]:=by
 rcases (show o = 2 ∨ o = 3 ∨ o = 4 by omega) with rfl | rfl | rfl <;> rfl
theorem ZbD (p:GrP) (l:List Int):∀ (n k:Nat),k < n -> (wdP p l n)[k]? = some (arI p.L (l[k]?.getD 0)).wd
 | 0,_,h=>absurd h (by omega)
 | n + 1,k,h=>by
  show (wdP p l n ++ [_])[k]? = _;by_cases e:k = n
  ·subst e;rw [List.getElem?_append_right (by rw [YD];exact Nat.le_refl _),YD,Nat.sub_self];rfl
  ·rw [List.getElem?_append_left (by rw [YD];omega)];exact ZbD p l n k (by omega)
theorem UP (p:GrP) (l:List Int) (ho : 1 <= p.o /\ p.o <= 4):∀ k,k <= l.length -> Zb6 p.o (V5 p l k) = ZgF p.o (wdP p l l.length) k
 | 0,_=>by
  rw [Zfa];show Zb6 p.o (0,0,0,0) = _;rcases (show p.o = 1 ∨ p.o = 2 ∨ p.o = 3 ∨ p.o = 4 by omega) with e | e | e | e <;> rw [e] <;> rfl
 | k + 1,hk=>by
  have ih:=UP p l ho k (by omega);show Zb6 p.o (Ub (p.o - 1) (V5 p l k) (arI p.L (l[k]?.getD 0)).wd) = _;by_cases h1:p.o = 1
  ·rw [h1];unfold ZgF Zb6;simp
  ·rw [Zfd (by omega),ih,Zfb (by omega) _ (by rw [YD];omega),ZbD p l l.length k (by omega)];rfl
def arQ (p:GrP) (l:List Int):Nat -> Rat
 | 0=>1
 | k + 1=>arQ p l k * (arI p.L (l[k]?.getD 0)).x.q
theorem Ze3 {o:Nat} (ho : 1 <= o) {s:List Int} {k:Nat} (hk:k < s.length):(Jt o s k)[o - 1]?.getD 0 = s[k]?.getD 0:=by
 unfold Jt YE;rw [List.getElem?_take,if_pos (by omega),List.getElem?_drop,List.append_assoc,List.getElem?_append_right (by simp),List.length_replicate,show k + (o - 1) - (o - 1) = k by omega,List.getElem?_append_left hk]
theorem Ze2 {o:Nat} (ho : 1 <= o) (s:List Int):(Jt o s s.length)[o - 1]?.getD 0 = 0:=by
 unfold Jt YE;rw [List.getElem?_take,if_pos (by omega),List.getElem?_drop,List.append_assoc,List.getElem?_append_right (by simp),List.length_replicate,show s.length + (o - 1) - (o - 1) = s.length by omega,List.getElem?_append_right nR,Nat.sub_self];rfl
theorem Qw (p:GrP) (hk:p.kd = 1) (h:K4):Zt p h = rwF (ctL p.o (Je p.T)) p.V p.q (kOf (Zb6 p.o h)):=by
 unfold Zt Zg5;rw [if_pos hk];congr 1;unfold ctA;rw [if_pos nR,Nat.sub_self];rfl
theorem Zeq (p:GrP) (l:List Int) (ho : 1 <= p.o /\ p.o <= 4) (hk:p.kd = 1):∀ k,k <= l.length -> rtQ p l k = arQ p l k * prW (ctL p.o (Je p.T)) p.V p.q p.o (wdP p l l.length) k
 | 0,_=>by simp only [rtQ,arQ,prW];simp
 | k + 1,hkl=>by
  have ih:=Zeq p l ho hk k (by omega);show rtQ p l k * (_ * _) = (arQ p l k * _) * (prW _ _ _ _ _ k * _);rw [ih,Qw p hk,UP p l ho k (by omega),<- Zbc,Ze3 ho.1 (by rw [YD];omega),ZbD p l l.length k (by omega)];simp only [Option.getD_some];generalize rwF _ _ _ _ _ = r;grind
theorem Qo (p:GrP) (l:List Int) (ho : 1 <= p.o /\ p.o <= 4) (hk:p.kd = 1):Zco p l = arQ p l l.length * prW (ctL p.o (Je p.T)) p.V p.q p.o (wdP p l l.length) ((wdP p l l.length).length + 1):=by
 unfold Zco;rw [Zeq p l ho hk _ nR,Qw p hk,UP p l ho _ nR,<- Zbc];show _ = _ * (prW _ _ _ _ _ _ * rwF _ _ _ _ _);rw [YD];have h0:=Ze2 ho.1 (wdP p l l.length);rw [YD] at h0;rw [h0];simp only [Int.toNat_zero];generalize rwF _ _ _ _ _ = r;grind
theorem Zhq {p:GrP} {l:List Int} (h:∀ k,k < l.length -> 0 <= (arI p.L (l[k]?.getD 0)).x.q):∀ k,k <= l.length -> 0 <= arQ p l k
 | 0,_=>by show (0:Rat) <= 1;decide
 | k + 1,hk=>Rat.mul_nonneg (Zhq h k (by omega)) (h k (by omega))
def GrP.tab (p:GrP) (TA:Option Addr) (tc:Nat) (T:List Gm):GrP:={ p with TA:=TA,tc:=tc,T:=T }
theorem ZfD (p:GrP) (TA:Option Addr) (tc:Nat) (T:List Gm) (l:List Int):∀ k,arQ (p.tab TA tc T) l k = arQ p l k
 | 0=>rfl
 | k + 1=>by simp only [arQ];rw [ZfD p TA tc T l k];rfl
theorem Zd4 (p:GrP) (TA:Option Addr) (tc:Nat) (T:List Gm) (l:List Int):∀ k,wdP (p.tab TA tc T) l k = wdP p l k
 | 0=>rfl
 | k + 1=>by simp only [wdP];rw [Zd4 p TA tc T l k];rfl
theorem Zag (p:GrP) (TA:Option Addr) (tc:Nat) (T:List Gm) (l:List Int):∀ k,V5 (p.tab TA tc T) l k = V5 p l k
 | 0=>rfl
 | k + 1=>by simp only [V5];rw [Zag p TA tc T l k];rfl
theorem Zcy (p:GrP) (TA:Option Addr) (tc:Nat) (T:List Gm) (h:Je T = Je p.T) (k:K4):Zt (p.tab TA tc T) k = Zt p k:=by
 unfold Zt;show Zg5 p.kd p.o (ctA p.o (Je T)) p.V p.q p.mx _ = _;rw [h];rfl
theorem Zeo (p:GrP) (TA:Option Addr) (tc:Nat) (T:List Gm) (h:Je T = Je p.T) (l:List Int):∀ k,rtQ (p.tab TA tc T) l k = rtQ p l k
 | 0=>rfl
 | k + 1=>by simp only [rtQ];rw [Zeo p TA tc T h l k,Zag,Zcy p TA tc T h];rfl
theorem Zcn (p:GrP) (TA:Option Addr) (tc:Nat) (T:List Gm) (h:Je T = Je p.T) (l:List Int):Zco (p.tab TA tc T) l = Zco p l:=by
 unfold Zco;rw [Zeo p TA tc T h,Zag,Zcy p TA tc T h]
theorem Zc5 (p:GrP) (TA:Option Addr) (tc:Nat) (T:List Gm) (l:List Int) (n:Int) (hk:p.kd = 1) (hq : 0 < p.q) (hT:Xz p.o ((p.V:Int) - 1) (Je p.T) = 0) (hT':Xz p.o ((p.V:Int) - 1) (Je T) = 0) (he:Je T = XC p.o (Je p.T) (wdP p l l.length) n) (ha:XI 1 ((p.V:Int) - 1) (wdP p l l.length) = true) (hn : 1 <= n)
  (hx:∀ k,k < l.length -> 0 <= (arI p.L (l[k]?.getD 0)).x.q):Zco p l <= Zco (p.tab TA tc T) l:=by
 have ho : 1 <= p.o /\ p.o <= 4:=by
  have:=Jx.1 (JK.1 hT).2.1;omega
 rw [Qo p l ho hk,Qo (p.tab TA tc T) l ho hk,ZfD,Zd4];show arQ p l l.length * _ <= arQ p l l.length * prW (ctL p.o (Je T)) p.V p.q p.o _ _;rw [he];rw [he] at hT';exact Rat.mul_le_mul_of_nonneg_left (ZdN hT hT' ha hn hq) (Zhq hx _ nR)
theorem ZbF (a b:Ar) (w:World):Calls Tryz.prog 125 #[.agg (arc a).toArray,.agg (arc b).toArray] w (ZaE (arB a b) w):=by
 obtain ⟨W,hW⟩:∃ W:World,W = (w.alloc (.cells (arc a).toArray 91)).alloc (.cells (arc b).toArray 91):=⟨_,rfl⟩;have HB0:Hid (Below w.heap.size w W):=zH (by rw [hW];exact al2 w _ _);have hX0:W.heap[w.heap.size]? = some (.cells (arc a).toArray 91 (0,0)):=by rw [hW];exact (YZ _ _ _).trans (heap_alloc_new w _)
 have hX1:W.heap[w.heap.size + 1]? = some (.cells (arc b).toArray 91 (0,0)):=by rw [hW];exact Zg _ _ _ _
 obtain ⟨c0,c1,c2,c3,-,-,-⟩:=Ab.facts hX0;obtain ⟨d0,d1,d2,d3,-,-,-⟩:=Ab.facts hX1;clear hX0 hX1;obtain ⟨bb,hbb⟩:∃ bb,bb = arB a b:=⟨_,rfl⟩;rw [<- hbb];have HBB:=zH hbb;clear hbb;unfold arB at HBB;obtain ⟨afr,aen,awd,avr,xa⟩:=a;obtain ⟨bfr,ben,bwd,bvr,xb⟩:=b;simp only at c0 c1 c2 c3 d0 d1 d2 d3 HBB;simp only [arc] at hW ⊢;go_enter Tryz.func125,Tryz.ntmps125;go_upto_region 1 with fail;rw [<- hW];clear hW;by_cases h1:afr = bfr
 ·subst h1;by_cases h2:aen = ben
  ·subst h2;by_cases h3:awd = bwd
   ·subst h3;go_wp2_with fail;go_ret;exact ⟨Jm (by rw [HBB.out];simp),HB0.out⟩
   ·go_wp2_with fail;go_ret;exact ⟨Jm (by rw [HBB.out];simp [h3]),HB0.out⟩
  ·go_wp2_with fail;go_ret;exact ⟨Jm (by rw [HBB.out];simp [h2]),HB0.out⟩
 ·go_wp2_with fail;go_ret;exact ⟨Jm (by rw [HBB.out];simp [h1]),HB0.out⟩
def ZgT (p:Prop) (w:World) (e:Ending) (w':World):Prop:=∃ b:Bool,e = .returned (.bool b) /\ (b = true -> p) /\ Below w.heap.size w w'
def ZfI (p:Prop) (w:World) (e:Ending) (w':World):Prop:=∃ r:Int,e = .returned (.int .i64 r) /\ (r = 0 -> p) /\ Below w.heap.size w w'
structure PthK (L:List Ar) (l:List Int) (k:Nat):Prop where
 ix:∀ j,j < k -> 0 <= l[j]?.getD 0 /\ l[j]?.getD 0 < (L.length:Int)
 fr:∀ j,j < k -> (arI L (l[j]?.getD 0)).fr = pAt L l j
theorem PthK.succ {L:List Ar} {l:List Int} {k i:Nat} (h:PthK L l k) (hz:l[k]?.getD 0 = (i:Int)) (hi:i < L.length) (hf:(arI L (i:Int)).fr = pAt L l k):PthK L l (k + 1):=
 ⟨fun j hj=>by
  by_cases e:j = k
  ·subst e;rw [hz];omega
  ·exact h.ix j (by omega),fun j hj=>by
  by_cases e:j = k
  ·subst e;rw [hz];exact hf
  ·exact h.fr j (by omega)⟩
theorem Zd6 (Fm:Int) (LA:Option Addr) (lc:Nat) (L:List Ar) (A:Option Addr) (c:Nat) (l:List Int) (w:World) (hL:ArL w LA L) (hA:Lies w A (ics l)) (hn:l.length <= 1000) :
  Calls Tryz.prog 6 #[.agg #[.int .i64 Fm,.slice LA L.length lc],.slice A l.length c] w (ZgT (PthOk Fm L l) w):=by
 obtain ⟨W0,hW0⟩:∃ X:World,X = w.alloc (.cells #[.int .i64 Fm,.slice LA L.length lc] 24):=⟨_,rfl⟩;have HB0:Hid (Below w.heap.size w W0):=zH (by rw [hW0];exact bR.alloc nR _);have HX0:Hid (W0.heap[w.heap.size]? = some (.cells #[.int .i64 Fm,.slice LA L.length lc] 24 (0,0))):=zH (by rw [hW0];exact heap_alloc_new w _);have HPB:=zH (Vf HX0.out);have HA0:=zH (hA.below HB0.out);have HL0:=zH (hL.below HB0.out);clear hA hL;go_enter Tryz.func6,Tryz.ntmps6;go_upto_region 1 with fail;rw [<- hW0];clear hW0;go_wp2_with fail;go_loopw [5,6] (fun t5 t6 wr=>∃ k:Nat,k <= l.length /\ t5 = .int .i64 (pAt L l k) /\ t6 = .int .i64 (k:Int) /\ Hid (PthK L l k) /\ Hid (Below W0.heap.size W0 wr)) (fun _ t6 _=>l.length - (intOf t6).toNat)
 case atStart=>exact ⟨0,Nat.zero_le _,rfl,rfl,zH ⟨fun j hj=>by omega,fun j hj=>by omega⟩,zH bR⟩
 case round=>
  obtain ⟨k,hk,rfl,rfl,HP,HB⟩:=hrel;obtain ⟨c0,c1⟩:=HPB.out wr HB.out;by_cases hlt:k < l.length
  ·have hlt':(k:Int) < (l.length:Int):=by omega
   obtain ⟨b,off,rfl,hb,hc⟩:=(HA0.out.below HB.out).at_ (k:=k) hlt;have HZ:Hid (l[k]?.getD 0 = l[k]?.getD 0):=zH rfl;have HEN:Hid (pAt L l (k + 1) = (arI L (l[k]?.getD 0)).en):=zH rfl;have HSU:=zH (fun i=>HP.out.succ (k:=k) (i:=i));generalize l[k]?.getD 0 = z at *
   obtain ⟨pa,hpa⟩:∃ x,x = pAt L l k:=⟨_,rfl⟩;rw [<- hpa] at HSU ⊢;clear hpa HP HZ;by_cases hz0:z < 0
   ·have g0:decide (z < 0) = true:=decide_eq_true hz0;go_wp2_with fail;go_quiet (fail);go_wp2_with fail;go_ret;exact ⟨false,rfl,by simp,HB0.out.trans (((HB.out).drw nq).mono HB0.out.size)⟩
   ·have g0:decide (z < 0) = false:=dF hz0;by_cases hz1:(L.length:Int) <= z
    ·have g1:decide ((L.length:Int) <= z) = true:=decide_eq_true hz1;go_wp2_with fail;go_quiet (fail);go_wp2_with fail;go_ret;exact ⟨false,rfl,by simp,HB0.out.trans (((HB.out).drw nq).mono HB0.out.size)⟩
    ·have g1:decide ((L.length:Int) <= z) = false:=dF hz1;obtain ⟨i,hi⟩:∃ i:Nat,z = (i:Int):=⟨z.toNat,by omega⟩;subst hi;have hil:i < L.length:=(by omega);have hil':(i:Int) < (L.length:Int):=(by omega);obtain ⟨ab,ao,hLA,hab,v0,v1,-,-,-,-,-⟩:=(HL0.out.below HB.out).at_ hil;have HS1:=zH (HSU.out i rfl hil);rw [Vv rfl hil] at HS1 HEN;subst hLA;generalize L[i] = a at *
     clear HSU hz0 hz1;obtain ⟨fr,en,wd,vr,x⟩:=a;simp only at v0 v1 HS1 HEN;have g3:decide (L.length <= i) = false:=dF (by omega);by_cases hf:fr = pa
     ·have g2:(fr != pa) = false:=(by simp [hf]);have HPK:=zH (HS1.out hf);clear hf;go_wp2_with fail;go_quiet (fail);go_wp2_with fail;have c1':(wr.drewN nq).cell? ⟨w.heap.size,1,none⟩ = some (.slice (some ⟨ab,ao,none⟩) L.length lc):=c1;have hc':(wr.drewN nq).cell? ⟨b,off + k,none⟩ = some (.int .i64 (i:Int)):=hc;have v1':(wr.drewN nq).cell? ⟨ab,ao + i * 7 + 1,none⟩ = some (.int .i64 en):=v1;have HB1:=zH ((HB.out).drw nq);clear c0 c1 hc v0 v1 HB hb hab;generalize wr.drewN nq = V at *
      go_quiet (fail);go_wp2_with fail;exact ⟨⟨k + 1,by omega,by rw [HEN.out],by go_num,HPK,zH ((HB1.out).drw nq)⟩,by simp [intOf];omega⟩
     ·have g2:(fr != pa) = true:=(by simp [hf]);go_wp2_with fail;go_quiet (fail);go_wp2_with fail;go_ret;exact ⟨false,rfl,by simp,HB0.out.trans (((HB.out).drw nq).mono HB0.out.size)⟩
  ·obtain rfl:k = l.length:=by omega
   have hlt':¬ (l.length:Int) < (l.length:Int):=(by omega);go_wp2_with fail;go_ret;refine ⟨_,rfl,fun h=>(⟨HP.out.ix,HP.out.fr,by simpa using h⟩:PthOk Fm L l),HB0.out.trans (HB.out.mono HB0.out.size)⟩
def wdL (L:List Ar) (l:List Int):Nat -> List Int
 | 0=>[]
 | k + 1=>wdL L l k ++ [(arI L (l[k]?.getD 0)).wd]
def Zjo (n:Nat) (ws:List Int) (w:World) (e:Ending) (w':World):Prop:=∃ WA wc,e = .returned (.slice WA n wc) /\ Lies w' WA (ics ws) /\ (n <= wc /\ (WA = none -> wc = 0)) /\ Below w.heap.size w w'
theorem Zd5 (p:GrP) (l:List Int):∀ k,wdP p l k = wdL p.L l k
 | 0=>rfl
 | k + 1=>by rw [wdP,wdL,Zd5 p l k]
theorem ZbE (L:List Ar) (l:List Int):∀ k,(wdL L l k).length = k
 | 0=>rfl
 | k + 1=>by simp [wdL,ZbE L l k]
theorem Zc8 (Fm:Int) (LA:Option Addr) (lc:Nat) (L:List Ar) (A:Option Addr) (c:Nat) (l:List Int) (w:World) (hL:ArL w LA L) (hA:Lies w A (ics l)) (hn:l.length <= 1000) (hp:Hid (∀ k,k < l.length -> 0 <= l[k]?.getD 0 /\ l[k]?.getD 0 < (L.length:Int))) :
  Calls Tryz.prog 11 #[.agg #[.int .i64 Fm,.slice LA L.length lc],.slice A l.length c] w (Zjo l.length (wdL L l l.length) w):=by
 obtain ⟨W0,hW0⟩:∃ X:World,X = w.alloc (.cells #[.int .i64 Fm,.slice LA L.length lc] 24):=⟨_,rfl⟩;have HB0:Hid (Below w.heap.size w W0):=zH (by rw [hW0];exact bR.alloc nR _);have HX0:Hid (W0.heap[w.heap.size]? = some (.cells #[.int .i64 Fm,.slice LA L.length lc] 24 (0,0))):=zH (by rw [hW0];exact heap_alloc_new w _);have HPB:=zH (Vf HX0.out);have HA0:=zH (hA.below HB0.out);have HL0:=zH (hL.below HB0.out);clear hA hL;go_enter Tryz.func11,Tryz.ntmps11;go_upto_region 1 with fail;rw [<- hW0];clear hW0;go_wp2_with fail;go_loopw [5,6] (fun t5 t6 wr=>∃ k:Nat,k <= l.length /\ t6 = .int .i64 (k:Int) /\ ∃ WA wc,t5 = .slice WA k wc /\ Hid (wr.ownsRow W0.heap.size 3 1 (.slice WA k wc) k (ics (wdL L l k))) /\ Hid (∀ g,(Value.slice WA k wc).ownBlock = some g -> AllC Za wr g) /\ Hid (Below W0.heap.size W0 wr)) (fun _ t6 _=>l.length - (intOf t6).toNat)
 case atStart=>exact ⟨0,Nat.zero_le _,rfl,none,0,rfl,zH (World.ownsRow_nil _ _ _ _),zH (fun g hg=>by cases hg),zH bR⟩
 case round=>
  obtain ⟨k,hk,rfl,WA,wc,rfl,HO,HN,HB⟩:=hrel;by_cases hlt:k < l.length
  ·have hlt':(k:Int) < (l.length:Int):=by omega
   obtain ⟨b,off,rfl,hb,hc⟩:=HA0.out.at_ (k:=k) hlt;obtain ⟨hx1,hx2⟩:=hp.out k hlt;have HST:Hid (wdL L l (k + 1) = wdL L l k ++ [(arI L (l[k]?.getD 0)).wd]):=zH rfl;generalize l[k]?.getD 0 = z at *
   obtain ⟨i,hi⟩:∃ i:Nat,z = (i:Int):=⟨z.toNat,by omega⟩;subst hi;have hil:i < L.length:=(by omega);have hil':(i:Int) < (L.length:Int):=(by omega);rw [Vv rfl hil] at HST;obtain ⟨ab,ao,hLA,hab,-,-,v2,-,-,-,-⟩:=HL0.out.at_ hil;subst hLA;generalize L[i] = a at *
   have hc1:=(HPB.out W0 bR).2;have hlx:w.heap.size < W0.heap.size:=JW hc1;have HC8:Hid (∀ u,Below W0.heap.size W0 u -> u.cell? ⟨w.heap.size,1,none⟩ = some (.slice (some ⟨ab,ao,none⟩) L.length lc) /\ u.cell? ⟨b,off + k,none⟩ = some (.int .i64 (i:Int)) /\ u.cell? ⟨ab,ao + i * 7 + 2,none⟩ = some (.int .i64 a.wd)):=zH (fun u hu=>⟨(hu.cell (p:=⟨w.heap.size,1,none⟩) hlx).trans hc1,(hu.cell (p:=⟨b,off + k,none⟩) hb).trans hc,(hu.cell (p:=⟨ab,ao + i * 7 + 2,none⟩) hab).trans v2⟩);have hD:wr.drew.ownsRow W0.heap.size 3 1 (.slice WA k wc) k (ics (wdL L l k)):=Yw HO.out (fun g hg=>rfl);obtain ⟨A',c',u',hrun,ho2,hn2,-,-,-,hb2⟩:=ZaR wr.drew W0.heap.size WA wc k (wdL L l k) a.wd (ZbE L l k) hD (fun g hg=>(HN.out g hg).block rfl) HB.out.size (by omega);have HBD:Hid (Below W0.heap.size W0 wr.drew):=zH HB.out.drew;have HBA:Hid (Below W0.heap.size W0 (wr.drew.alloc (.cells #[.int .i64 a.wd] 3))):=zH (HB.out.drew.alloc HB.out.size _);have HB2:Hid (Below W0.heap.size W0 u'):=zH (HB.out.drew.trans hb2);have HRUN:=zH hrun;have HO2:Hid (u'.ownsRow W0.heap.size 3 1 (.slice A' (k + 1) c') (k + 1) (ics (wdL L l (k + 1)))):=zH (by rw [HST.out];exact ho2);have HN2:=zH hn2;clear hc hc1 hlx v2 hab hb hx1 hx2 hD hrun ho2 hn2 hb2 HO HN HB HST;go_upto_region 5 with fail;refine Jk (S:=fun w'=>w'.cell? ⟨w.heap.size,1,none⟩ = some (.slice (some ⟨ab,ao,none⟩) L.length lc) /\ w'.cell? ⟨b,off + k,none⟩ = some (.int .i64 (i:Int)) /\ w'.cell? ⟨ab,ao + i * 7 + 2,none⟩ = some (.int .i64 a.wd)) 13 rfl (by kernel_rfl) (HC8.out _ HBD.out) (fun hd=>?_);iterate 10 (((refine Jd (v:=?_) rfl (by kernel_rfl) (fun _ _ _ h=>h) ⟨by rfl,?_⟩ hd ?_;rotate_left;· intro w' sw;obtain ⟨hS1,hS2,hS3⟩:=sw;go_simp;try with_reducible rfl);simp only [zA,zB,zC]))
   refine Jh 10 rfl (by kernel_rfl) rfl (fun K hK=>?_);go_simp;go_simp;refine hK _ _ (HC8.out _ HBA.out) (fun hd=>?_);clear hK K;refine Jh 11 rfl (by kernel_rfl) rfl (fun K hK=>?_);refine YC _ 24 rfl (.tmp 13) (.tmp 23) 35 rfl (.slice WA k wc) (.slice (some ⟨wr.drew.heap.size,0,none⟩) 1 1) rfl rfl HRUN.out ?_;refine hK _ _ (HC8.out _ HB2.out) (fun hd=>?_);clear hK K
   ((refine Jd (v:=?_) rfl (by kernel_rfl) (fun _ _ _ h=>h) ⟨by rfl,?_⟩ hd ?_;rotate_left;· intro w' sw;obtain ⟨hS1,hS2,hS3⟩:=sw;go_simp;try with_reducible rfl);simp only [zA,zB,zC])
   refine wpAnyH_done (by kernel_rfl) ?_ _;go_wp2_with fail;exact ⟨⟨k + 1,hlt,by go_num,A',c',by go_num,HO2,HN2,HB2⟩,by simp [intOf];omega⟩
  ·obtain rfl:k = l.length:=by omega
   have hlt':¬ (l.length:Int) < (l.length:Int):=(by omega);go_wp2_with fail;go_ret;exact ⟨WA,wc,rfl,Lies.of_own HO.out,Xj HO.out,HB0.out.trans (HB.out.mono HB0.out.size)⟩
def mxT (L:List Gm):Nat -> Int
 | 0=>0
 | k + 1=>max (mxT L k) ((L[k]?.map (·.2)).getD 0)
theorem Zg9 (L:List Gm):∀ (k:Nat) (M:Int),mxT L k <= M -> ∀ j (h:j < L.length),j < k -> L[j].2 <= M
 | 0,_,_,_,_,hj=>by omega
 | k + 1,M,hm,j,h,hj=>by
  unfold mxT at hm;have h1:mxT L k <= M:=Int.le_trans (Int.le_max_left _ _) hm;have h2:(L[k]?.map (·.2)).getD 0 <= M:=Int.le_trans (Int.le_max_right _ _) hm;by_cases e:j = k
  ·subst e;rw [gE h] at h2;exact h2
  ·exact Zg9 L k M h1 j h (by omega)
theorem Zai (o v:Int) (A:Option Addr) (c:Nat) (L:List Gm) (w:World) (hT:Tb w A L) (hn:L.length <= 1000000) :
  Calls Tryz.prog 12 #[.agg #[.int .i64 o,.int .i64 v,.slice A L.length c]] w (VU (mxT L L.length) w):=by
 obtain ⟨W0,hW0⟩:∃ X:World,X = w.alloc (.cells #[.int .i64 o,.int .i64 v,.slice A L.length c] 27):=⟨_,rfl⟩;have HB0:Hid (Below w.heap.size w W0):=zH (by rw [hW0];exact bR.alloc nR _);have hX0:W0.heap[w.heap.size]? = some (.cells #[.int .i64 o,.int .i64 v,.slice A L.length c] 27 (0,0)):=by rw [hW0];exact heap_alloc_new w _
 obtain ⟨c0,c1,c2⟩:=Yn hX0;have HT0:=zH (hT.below HB0.out);clear hT hX0;go_enter Tryz.func12,Tryz.ntmps12;go_upto_region 1 with fail;rw [<- hW0];clear hW0;go_wp2_with fail;go_loopw [3,4] (fun t3 t4 wr=>∃ k:Nat,k <= L.length /\ t3 = .int .i64 (mxT L k) /\ t4 = .int .i64 (k:Int) /\ Hid (wr = W0)) (fun _ t4 _=>L.length - (intOf t4).toNat)
 case atStart=>exact ⟨0,Nat.zero_le _,rfl,rfl,zH rfl⟩
 case round=>
  obtain ⟨k,hk,rfl,rfl,HW⟩:=hrel;obtain rfl:=HW.out;by_cases hlt:k < L.length
  ·have hlt':(k:Int) < (L.length:Int):=by omega
   obtain ⟨b,off,rfl,hb,v0,v1⟩:=HT0.out.at_ hlt;have HM:Hid (mxT L (k + 1) = max (mxT L k) L[k].2):=zH (by rw [mxT,gE hlt];rfl);generalize L[k].2 = x at *
   generalize L[k] = g at *
   go_wp2_with fail;exact ⟨⟨k + 1,by omega,by rw [HM.out],by go_num,zH trivial⟩,by simp [intOf];omega⟩
  ·obtain rfl:k = L.length:=by omega
   go_wp2_with fail;go_ret;exact ⟨rfl,HB0.out⟩
theorem Qq (A:Option Addr) (c:Nat) (L:List Fr) (w:World) (h:FsL w A L) (hn:L.length <= 1000000) :
  Calls Tryz.prog 20 #[.slice A L.length c] w (ZgT (∀ x ∈ L,Few x 1) w):=by
 have HL:=zH h;clear h;go_enter Tryz.func20,Tryz.ntmps20;go_wp2_with fail;go_loopw [3] (fun t3 wr=>∃ k:Nat,k <= L.length /\ t3 = .int .i64 (k:Int) /\ Hid (∀ j (hj:j < L.length),j < k -> Few L[j] 1) /\ Hid (wr = w)) (fun t3 _=>L.length - (intOf t3).toNat)
 case atStart=>exact ⟨0,Nat.zero_le _,rfl,zH (fun j _ hj=>by omega),zH rfl⟩
 case round=>
  obtain ⟨k,hk,rfl,HF,HW⟩:=hrel;obtain rfl:=HW.out;by_cases hlt:k < L.length
  ·have hlt':(k:Int) < (L.length:Int):=by omega
   obtain ⟨b,off,rfl,hb,v0,v1,v2⟩:=HL.out.at_ hlt;have HS:Hid (Few L[k] 1 -> ∀ j (hj:j < L.length),j < k + 1 -> Few L[j] 1):=zH (fun hx j hj hjk=>by
    by_cases e:j = k
    ·subst e;exact hx
    ·exact HF.out j hj (by omega))
   generalize L[k] = x at *
   by_cases h1 : 1 < x.N.length
   ·have h1':(1:Int) < (x.N.length:Int):=(by omega);go_wp2_with fail;go_ret;exact ⟨false,rfl,by simp,Below.refl _ _⟩
   ·have h1':¬ (1:Int) < (x.N.length:Int):=(by omega);by_cases h2 : 1 < x.D.length
    ·have h2':(1:Int) < (x.D.length:Int):=(by omega);go_wp2_with fail;go_ret;exact ⟨false,rfl,by simp,Below.refl _ _⟩
    ·have h2':¬ (1:Int) < (x.D.length:Int):=(by omega);have HR:=zH (HS.out ⟨by omega,by omega⟩);go_wp2_with fail;exact ⟨⟨k + 1,by omega,by go_num,HR,zH trivial⟩,by simp [intOf];omega⟩
  ·obtain rfl:k = L.length:=by omega
   go_wp2_with fail;go_ret;exact ⟨true,rfl,fun _ x hx=>(by obtain ⟨j,hj,rfl⟩:=List.getElem_of_mem hx;exact HF.out j hj hj),Below.refl _ _⟩
set_option linter.unusedVariables false

theorem Fv.opened {w:World} {x:Fr} {q:Rat} (h:Fv w x q) (hf:Few x 90000):∃ n d:Nat,q = fq x.neg n d /\ Hid (∀ u,Below w.heap.size w u -> Calls Tryz.prog 43 #[.slice x.A x.N.length x.c] u fun e w'=>e = .returned (.slice x.A (nd n).length x.c) /\ u = w') /\ Hid (∀ u,Below w.heap.size w u -> Dg u x.A x.c (nd n)) /\ Hid (∀ u,Below w.heap.size w u -> Calls Tryz.prog 94 #[x.val] u (Yo d u)) /\ d ≠ 0 /\ (nd n).length <= 90000 /\ (nd d).length <= 90000:=by
 have hn0:=Jw h.n.dig;have hd0:=Jw h.d.dig;obtain ⟨n,hn⟩:∃ n:Nat,vl x.N = (n:Int):=⟨(vl x.N).toNat,by omega⟩;obtain ⟨v,hv⟩:∃ v:Nat,vl x.D = (v:Int):=⟨(vl x.D).toNat,by omega⟩;refine ⟨n,if v = 0 then 1 else v,?_,zH (fun u hu=>?_),zH (fun u hu=>?_),zH (fun u hu=>?_),?_,?_,?_⟩
 ·rw [<- h.val,hn,hv,Int.toNat_natCast,Int.toNat_natCast];split
  ·subst_vars;rfl
  ·rfl
 ·have hb:=h.n.below hu;exact JL x.A x.c x.N u hb.lies (zH hb.dig) hb.cap (by have:=hf.n;omega) n (zH hn)
 ·exact (h.n.below hu).nd hn
 ·exact Zh4 x u ⟨h.n.below hu,h.d.below hu⟩ (by have:=hf.d;omega) v (zH hv)
 ·split <;> omega
 ·exact tR (JD h.n.dig hn) hf.n
 ·split
  ·rw [Yy];decide
  ·exact tR (JD h.d.dig hv) hf.d
end Go.Proofs.YtlgdlenoohkipaaGreat
