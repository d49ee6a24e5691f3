/- TopLearned -/
import Derived.Test.YtlgdlenoohkipaaGreatMTearn14
set_option maxRecDepth 100000
set_option maxHeartbeats 32000000
namespace Go.Proofs.YtlgdlenoohkipaaGreat
open Go.RowKit Ear

abbrev Gm:=Inn × Int
abbrev J6 (L:List Gm):List Value:=L.flatMap fun g=>[Value.slice g.1.1 g.1.2.2.length g.1.2.1,Value.int .i64 g.2]
abbrev Je (L:List Gm):Tbl:=L.map fun g=>(g.1.2.2,g.2)
structure Tb (w:World) (A:Option Addr) (L:List Gm):Prop where
 lies:Lies w A (J6 L)
 inn:∀ g ∈ L,InOk w g.1
 num:∀ g ∈ L,-9223372036854775808 <= g.2 /\ g.2 <= 9223372036854775807
theorem Tb.below {w w':World} {A:Option Addr} {L:List Gm} (h:Tb w A L) (hb:Below w.heap.size w w'):Tb w' A L:=⟨h.lies.below hb,fun g hg=>(h.inn g hg).below hb,h.num⟩
theorem Vj:∀ (L:List Gm) {k:Nat} (hk:k < L.length),(J6 L)[k * 2]? = some (.slice L[k].1.1 L[k].1.2.2.length L[k].1.2.1) /\ (J6 L)[k * 2 + 1]? = some (.int .i64 L[k].2)
 | [],k,hk=>by simp at hk
 | g :: L,0,_=>by simp [J6]
 | g :: L,k + 1,hk=>by
  have:=Vj L (k:=k) (by simpa using hk);rw [show (k + 1) * 2 = k * 2 + 1 + 1 by omega];simpa [J6] using this
theorem Jp (L:List Gm):(J6 L).length = L.length * 2:=by
 induction L with
 | nil=>rfl
 | cons g L ih=>simp [J6] at ih ⊢;omega
theorem Tb.at_ {w:World} {A:Option Addr} {L:List Gm} (h:Tb w A L) {k:Nat} (hk:k < L.length) :
  ∃ b off,A = some ⟨b,off,none⟩ /\ b < w.heap.size /\ w.cell? ⟨b,off + k * 2,none⟩ = some (.slice L[k].1.1 L[k].1.2.2.length L[k].1.2.1) /\ w.cell? ⟨b,off + k * 2 + 1,none⟩ = some (.int .i64 L[k].2):=by
 obtain ⟨b,off,e,hlt,hc⟩:=h.lies (by rw [Jp];omega);obtain ⟨h1,h2⟩:=Vj L hk;exact ⟨b,off,e,hlt,hc _ _ h1,by rw [Nat.add_assoc];exact hc _ _ h2⟩
theorem Vx (A B:Option Addr) (c d:Nat) (a b:List Int) (w:World) (hA:Lies w A (ics a)) (hB:Lies w B (ics b)) (ha:a.length <= 9223372036854775807) (hb:b.length <= 9223372036854775807) (r:Int) (hr:Hid (J8 a b = r)) (m:Nat) :
  Calls Tryz.prog 82 #[.slice A a.length c,.slice B b.length d] (w.drewN m) fun e w'=>e = .returned (.int .i64 r) /\ ∃ k,w' = (w.drewN m).drewN k:=
 (V6 A B c d a b (w.drewN m) (hA.drewN m) (hB.drewN m) ha hb r hr).mono fun _ _ ⟨h1,h2⟩=>⟨h1,0,h2.symm⟩
theorem _root_.Go.RowKit.Below.drw {B:Nat} {w w':World} (h:Below B w w') (n:Nat):Below B w (w'.drewN n):=⟨h.os,h.tape,h.output,h.size,h.block⟩
theorem YI (o v:Int) (A:Option Addr) (c:Nat) (L:List Gm) (w:World) (h:Tb w A L) (hn:L.length <= 9223372036854775807) (r:Int) (hr:Hid (Xz o v (Je L) = r)) :
  Calls Tryz.prog 35 #[.agg #[.int .i64 o,.int .i64 v,.slice A L.length c]] w (VU r w):=by
 obtain ⟨W,hW⟩:∃ W:World,W = w.alloc (.cells #[.int .i64 o,.int .i64 v,.slice A L.length c] 27):=⟨_,rfl⟩;have HTL:Hid ((Je L).length = L.length):=zH (by simp);have HB0:Hid (Below w.heap.size w W):=zH (by rw [hW];exact bR.alloc nR _);have hWs:w.heap.size < W.heap.size:=by rw [hW];simp
 have HC:Hid (∀ u,Below W.heap.size W u -> u.cell? ⟨w.heap.size,0,none⟩ = some (.int .i64 o) /\ u.cell? ⟨w.heap.size,1,none⟩ = some (.int .i64 v) /\ u.cell? ⟨w.heap.size,2,none⟩ = some (.slice A L.length c)):=zH (fun u hu=>by
  have hs:w.heap.size < W.heap.size:=by rw [hW];simp
  rw [hu.cell (p:=⟨w.heap.size,0,none⟩) hs,hu.cell (p:=⟨w.heap.size,1,none⟩) hs,hu.cell (p:=⟨w.heap.size,2,none⟩) hs,hW];simp [go_sem])
 have HT:=zH (h.below HB0.out);have hr0:=hr.out;unfold Xz at hr0;rw [HTL.out] at hr0;have HRW:=zH (Below.refl W.heap.size W);clear h hr;obtain ⟨c0,c1,c2⟩:=HC.out W HRW.out;by_cases h1 : 20000 < L.length
 ·rw [if_pos h1] at hr0;subst hr0;go_enter Tryz.func35,Tryz.ntmps35;go_wp2_with fail;go_ret;exact ⟨rfl,by rw [<- hW];exact HB0.out⟩
 ·rw [if_neg h1] at hr0;cases hs:Xv o v with
  | false=>
   rw [hs,if_neg (by decide)] at hr0;subst hr0;have HS:=zH hs;clear hs;go_enter Tryz.func35,Tryz.ntmps35;go_wp2_with (go_at_call 80;refine (Zn o v _ false HS).mono ?_;rintro e w' ⟨rfl,rfl⟩);go_ret;exact ⟨rfl,by rw [<- hW];exact HB0.out⟩
  | true=>
   rw [hs,if_pos rfl] at hr0;have HS:=zH hs;have HR:=zH hr0;clear hs hr0;go_enter Tryz.func35,Tryz.ntmps35;go_wp2_with (go_at_call 80;refine (Zn o v _ true HS).mono ?_;rintro e w' ⟨rfl,rfl⟩);rw [<- hW];clear hW c0 c1 c2;go_loopw [18] (fun i wr=>∃ k:Nat,k <= L.length /\ i = .int .i64 k /\ Hid (∀ j,j < k -> Xs o v (Je L) j = true) /\ Hid (Below W.heap.size W wr)) (fun i _=>L.length - (intOf i).toNat)
   case atStart=>exact ⟨0,by omega,rfl,zH (fun j hj=>by omega),HRW⟩
   case round=>
    obtain ⟨k,hk,rfl,HOK,HW⟩:=hrel;by_cases hlt:k < L.length
    ·obtain ⟨bk,off,rfl,hbk,hcw,hcn⟩:=(HT.out.below HW.out).at_ hlt;obtain ⟨c0,c1,c2⟩:=HC.out _ HW.out;have HX:=zH ((HT.out.below HW.out).inn _ (yM hlt));have hgk:ZdX (Je L) k = (L[k].1.2.2,L[k].2):=(by rw [JZ (by rw [HTL.out];exact hlt)];simp);have hws:W.heap.size <= wr.heap.size:=HW.out.size;have hws2:w.heap.size < wr.heap.size:=(by omega);have HPRE:Hid (∀ j,j < k -> ∃ bj,∃ oj,bj = bk /\ oj = off /\ wr.cell? ⟨bk,off + j * 2,none⟩ = some (.slice (L[j]?.getD ((none,0,[]),0)).1.1 (L[j]?.getD ((none,0,[]),0)).1.2.2.length (L[j]?.getD ((none,0,[]),0)).1.2.1)):=zH (fun j hj=>by
      obtain ⟨b2,o2,e2,_,h2,_⟩:=(HT.out.below HW.out).at_ (k:=j) (by omega);cases e2;exact ⟨bk,off,rfl,rfl,by rw [gE (show j < L.length by omega)];exact h2⟩)
     have HXJ:Hid (∀ j,j < k -> InOk wr (L[j]?.getD ((none,0,[]),0)).1 /\ ZdX (Je L) j = ((L[j]?.getD ((none,0,[]),0)).1.2.2,(L[j]?.getD ((none,0,[]),0)).2)):=zH (fun j hj=>by
      have hj':j < L.length:=(by omega);rw [gE hj'];exact ⟨(HT.out.below HW.out).inn _ (yM hj'),by rw [JZ (by rw [HTL.out];exact hj')];simp⟩)
     have HNO:Hid (Xs o v (Je L) k = false -> r = 2):=zH (fun hb=>by rw [<- HR.out,if_neg (by rw [Zg0 (k:=k) (by rw [HTL.out];exact hlt) hb];decide)]);have HYES:Hid (Xs o v (Je L) k = true -> ∀ j,j < k + 1 -> Xs o v (Je L) j = true):=zH (fun hb j hj=>by
      by_cases e:j = k
      ·rw [e];exact hb
      ·exact HOK.out j (by omega))
     have HG:=zH hgk;clear hgk HOK;generalize L[k] = g at *
     obtain ⟨⟨XA,Xc,xl⟩,xn⟩:=g;simp only at *
     obtain ⟨V,hV⟩:∃ V:World,V = wr.alloc (.cells #[.slice XA xl.length Xc,.int .i64 xn] 93):=⟨_,rfl⟩;have HVB:Hid (Below wr.heap.size wr V):=zH (by rw [hV];exact bR.alloc nR _);have hVs:wr.heap.size < V.heap.size:=(by rw [hV];simp);have HVC:Hid (∀ u,Below V.heap.size V u -> u.cell? ⟨wr.heap.size,0,none⟩ = some (.slice XA xl.length Xc) /\ u.cell? ⟨wr.heap.size,1,none⟩ = some (.int .i64 xn) /\ u.cell? ⟨w.heap.size,0,none⟩ = some (.int .i64 o) /\ u.cell? ⟨w.heap.size,1,none⟩ = some (.int .i64 v) /\ u.cell? ⟨w.heap.size,2,none⟩ = some (.slice (some ⟨bk,off,none⟩) L.length c)):=zH (fun u hu=>by
      obtain ⟨a0,a1,a2⟩:=HC.out u ((HW.out.trans (HVB.out.mono HW.out.size)).trans (hu.mono (HW.out.trans (HVB.out.mono HW.out.size)).size));rw [hu.cell (p:=⟨wr.heap.size,0,none⟩) hVs,hu.cell (p:=⟨wr.heap.size,1,none⟩) hVs,hV];exact ⟨by simp [go_sem],by simp [go_sem],a0,a1,a2⟩)
     have HWV:=zH (HW.out.trans (HVB.out.mono HW.out.size));have HXV:=zH (HX.out.1.below HVB.out);have hxn:=HX.out.2.2.1;have HBF:=zH (HB0.out.trans (HWV.out.mono HB0.out.size));have HVR:=zH (Below.refl V.heap.size V);obtain ⟨d0,d1,d2,d3,d4⟩:=HVC.out V HVR.out;by_cases a1:(xl.length:Int) = o
     ·have q1:((xl.length:Int) != o) = false:=(by simp [a1]);cases ha2:XI 0 v xl with
      | false=>
       have HA2:=zH ha2;have hz:=HNO.out (by unfold Xs;rw [HG.out];simp [Zih,ha2]);subst hz;clear ha2 HNO HYES HR a1 HPRE HXJ;go_wp2_with fail;rw [<- hV];clear hV;refine (Xe XA Xc xl 0 v V HXV.out hxn false HA2).mono ?_;rintro e w2 ⟨rfl,hb2⟩;obtain ⟨d0,d1,d2,d3,d4⟩:=HVC.out w2 hb2;have HF:=zH (HBF.out.trans (hb2.mono HBF.out.size));clear hb2;go_wp2_with fail;go_ret;exact ⟨rfl,HF.out⟩
      | true=>
       have HA2:=zH ha2;clear ha2;by_cases a3 : 1 <= xn
       ·by_cases a4:xn <= 1073741824
        ·have HGM:Hid (Zih o v (xl,xn) = true):=zH (Xk.2 ⟨a1,HA2.out,a3,a4⟩);by_cases hk0:k = 0
         ·have HOK2:=zH (HYES.out (by unfold Xs;rw [HG.out,HGM.out,hk0];rfl));have qk:decide ((0:Int) < (k:Int)) = false:=(by simp [hk0]);have qk2:decide (0 < k) = false:=(by simp [hk0]);clear HNO HYES HR a1 HPRE HXJ hk0;go_wp2_with fail;rw [<- hV];clear hV;refine (Xe XA Xc xl 0 v V HXV.out hxn true HA2).mono ?_;rintro e w2 ⟨rfl,hb2⟩;obtain ⟨d0,d1,d2,d3,d4⟩:=HVC.out w2 hb2;have HF:=zH (HWV.out.trans (hb2.mono HWV.out.size));clear hb2;go_wp2_with fail;go_quiet (fail);go_wp2_with fail;exact ⟨⟨k + 1,by omega,by go_num,HOK2,zH (HF.out.drw _)⟩,by simp [intOf];omega⟩
         ·obtain ⟨_,_,_,_,hpj⟩:=HPRE.out (k - 1) (by omega);obtain ⟨hxj,hgj⟩:=HXJ.out (k - 1) (by omega);generalize L[k - 1]?.getD ((none,0,[]),0) = gp at *
          obtain ⟨⟨PA,Pc,pl⟩,pn⟩:=gp;simp only at *
          have HPV:=zH (hxj.1.below HVB.out);have hpn:=hxj.2.2.1;have qk:decide ((0:Int) < (k:Int)) = true:=(by simp;omega);have qk2:decide (0 < k) = true:=(by simp;omega);have p1:IntKind.i64.wrap ((k:Int) - 1) = (k:Int) - 1:=IntWalk.i64_in _ (by omega);have p2:(0:Int) <= (k:Int) - 1:=(by omega);have p3:((k:Int) - 1).toNat = k - 1:=(by omega);have p4:(k:Int) - 1 < (L.length:Int):=(by omega);have p5 : 1 <= k:=(by omega);have p6:(1:Int) <= (k:Int):=(by omega);have p7 : 0 < k:=(by omega);have p8:¬ (L.length:Int) <= (k:Int) - 1:=(by omega);have p9:¬ ((k:Int) - 1 < 0):=(by omega);obtain ⟨s,hs⟩:∃ s,s = J8 pl xl:=⟨_,rfl⟩;have HS2:=zH hs.symm;have HROW:Hid (Xs o v (Je L) k = decide (s < 0)):=zH (by unfold Xs;rw [HG.out,HGM.out,hgj,hs];simp [hk0]);have hbj:bk < wr.heap.size:=hbk;have HPC:Hid (∀ u,Below V.heap.size V u -> u.cell? ⟨bk,off + (k - 1) * 2,none⟩ = some (.slice PA pl.length Pc)):=zH (fun u hu=>by
           rw [hu.cell (p:=⟨bk,off + (k - 1) * 2,none⟩) (show bk < V.heap.size by omega),HVB.out.cell (p:=⟨bk,off + (k - 1) * 2,none⟩) hbk];exact hpj)
          by_cases hlt0:s < 0
          ·have HOK2:=zH (HYES.out (by rw [HROW.out];simp [hlt0]));clear HNO HYES HR a1 HPRE HXJ hk0 hs hgj hxj hpj;go_wp2_with fail;rw [<- hV];clear hV;refine (Xe XA Xc xl 0 v V HXV.out hxn true HA2).mono ?_;rintro e w2 ⟨rfl,hb2⟩;obtain ⟨d0,d1,d2,d3,d4⟩:=HVC.out w2 hb2;have e0:=HPC.out w2 hb2;have HF:=zH (HWV.out.trans (hb2.mono HWV.out.size));have HQ:=zH (fun m=>Vx PA XA Pc Xc pl xl w2 (HPV.out.below hb2) (HXV.out.below hb2) hpn hxn s HS2 m);clear hb2;go_wp2_with fail;go_quiet ((go_at_call 82;exact Calls.quiet_of (HQ.out _)));go_wp2_with fail;exact ⟨⟨k + 1,by omega,by go_num,HOK2,zH (HF.out.drw _)⟩,by simp [intOf];omega⟩
          ·have hz:=HNO.out (by rw [HROW.out];simp [hlt0]);subst hz;have hge : 0 <= s:=(by omega);clear HNO HYES HR a1 HPRE HXJ hk0 hs hgj hxj hpj;go_wp2_with fail;rw [<- hV];clear hV;refine (Xe XA Xc xl 0 v V HXV.out hxn true HA2).mono ?_;rintro e w2 ⟨rfl,hb2⟩;obtain ⟨d0,d1,d2,d3,d4⟩:=HVC.out w2 hb2;have e0:=HPC.out w2 hb2;have HF:=zH (HBF.out.trans (hb2.mono HBF.out.size));have HQ:=zH (fun m=>Vx PA XA Pc Xc pl xl w2 (HPV.out.below hb2) (HXV.out.below hb2) hpn hxn s HS2 m);clear hb2;go_wp2_with fail;go_quiet ((go_at_call 82;exact Calls.quiet_of (HQ.out _)));go_wp2_with fail;go_ret;exact ⟨rfl,HF.out.drw _⟩
        ·have hz:=HNO.out (by unfold Xs;rw [HG.out,Bool.eq_false_iff];intro ht;rw [Bool.and_eq_true] at ht;exact a4 (Xk.1 ht.1).2.2.2);subst hz;clear HNO HYES HR a1 HPRE HXJ;go_wp2_with fail;rw [<- hV];clear hV;refine (Xe XA Xc xl 0 v V HXV.out hxn true HA2).mono ?_;rintro e w2 ⟨rfl,hb2⟩;obtain ⟨d0,d1,d2,d3,d4⟩:=HVC.out w2 hb2;have HF:=zH (HBF.out.trans (hb2.mono HBF.out.size));clear hb2;go_wp2_with fail;go_ret;exact ⟨rfl,HF.out⟩
       ·have hz:=HNO.out (by unfold Xs;rw [HG.out,Bool.eq_false_iff];intro ht;rw [Bool.and_eq_true] at ht;exact a3 (Xk.1 ht.1).2.2.1);subst hz;clear HNO HYES HR a1 HPRE HXJ;go_wp2_with fail;rw [<- hV];clear hV;refine (Xe XA Xc xl 0 v V HXV.out hxn true HA2).mono ?_;rintro e w2 ⟨rfl,hb2⟩;obtain ⟨d0,d1,d2,d3,d4⟩:=HVC.out w2 hb2;have HF:=zH (HBF.out.trans (hb2.mono HBF.out.size));clear hb2;go_wp2_with fail;go_ret;exact ⟨rfl,HF.out⟩
     ·have q1:((xl.length:Int) != o) = true:=(by simp [a1]);have hz:=HNO.out (by unfold Xs;rw [HG.out,Bool.eq_false_iff];intro ht;rw [Bool.and_eq_true] at ht;exact a1 (Xk.1 ht.1).1);subst hz;clear HNO HYES HR HPRE HXJ;go_wp2_with fail;go_ret;exact ⟨rfl,by rw [<- hV];exact HBF.out⟩
    ·obtain rfl:k = L.length:=(by omega);have hz:r = 0:=(by rw [<- HR.out,if_pos (QX fun j hj=>HOK.out j (by rw [<- HTL.out];exact hj))]);subst hz;have HF:=zH (HB0.out.trans (HW.out.mono HB0.out.size));go_wp2_with fail;go_ret;exact ⟨rfl,HF.out⟩
structure Ar where
 fr:Int
 en:Int
 wd:Int
 vr:Int
 x:Fr
def Fr.q (x:Fr):Rat:=fq x.neg (vl x.N).toNat (vl x.D).toNat
theorem FrOk.fv {w:World} {x:Fr} (h:FrOk w x):Fv w x x.q:=⟨h.n,h.d,rfl⟩
def fic (x:Fr):List Value:=[.bool x.neg,.slice x.A x.N.length x.c,.slice x.B x.D.length x.d]
def Zkb (L:List Fr):List Value:=L.flatMap fic
def arc (a:Ar):List Value:=[.int .i64 a.fr,.int .i64 a.en,.int .i64 a.wd,.int .i64 a.vr,.bool a.x.neg,.slice a.x.A a.x.N.length a.x.c,.slice a.x.B a.x.D.length a.x.d]
def Zkd (L:List Ar):List Value:=L.flatMap arc
structure ArR (w:World) (a:Ar):Prop where
 fr : -9223372036854775808 <= a.fr /\ a.fr <= 9223372036854775807
 en : -9223372036854775808 <= a.en /\ a.en <= 9223372036854775807
 wd : -9223372036854775808 <= a.wd /\ a.wd <= 9223372036854775807
 vr : -9223372036854775808 <= a.vr /\ a.vr <= 9223372036854775807
 W:FrOk w a.x
 W1:a.x.N.length <= 9223372036854775807
 W2:a.x.D.length <= 9223372036854775807
theorem ArR.below {w w':World} {a:Ar} (h:ArR w a) (hb:Below w.heap.size w w'):ArR w' a:=⟨h.fr,h.en,h.wd,h.vr,h.W.below hb,h.W1,h.W2⟩
structure ArL (w:World) (A:Option Addr) (L:List Ar):Prop where
 lies:Lies w A (Zkd L)
 ok:∀ a ∈ L,ArR w a
theorem ArL.below {w w':World} {A:Option Addr} {L:List Ar} (h:ArL w A L) (hb:Below w.heap.size w w'):ArL w' A L:=⟨h.lies.below hb,fun a ha=>(h.ok a ha).below hb⟩
theorem Zaj {α:Type} (f : α -> List Value) (n:Nat) (hf:∀ a,(f a).length = n):∀ L:List α,(L.flatMap f).length = L.length * n
 | []=>by simp
 | a :: L=>by rw [List.flatMap_cons,List.length_append,hf,Zaj f n hf L,List.length_cons,Nat.succ_mul];omega
theorem Zak {α:Type} (f : α -> List Value) (n:Nat) (hf:∀ a,(f a).length = n):∀ (L:List α) {k j:Nat} (hk:k < L.length) (_:j < n),(L.flatMap f)[k * n + j]? = (f L[k])[j]?
 | [],k,_,hk,_=>by simp at hk
 | a :: L,0,j,_,hj=>by
  rw [List.flatMap_cons,Nat.zero_mul,Nat.zero_add,List.getElem?_append_left (by rw [hf];exact hj)];rfl
 | a :: L,k + 1,j,hk,hj=>by
  rw [List.flatMap_cons,List.getElem?_append_right (by rw [hf,Nat.succ_mul];omega),hf,show (k + 1) * n + j - n = k * n + j by rw [Nat.succ_mul];omega];exact Zak f n hf L (by simpa using hk) hj
theorem ArL.at_ {w:World} {A:Option Addr} {L:List Ar} (h:ArL w A L) {k:Nat} (hk:k < L.length) :
  ∃ b off,A = some ⟨b,off,none⟩ /\ b < w.heap.size /\ w.cell? ⟨b,off + k * 7,none⟩ = some (.int .i64 L[k].fr) /\ w.cell? ⟨b,off + k * 7 + 1,none⟩ = some (.int .i64 L[k].en) /\ w.cell? ⟨b,off + k * 7 + 2,none⟩ = some (.int .i64 L[k].wd) /\ w.cell? ⟨b,off + k * 7 + 3,none⟩ = some (.int .i64 L[k].vr) /\ w.cell? ⟨b,off + k * 7 + 4,none⟩ = some (.bool L[k].x.neg) /\ w.cell? ⟨b,off + k * 7 + 5,none⟩ = some (.slice L[k].x.A L[k].x.N.length L[k].x.c) /\ w.cell? ⟨b,off + k * 7 + 6,none⟩ = some (.slice L[k].x.B L[k].x.D.length L[k].x.d):=by
 have hl:=Zaj arc 7 (fun _=>rfl) L;obtain ⟨b,off,e,hlt,hc⟩:=h.lies (by show 0 < (L.flatMap arc).length;omega);have hg:=fun j hj=>Zak arc 7 (fun _=>rfl) L (j:=j) hk hj;refine ⟨b,off,e,hlt,?_,?_,?_,?_,?_,?_,?_⟩
 ·exact hc (k * 7 + 0) _ (hg 0 (by decide))
 ·rw [Nat.add_assoc];exact hc (k * 7 + 1) _ (hg 1 (by decide))
 ·rw [Nat.add_assoc];exact hc (k * 7 + 2) _ (hg 2 (by decide))
 ·rw [Nat.add_assoc];exact hc (k * 7 + 3) _ (hg 3 (by decide))
 ·rw [Nat.add_assoc];exact hc (k * 7 + 4) _ (hg 4 (by decide))
 ·rw [Nat.add_assoc];exact hc (k * 7 + 5) _ (hg 5 (by decide))
 ·rw [Nat.add_assoc];exact hc (k * 7 + 6) _ (hg 6 (by decide))
structure FsL (w:World) (A:Option Addr) (L:List Fr):Prop where
 lies:Lies w A (Zkb L)
 ok:∀ x ∈ L,FrOk w x /\ x.N.length <= 9223372036854775807 /\ x.D.length <= 9223372036854775807
theorem FsL.below {w w':World} {A:Option Addr} {L:List Fr} (h:FsL w A L) (hb:Below w.heap.size w w'):FsL w' A L:=⟨h.lies.below hb,fun a ha=>⟨(h.ok a ha).1.below hb,(h.ok a ha).2⟩⟩
theorem FsL.at_ {w:World} {A:Option Addr} {L:List Fr} (h:FsL w A L) {k:Nat} (hk:k < L.length) :
  ∃ b off,A = some ⟨b,off,none⟩ /\ b < w.heap.size /\ w.cell? ⟨b,off + k * 3,none⟩ = some (.bool L[k].neg) /\ w.cell? ⟨b,off + k * 3 + 1,none⟩ = some (.slice L[k].A L[k].N.length L[k].c) /\ w.cell? ⟨b,off + k * 3 + 2,none⟩ = some (.slice L[k].B L[k].D.length L[k].d):=by
 have hl:=Zaj fic 3 (fun _=>rfl) L;obtain ⟨b,off,e,hlt,hc⟩:=h.lies (by show 0 < (L.flatMap fic).length;omega);have hg:=fun j hj=>Zak fic 3 (fun _=>rfl) L (j:=j) hk hj;refine ⟨b,off,e,hlt,?_,?_,?_⟩
 ·exact hc (k * 3 + 0) _ (hg 0 (by decide))
 ·rw [Nat.add_assoc];exact hc (k * 3 + 1) _ (hg 1 (by decide))
 ·rw [Nat.add_assoc];exact hc (k * 3 + 2) _ (hg 2 (by decide))
def Zi4:Fr:=⟨false,none,0,[],none,0,[]⟩
def ZfN (L:List Fr) (k:Nat):Fr:=L[k]?.getD Zi4
theorem Zb9 {L:List Fr} {k:Nat} (h:k < L.length):ZfN L k = L[k]:=by unfold ZfN;rw [gE h];rfl
theorem FsL.fl {w:World} {A:Option Addr} {L:List Fr} (h:FsL w A L):FL w A L.length (ZfN L) (fun k=>(ZfN L k).q):=fun k hk=>by
 obtain ⟨b,off,e,hlt,h0,h1,h2⟩:=h.at_ hk;show ∃ b off,A = some ⟨b,off,none⟩ /\ b < w.heap.size /\ _ /\ _ /\ _ /\ Fv w (ZfN L k) (ZfN L k).q;rw [Zb9 hk];exact ⟨b,off,e,hlt,h0,h1,h2,(h.ok _ (yM hk)).1.fv⟩
/-! LATTICES -/
def arB (a b:Ar):Bool:=decide (a.fr < b.fr ∨ (a.fr = b.fr /\ (a.en < b.en ∨ (a.en = b.en /\ (a.wd < b.wd ∨ (a.wd = b.wd /\ a.vr < b.vr))))))
structure ArOk (F:Int) (a:Ar):Prop where
 fr : 0 <= a.fr
 lt:a.fr < a.en
 en:a.en <= F
 wd : 1 <= a.wd /\ a.wd <= 2000
 vr : 0 <= a.vr
 pos : 0 < a.x.q
 le:a.x.q <= 1
structure LatOk (F:Int) (L:List Ar):Prop where
 len:L.length <= 20000
 frm : 0 <= F /\ F <= 1000
 arc:∀ a ∈ L,ArOk F a
 ord:∀ i (h:i + 1 < L.length),arB L[i] L[i + 1] = true
/-! LANGUAGE MODELS -/
abbrev lgv (o v:Int) (A:Option Addr) (n c:Nat) (kd:Int) (x:Fr) (M:Option Addr) (mn mc:Nat):Array Value:=#[.int .i64 o,.int .i64 v,.slice A n c,.int .i64 kd,.bool x.neg,.slice x.A x.N.length x.c,.slice x.B x.D.length x.d,.slice M mn mc]
def Qs (Q:Nat -> Rat):Nat -> Rat
 | 0=>((0:Int):Rat)
 | n + 1=>Qs Q n + Q n
def qAt (M:List Fr) (k:Nat):Rat:=(ZfN M k).q
def ZjJ (n:Nat) (Q:Nat -> Rat):Prop:=(∀ k,k < n -> 0 <= Q k) /\ Qs Q n = 1 /\ 0 < Q 0
def ZiF (kd o:Int) (q:Rat) (mn:Nat) (mx:Nat -> Rat):Prop:=
 (kd = 1 /\ 0 < q /\ mn = 0) ∨ (kd = 2 /\ q = 0 /\ (mn:Int) = o + 1 /\ ZjJ mn mx) ∨ (kd = 3 /\ mn = 0 /\ 0 < q /\ q < 1) ∨ (kd = 4 /\ mn = 0 /\ q = 0)
theorem JN {x:Fr} {k l:Nat} (h:Few x k) (hl:k <= l):Few x l:=⟨tR h.n hl,tR h.d hl⟩
theorem ZbK {Q:Nat -> Rat} {l n:Nat} (h:∀ k,k < n -> Sz (Q k) l):∀ k,k <= n -> Sz (Qs Q k) (1 + (l + 1) * k)
 | 0,_=>(Sz.int (z:=0) (k:=1) (by rw [show Int.natAbs 0 = 0 from rfl,JE];simp) nR).mono (by omega)
 | k + 1,hk=>by
  have e:(l + 1) * (k + 1) = (l + 1) * k + (l + 1):=Nat.mul_succ ..
  exact ((ZbK h k (by omega)).add (h k (by omega))).mono (by omega)
structure PredII (g:FuncId) (lb:Array Value) (p:List Int -> Bool) (L:List Inn) (w:World):Prop where
 enter:∀ (args:Array Value) (w:World),(callFunc g args).run Tryz.prog w = .ok (.enter g args) w
 gives:∀ (u:World),Below w.heap.size w u -> ∀ x ∈ L,Calls Tryz.prog g (#[.slice x.1 x.2.2.length x.2.1] ++ lb) u (ZaE (p x.2.2) u)
def Zkg (b:Bool) (w:World) (e:Ending) (w':World):Prop:=∃ r:Int,e = .returned (.int .i64 r) /\ Below w.heap.size w w' /\ decide (0 <= r) = b
theorem Zbb {p:List Int -> Bool} {L:List Inn} {k:Nat} (hk:k < L.length) (h:((ZdW L).take k).any p = false) (hx:p L[k].2.2 = false):((ZdW L).take (k + 1)).any p = false:=by
 rw [List.take_succ_eq_append_getElem (by simpa using hk),List.any_append,h];simp [hx]
theorem Zci (g:FuncId) (q:Array Value) (p:List Int -> Bool) (A:Option Addr) (c:Nat) (L:List Inn) (w:World) (hp:PredII g q p L w) (h:LL w A L) (hn:L.length <= 9223372036854775807) (lb:Array Value) (hlb:lb = q) :
  Calls Tryz.prog 139 #[.slice A L.length c,.func (.func g) #[] lb] w (Zkg ((ZdW L).any p) w):=by
 have heg:=hp.enter;subst hlb;have HP:=zH hp.gives;clear hp;go_enter Tryz.func139,Tryz.ntmps139;go_wp2_with fail;go_loopw [8] (fun i wr=>∃ k:Nat,k <= L.length /\ i = .int .i64 k /\ Hid (((ZdW L).take k).any p = false) /\ Hid (Below w.heap.size w wr)) (fun i _=>L.length - (intOf i).toNat)
 case atStart=>exact ⟨0,Nat.zero_le _,rfl,zH rfl,zH bR⟩
 case round=>
  obtain ⟨k,hk,rfl,HN,HB⟩:=hrel;by_cases hlt:k < L.length
  ·obtain ⟨bk,off,rfl,hbk,hc⟩:=(h.below HB.out).lies.lat hlt;have HC:=zH (HP.out wr HB.out _ (yM hlt));have HT:Hid (p L[k].2.2 = true -> (ZdW L).any p = true):=zH (fun hx=>List.any_eq_true.2 ⟨L[k].2.2,List.mem_map_of_mem (f:=fun x:Inn=>x.2.2) (yM hlt),hx⟩);have HF:Hid (p L[k].2.2 = false -> ((ZdW L).take (k + 1)).any p = false):=zH (fun hx=>Zbb hlt HN.out hx);generalize L[k] = X at *
   obtain ⟨XA,Xc,xl⟩:=X;simp only at *
   cases hpx:p xl with
   | true=>
    have hT:=HT.out hpx;have HR:=zH hT;rw [hpx] at HC;clear hpx HT HF hT;go_wp2_with fail;refine HC.out.mono ?_;rintro e w' ⟨rfl,hb⟩;have HB2:=zH (HB.out.trans (hb.mono HB.out.size));clear hb HC;go_wp2_with fail;go_ret;exact ⟨k,rfl,HB2.out,by rw [HR.out];simp⟩
   | false=>
    have HR:=zH (HF.out hpx);rw [hpx] at HC;clear hpx HT HF;go_wp2_with fail;refine HC.out.mono ?_;rintro e w' ⟨rfl,hb⟩;have HB2:=zH (HB.out.trans (hb.mono HB.out.size));clear hb HC;go_wp2_with fail;exact ⟨⟨k + 1,by omega,by go_num,HR,HB2⟩,by simp [intOf];omega⟩
  ·have hz:=HN.out;rw [List.take_of_length_le (by simp;omega)] at hz;have HZ:=zH hz;clear hz HN;go_wp2_with fail;go_ret;exact ⟨-1,rfl,HB.out,by rw [HZ.out];rfl⟩
theorem Xp (g:FuncId) (q:Array Value) (p:List Int -> Bool) (A:Option Addr) (c:Nat) (L:List Inn) (w:World) (hp:PredII g q p L w) (h:LL w A L) (hn:L.length <= 9223372036854775807) (b:Bool) (hb:Hid ((ZdW L).any p = b)) :
  Calls Tryz.prog 85 #[.slice A L.length c,.func (.func g) #[] q] w (ZaE b w):=by
 go_enter Tryz.func85,Tryz.ntmps85;go_wp2_with fail;refine (Zci g q p A c L _ hp h hn q rfl).mono ?_;rintro e w' ⟨r,rfl,hbw,hr⟩;rw [hb.out] at hr;have HR:=zH hr;clear hr;go_wp2_with fail;go_ret;exact ⟨Jm HR.out,hbw⟩
theorem ZbH (A:Option Addr) (c n:Nat) (w:World) (b:Bool) (hb:Hid (decide (500 < n) = b)):Calls Tryz.prog 86 #[.slice A n c] w (ZaE b w):=by
 go_enter Tryz.func86,Tryz.ntmps86;go_wp2_with fail;go_ret;exact ⟨Jm (by rw [<- hb.out];simp [decide_eq_decide];omega),Below.refl _ _⟩
theorem ZdR (A:Option Addr) (c:Nat) (l:List Int) (v:Int) (bV:Nat) (w:World) (h:Lies w A (ics l)) (hn:l.length <= 9223372036854775807) (cV:w.cell? ⟨bV,0,none⟩ = some (.int .i64 v)) (b:Bool) (hb:Hid ((!XI 1 v l) = b)) :
  Calls Tryz.prog 87 #[.slice A l.length c,.pointer (some ⟨bV,0,none⟩)] w (ZaE b w):=by
 generalize hx:XI 1 v l = x at *
 have HX:=zH hx;clear hx;go_enter Tryz.func87,Tryz.ntmps87;go_wp2_with fail;refine (Xe A c l 1 v _ h hn x HX).mono ?_;rintro e w' ⟨rfl,hb2⟩;go_wp2_with fail;go_ret;exact ⟨Jm hb.out,hb2⟩
theorem Y5 (L:List Inn) (w:World):PredII 86 #[] (fun l=>decide (500 < l.length)) L w:=⟨enters_of Tryz.func86 (by kernel_rfl) rfl,fun u _ x _=>ZbH x.1 x.2.1 x.2.2.length u _ (zH rfl)⟩
theorem UZ (L:List Inn) (w:World) (v:Int) (bV:Nat) (hl:∀ x ∈ L,InOk w x) (cV:w.cell? ⟨bV,0,none⟩ = some (.int .i64 v)) (hb:bV < w.heap.size):PredII 87 #[.pointer (some ⟨bV,0,none⟩)] (fun l=>!XI 1 v l) L w:=
 ⟨enters_of Tryz.func87 (by kernel_rfl) rfl,fun u hu x hx=>ZdR x.1 x.2.1 x.2.2 v bV u ((hl x hx).below hu).1 (hl x hx).2.2.1 ((hu.cell (p:=⟨bV,0,none⟩) hb).trans cV) _ (zH rfl)⟩
theorem ZhH {q:Rat} (h:q = 0):Yu q = 0:=by rw [h];rfl
theorem Zel {q:Rat} (h : 0 < q):Yu q = 1:=by
 have h1:=Rat.num_nonneg.2 (Rat.le_of_lt h);have h2:q.num ≠ 0:=fun e=>by rw [Rat.num_eq_zero.1 e] at h;exact Rat.lt_irrefl h
 unfold Yu;rw [if_neg (by omega),if_neg h2]
theorem ZiM {q:Rat} (h : 0 <= q) : 0 <= Yu q:=by
 have h1:=Rat.num_nonneg.2 h;unfold Yu;rw [if_neg (by omega)];split <;> omega
theorem ZdI (x:Fr) (q:Rat) (w:World) (hx:Fv w x q) (fx:Few x 390000) (hq : 0 <= q):Calls Tryz.prog 192 #[x.val] w (ZaE false w):=by
 obtain ⟨W,hW⟩:∃ W:World,W = w.alloc (.cells #[.bool x.neg,.slice x.A x.N.length x.c,.slice x.B x.D.length x.d] 31):=⟨_,rfl⟩;have HB0:Hid (Below w.heap.size w W):=zH (by rw [hW];exact bR.alloc nR _);obtain ⟨s,hs⟩:∃ s,s = Yu q:=⟨_,rfl⟩;have hs0 : 0 <= s:=by rw [hs];exact ZiM hq
 have C:=zH (ZU x q W (hx.below HB0.out) fx s (zH hs.symm));clear hx hq hs;obtain ⟨xn,xA,xc,xN,xB,xd,xD⟩:=x;go_enter Tryz.func192,Tryz.ntmps192;go_wp2_with fail;rw [<- hW];clear hW;refine C.out.mono ?_;rintro e w1 ⟨rfl,hb⟩;have HB1:=zH (HB0.out.trans (hb.mono HB0.out.size));clear hb C;go_wp2_with fail;go_ret;exact ⟨Jm (by simp;omega),HB1.out⟩
theorem Ze9 (M:Option Addr) (n c:Nat) (X:Nat -> Fr) (Q:Nat -> Rat) (w:World) (h:FL w M n X Q) (hn:n <= 100000) (hf:∀ k,k < n -> Few (X k) 390000) (h0:∀ k,k < n -> 0 <= Q k) (lb:Array Value) (hlb:lb = #[]) :
  Calls Tryz.prog 209 #[.slice M n c,.func (.func 192) #[] lb] w (fun e w'=>e = .returned (.int .i64 (-1)) /\ Below w.heap.size w w'):=by
 have heg:=enters_of Tryz.func192 (by kernel_rfl) rfl;subst hlb;have HL:=zH h;have HF:=zH hf;have H0:=zH h0;clear h hf h0;go_enter Tryz.func209,Tryz.ntmps209;go_wp2_with fail;go_loopw [8] (fun i wr=>∃ k:Nat,k <= n /\ i = .int .i64 (k:Int) /\ Hid (Below w.heap.size w wr)) (fun i _=>n - (intOf i).toNat)
 case atStart=>exact ⟨0,Nat.zero_le _,rfl,zH bR⟩
 case round=>
  obtain ⟨k,hk,rfl,HB⟩:=hrel;by_cases hlt:k < n
  ·have hlt':(k:Int) < (n:Int):=by omega
   obtain ⟨bk,off,rfl,hbk,v0,v1,v2,hv⟩:=(HL.out.below HB.out) k hlt;have HC:=zH (ZdI (X k) (Q k) wr hv (HF.out k hlt) (H0.out k hlt));clear hv;generalize X k = x at *
   obtain ⟨xn,xA,xc,xN,xB,xd,xD⟩:=x;simp only at *
   go_wp2_with fail;refine HC.out.mono ?_;rintro e w' ⟨rfl,hb⟩;have HB2:=zH (HB.out.trans (hb.mono HB.out.size));clear hb HC v0 v1 v2;go_wp2_with fail;exact ⟨⟨k + 1,by omega,by go_num,HB2⟩,by simp [intOf];omega⟩
  ·obtain rfl:k = n:=by omega
   go_wp2_with fail;go_ret;exact ⟨rfl,HB.out⟩
theorem Zfx (M:Option Addr) (n c:Nat) (X:Nat -> Fr) (Q:Nat -> Rat) (w:World) (h:FL w M n X Q) (hn:n <= 100000) (hf:∀ k,k < n -> Few (X k) 390000) (h0:∀ k,k < n -> 0 <= Q k) :
  Calls Tryz.prog 191 #[.slice M n c,.func (.func 192) #[] #[]] w (ZaE false w):=by
 go_enter Tryz.func191,Tryz.ntmps191;go_wp2_with fail;refine (Ze9 M n c X Q _ h hn hf h0 #[] rfl).mono ?_;rintro e w' ⟨rfl,hb⟩;go_wp2_with fail;go_ret;exact ⟨Jm rfl,hb⟩
theorem Zft (M:Option Addr) (n c:Nat) (X:Nat -> Fr) (Q:Nat -> Rat) (w:World) (h:FL w M n X Q) (hn:n <= 800) (hf:∀ k,k < n -> Few (X k) 100) (h0:∀ k,k < n -> 0 <= Q k) (h1:Qs Q n = 1) :
  Calls Tryz.prog 175 #[.slice M n c] w (ZaE true w):=by
 have hsq:∀ k,k < n -> Sz (Q k) 100:=fun k hk=>by
  obtain ⟨_,_,_,_,_,_,_,hv⟩:=h k hk;exact hv.sz (hf k hk) (by decide)
 have HS:Hid (∀ k,k <= n -> Sz (Qs Q k) 81000):=zH (fun k hk=>(ZbK hsq k hk).mono (by have : 101 * k <= 101 * 800:=Nat.mul_le_mul_left _ (by omega);omega));have C1:=zH (Zfx M n c X Q w h (by omega) (fun k hk=>JN (hf k hk) (by decide)) h0);have C2:Hid (∀ u,Below w.heap.size w u -> Calls Tryz.prog 161 #[.slice M n c] u (Zu (Qs Q n) u)):=zH (fun u hu=>ZcA n X Q (Qs Q) M c u rfl (h.below hu) (by omega) (fun k _=>rfl) (fun k hk=>(HS.out k hk).mono (by decide)) (fun k hk=>JN (hf k hk) (by decide)));have S1:Hid (Sz (((1:Int)):Rat) 90000):=zH ((Sz.i64 (by omega) (by omega)).mono (by decide));have hcm:Hid (Yu (Qs Q n + -(((1:Int)):Rat)) = 0):=zH (ZhH (by rw [h1];simp;grind));clear h hf h0 h1 hsq;go_enter Tryz.func175,Tryz.ntmps175;go_wp2_with fail;refine C1.out.mono ?_;rintro e w1 ⟨rfl,hb1⟩;have C3:=zH (C2.out w1 hb1);have B1:=zH hb1;clear hb1 C1 C2;go_wp2_with fail;refine C3.out.mono ?_;rintro e w2 ⟨x,rfl,hx,hb2⟩;have HX:=zH hx;have B2:=zH (B1.out.trans (hb2.mono B1.out.size));clear hx hb2 C3;have C4:=zH (Xl 1 w2 (by omega) (by omega));go_wp2_with fail;refine C4.out.mono ?_;rintro e w3 ⟨y,rfl,hy,hb3⟩;have C5:=zH (Q3 x y _ _ w3 (HX.out.below hb3).fv hy.fv (HX.out.few ((HS.out n nR).mono (by decide))) (hy.few S1.out) 0 hcm);have B3:=zH (B2.out.trans (hb3.mono B2.out.size));clear hy hb3 C4;go_wp2_with fail;refine C5.out.mono ?_;rintro e w4 ⟨rfl,hb4⟩;have B4:=zH (B3.out.trans (hb4.mono B3.out.size));clear hb4 C5;go_wp2_with fail;go_ret;exact ⟨Jm rfl,B4.out⟩
end Go.Proofs.YtlgdlenoohkipaaGreat
namespace Go
def Y2 (t:Array Value):List Bool -> Nat -> List Value -> List Value
 | [],_,_=>[]
 | _ :: _,_,[]=>[]
 | true :: ms,k,_ :: vs=>t.getD k undef :: Y2 t ms (k + 1) vs
 | false :: ms,k,v :: vs=>v :: Y2 t ms (k + 1) vs
theorem UH (t:Array Value):∀ (m:List Bool) (k:Nat) (l:List Value),l.length = m.length -> (Y2 t m k l).length = m.length:=by
 intro m
 induction m with
 | nil=>intro k l _;rfl
 | cons b m ih=>
  intro k l h;cases l with
  | nil=>simp at h
  | cons v l=>cases b <;> simp [Y2,ih (k + 1) l (by simpa using h)]
theorem Zgt (t:Array Value):∀ (m:List Bool) (k:Nat) (l:List Value),l.length = m.length -> ∀ j,j < m.length -> (Y2 t m k l)[j]?.getD undef = if m[j]?.getD true then t.getD (k + j) undef else l[j]?.getD undef:=by
 intro m
 induction m with
 | nil=>intro k l _ j hj;simp at hj
 | cons b m ih=>
  intro k l h j hj;cases l with
  | nil=>simp at h
  | cons v l=>
   cases j with
   | zero=>cases b <;> simp [Y2]
   | succ j=>
    have:=ih (k + 1) l (by simpa using h) j (by simpa using hj);rw [show k + 1 + j = k + (j + 1) by omega] at this;cases b <;> simpa [Y2] using this
def Region.maskB (ops:Array Oper) (mask:List Bool):Bool:=(List.range mask.length).all fun k=>mask[k]?.getD true || Region.freeB ops k
theorem Ju {ops:Array Oper} (bb a:Act) (mask:List Bool) (l:List Value) (hl:a.tmps = l.toArray) (hN:bb.tmps.size = mask.length) (ha:l.length = mask.length) (hm:Region.maskB ops mask = true) (hd:bb.defers = a.defers)
  (hs:∀ k,Region.freeB ops k = true -> bb.tmps.getD k undef = a.tmps.getD k undef):bb = { tmps:=(Y2 bb.tmps mask 0 l).toArray,defers:=a.defers }:=by
 obtain ⟨t,d⟩:=bb;simp only at *
 congr 1;apply Array.ext
 ·simp [UH _ _ _ _ ha,hN]
 ·intro i h1 h2;have hi:i < mask.length:=by rw [<- hN];exact h1
  have h3:=Zgt t mask 0 l ha i hi;have h4:(Y2 t mask 0 l).toArray[i] = (Y2 t mask 0 l)[i]?.getD undef:=by
   rw [List.getElem?_eq_getElem (by rw [UH _ _ _ _ ha];exact hi)];rfl
  rw [h4,h3];have h5:t[i] = t.getD i undef:=by rw [Array.getD_eq_getD_getElem?,Array.getElem?_eq_getElem h1];rfl
  rw [Nat.zero_add];refine h5.trans ?_;by_cases hb:mask[i]?.getD true = true
  ·rw [if_pos hb]
  ·rw [if_neg hb];have:=List.all_eq_true.1 hm i (List.mem_range.2 hi);simp only [Bool.or_eq_true] at this;rcases this with h | h
   ·exact absurd h hb
   ·rw [hs i h,hl,Array.getD_eq_getD_getElem?];simp
end Go
namespace Go.Proofs.YtlgdlenoohkipaaGreat
open Go.RowKit Ear

def Fb (w:World) (k:Nat) (x:Fr):Prop:=w.heap[k]? = some (.cells #[.bool x.neg,.slice x.A x.N.length x.c,.slice x.B x.D.length x.d] 31 (0,0))
theorem Fb.lt {w:World} {k:Nat} {x:Fr} (h:Fb w k x):k < w.heap.size:=(aE h).1
theorem Fb.below {w w':World} {k:Nat} {x:Fr} (h:Fb w k x) (hb:Below w.heap.size w w'):Fb w' k x:=(hb.block k h.lt).trans h
theorem Fb.facts {w:World} {k:Nat} {x:Fr} (h:Fb w k x):w.cell? ⟨k,0,none⟩ = some (.bool x.neg) /\ w.cell? ⟨k,1,none⟩ = some (.slice x.A x.N.length x.c) /\ w.cell? ⟨k,2,none⟩ = some (.slice x.B x.D.length x.d) /\ w.frozen? ⟨k,0,none⟩ = false /\ w.frozen? ⟨k,1,none⟩ = false /\ w.frozen? ⟨k,2,none⟩ = false:=
 ⟨(Yn h).1,(Yn h).2.1,(Yn h).2.2,Jl h 0,Jl h 1,Jl h 2⟩
theorem Fb.new (w:World) (x:Fr):Fb (w.alloc (.cells #[.bool x.neg,.slice x.A x.N.length x.c,.slice x.B x.D.length x.d] 31)) w.heap.size x:=heap_alloc_new w _
theorem JR {w:World} {k b:Nat} (hne:b ≠ k) (v0 v1 v2:Value):(((w.setCell ⟨k,0,none⟩ v0).setCell ⟨k,1,none⟩ v1).setCell ⟨k,2,none⟩ v2).heap[b]? = w.heap[b]?:=
 (Below.heap_setCell _ ⟨k,2,none⟩ v2 b hne).trans ((Below.heap_setCell _ ⟨k,1,none⟩ v1 b hne).trans (Below.heap_setCell _ ⟨k,0,none⟩ v0 b hne))
theorem Fb.rowed {w:World} {r:Fr} {j k:Nat} (h:Fb w j r) (hne:j ≠ k) (v0 v1 v2:Value):Fb (((w.setCell ⟨k,0,none⟩ v0).setCell ⟨k,1,none⟩ v1).setCell ⟨k,2,none⟩ v2) j r:=(JR hne v0 v1 v2).trans h
theorem Fb.put {w:World} {x r:Fr} {k:Nat} (h:Fb w k x):Fb (((w.setCell ⟨k,0,none⟩ (.bool r.neg)).setCell ⟨k,1,none⟩ (.slice r.A r.N.length r.c)).setCell ⟨k,2,none⟩ (.slice r.B r.D.length r.d)) k r:=ZaV h _ _ _
theorem ZcY {w:World} {x:Fr} {k c:Nat} {A:Option Addr} {l:List Int} (h:Dg w A c l) (hb:Fb w k x) (v0 v1 v2:Value):Dg (((w.setCell ⟨k,0,none⟩ v0).setCell ⟨k,1,none⟩ v1).setCell ⟨k,2,none⟩ v2) A c l:=
 ⟨h.lies.apartRow hb (by simp) (fun b hne _=>JR hne v0 v1 v2),h.dig,h.cap,h.nil⟩
theorem Fq.rowed {w:World} {x r:Fr} {q:Rat} {k:Nat} (h:Fq w r q) (hb:Fb w k x) (v0 v1 v2:Value):Fq (((w.setCell ⟨k,0,none⟩ v0).setCell ⟨k,1,none⟩ v1).setCell ⟨k,2,none⟩ v2) r q:=
 ⟨⟨ZcY h.ok.n hb v0 v1 v2,ZcY h.ok.d hb v0 v1 v2⟩,h.neg,h.num,h.dn⟩
def JI:Fr:=⟨false,none,0,[],none,0,[]⟩
theorem Fq.zero (w:World):Fq w JI ((0:Int):Rat):=⟨⟨Dg.none w,Dg.none w⟩,by decide,by rw [show qn ((0:Int):Rat) = 0 by decide,JE];rfl,by decide⟩
end Go.Proofs.YtlgdlenoohkipaaGreat
