/- TalkClusters -/
import Derived.Test.YtcjicjfbippmnaaGreatMTClus21
set_option maxRecDepth 100000
set_option maxHeartbeats 32000000
namespace Go.Proofs.YtcjicjfbippmnaaGreat
open Go.RowKit Ear

abbrev Gm:=Inn × Int
abbrev JY (L:List Gm):List Value:=L.flatMap fun g=>[Value.slice g.1.1 g.1.2.2.length g.1.2.1,Value.int .i64 g.2]
abbrev Jl (L:List Gm):Tbl:=L.map fun g=>(g.1.2.2,g.2)
structure Tb (w:World) (A:Option Addr) (L:List Gm):Prop where
 lies:Lies w A (JY L)
 inn:∀ g ∈ L,InOk w g.1
 num:∀ g ∈ L,-9223372036854775808 <= g.2 /\ g.2 <= 9223372036854775807
theorem Tb.below {w w':World} {A:Option Addr} {L:List Gm} (h:Tb w A L) (hb:Below w.heap.size w w'):Tb w' A L:=⟨h.lies.below hb,fun g hg=>(h.inn g hg).below hb,h.num⟩
theorem Vh:∀ (L:List Gm) {k:Nat} (hk:k < L.length),(JY L)[k * 2]? = some (.slice L[k].1.1 L[k].1.2.2.length L[k].1.2.1) /\ (JY L)[k * 2 + 1]? = some (.int .i64 L[k].2)
 | [],k,hk=>by simp at hk
 | g :: L,0,_=>by simp [JY]
 | g :: L,k + 1,hk=>by
  have:=Vh L (k:=k) (by simpa using hk);rw [show (k + 1) * 2 = k * 2 + 1 + 1 by omega];simpa [JY] using this
theorem Js (L:List Gm):(JY L).length = L.length * 2:=by
 induction L with
 | nil=>rfl
 | cons g L ih=>simp [JY] at ih ⊢;omega
theorem Tb.at_ {w:World} {A:Option Addr} {L:List Gm} (h:Tb w A L) {k:Nat} (hk:k < L.length) :
  ∃ b off,A = some ⟨b,off,none⟩ /\ b < w.heap.size /\ w.cell? ⟨b,off + k * 2,none⟩ = some (.slice L[k].1.1 L[k].1.2.2.length L[k].1.2.1) /\ w.cell? ⟨b,off + k * 2 + 1,none⟩ = some (.int .i64 L[k].2):=by
 obtain ⟨b,off,e,hlt,hc⟩:=h.lies (by rw [Js];omega);obtain ⟨h1,h2⟩:=Vh L hk;exact ⟨b,off,e,hlt,hc _ _ h1,by rw [Nat.add_assoc];exact hc _ _ h2⟩
theorem Vv (A B:Option Addr) (c d:Nat) (a b:List Int) (w:World) (hA:Lies w A (ics a)) (hB:Lies w B (ics b)) (ha:a.length <= 9223372036854775807) (hb:b.length <= 9223372036854775807) (r:Int) (hr:Hid (Xd a b = r)) (m:Nat) :
  Calls Tryz.prog 150 #[.slice A a.length c,.slice B b.length d] (w.drewN m) fun e w'=>e = .returned (.int .i64 r) /\ ∃ k,w' = (w.drewN m).drewN k:=
 (VW A B c d a b (w.drewN m) (hA.drewN m) (hB.drewN m) ha hb r hr).mono fun _ _ ⟨h1,h2⟩=>⟨h1,0,h2.symm⟩
theorem _root_.Go.RowKit.Below.drw {B:Nat} {w w':World} (h:Below B w w') (n:Nat):Below B w (w'.drewN n):=⟨h.os,h.tape,h.output,h.size,h.block⟩
theorem ZF (o v:Int) (A:Option Addr) (c:Nat) (L:List Gm) (w:World) (h:Tb w A L) (hn:L.length <= 9223372036854775807) (r:Int) (hr:Hid (Uq o v (Jl L) = r)) :
  Calls Tryz.prog 97 #[.agg #[.int .i64 o,.int .i64 v,.slice A L.length c]] w (ZhA r w):=by
 obtain ⟨W,hW⟩:∃ W:World,W = w.alloc (.cells #[.int .i64 o,.int .i64 v,.slice A L.length c] 84):=⟨_,rfl⟩;have HTL:Hid ((Jl L).length = L.length):=zH (by simp);have HB0:Hid (Below w.heap.size w W):=zH (by rw [hW];exact bR.alloc nR _);have hWs:w.heap.size < W.heap.size:=by rw [hW];simp
 have HC:Hid (∀ u,Below W.heap.size W u -> u.cell? ⟨w.heap.size,0,none⟩ = some (.int .i64 o) /\ u.cell? ⟨w.heap.size,1,none⟩ = some (.int .i64 v) /\ u.cell? ⟨w.heap.size,2,none⟩ = some (.slice A L.length c)):=zH (fun u hu=>by
  have hs:w.heap.size < W.heap.size:=by rw [hW];simp
  rw [hu.cell (p:=⟨w.heap.size,0,none⟩) hs,hu.cell (p:=⟨w.heap.size,1,none⟩) hs,hu.cell (p:=⟨w.heap.size,2,none⟩) hs,hW];simp [go_sem])
 have HT:=zH (h.below HB0.out);have hr0:=hr.out;unfold Uq at hr0;rw [HTL.out] at hr0;have HRW:=zH (Below.refl W.heap.size W);clear h hr;obtain ⟨c0,c1,c2⟩:=HC.out W HRW.out;by_cases h1 : 20000 < L.length
 ·rw [if_pos h1] at hr0;subst hr0;go_enter Tryz.func97,Tryz.ntmps97;go_wp2_with fail;go_ret;exact ⟨rfl,by rw [<- hW];exact HB0.out⟩
 ·rw [if_neg h1] at hr0;cases hs:YG o v with
  | false=>
   rw [hs,if_neg (by decide)] at hr0;subst hr0;have HS:=zH hs;clear hs;go_enter Tryz.func97,Tryz.ntmps97;go_wp2_with (go_at_call 148;refine (VI o v _ false HS).mono ?_;rintro e w' ⟨rfl,rfl⟩);go_ret;exact ⟨rfl,by rw [<- hW];exact HB0.out⟩
  | true=>
   rw [hs,if_pos rfl] at hr0;have HS:=zH hs;have HR:=zH hr0;clear hs hr0;go_enter Tryz.func97,Tryz.ntmps97;go_wp2_with (go_at_call 148;refine (VI o v _ true HS).mono ?_;rintro e w' ⟨rfl,rfl⟩);rw [<- hW];clear hW c0 c1 c2;go_loopw [18] (fun i wr=>∃ k:Nat,k <= L.length /\ i = .int .i64 k /\ Hid (∀ j,j < k -> Y6 o v (Jl L) j = true) /\ Hid (Below W.heap.size W wr)) (fun i _=>L.length - (intOf i).toNat)
   case atStart=>exact ⟨0,by omega,rfl,zH (fun j hj=>by omega),HRW⟩
   case round=>
    obtain ⟨k,hk,rfl,HOK,HW⟩:=hrel;by_cases hlt:k < L.length
    ·obtain ⟨bk,off,rfl,hbk,hcw,hcn⟩:=(HT.out.below HW.out).at_ hlt;obtain ⟨c0,c1,c2⟩:=HC.out _ HW.out;have HX:=zH ((HT.out.below HW.out).inn _ (yM hlt));have hgk:ZfP (Jl L) k = (L[k].1.2.2,L[k].2):=(by rw [Xa (by rw [HTL.out];exact hlt)];simp);have hws:W.heap.size <= wr.heap.size:=HW.out.size;have hws2:w.heap.size < wr.heap.size:=(by omega);have HPRE:Hid (∀ j,j < k -> ∃ bj,∃ oj,bj = bk /\ oj = off /\ wr.cell? ⟨bk,off + j * 2,none⟩ = some (.slice (L[j]?.getD ((none,0,[]),0)).1.1 (L[j]?.getD ((none,0,[]),0)).1.2.2.length (L[j]?.getD ((none,0,[]),0)).1.2.1)):=zH (fun j hj=>by
      obtain ⟨b2,o2,e2,_,h2,_⟩:=(HT.out.below HW.out).at_ (k:=j) (by omega);cases e2;exact ⟨bk,off,rfl,rfl,by rw [gE (show j < L.length by omega)];exact h2⟩)
     have HXJ:Hid (∀ j,j < k -> InOk wr (L[j]?.getD ((none,0,[]),0)).1 /\ ZfP (Jl L) j = ((L[j]?.getD ((none,0,[]),0)).1.2.2,(L[j]?.getD ((none,0,[]),0)).2)):=zH (fun j hj=>by
      have hj':j < L.length:=(by omega);rw [gE hj'];exact ⟨(HT.out.below HW.out).inn _ (yM hj'),by rw [Xa (by rw [HTL.out];exact hj')];simp⟩)
     have HNO:Hid (Y6 o v (Jl L) k = false -> r = 2):=zH (fun hb=>by rw [<- HR.out,if_neg (by rw [ZhL (k:=k) (by rw [HTL.out];exact hlt) hb];decide)]);have HYES:Hid (Y6 o v (Jl L) k = true -> ∀ j,j < k + 1 -> Y6 o v (Jl L) j = true):=zH (fun hb j hj=>by
      by_cases e:j = k
      ·rw [e];exact hb
      ·exact HOK.out j (by omega))
     have HG:=zH hgk;clear hgk HOK;generalize L[k] = g at *
     obtain ⟨⟨XA,Xc,xl⟩,xn⟩:=g;simp only at *
     obtain ⟨V,hV⟩:∃ V:World,V = wr.alloc (.cells #[.slice XA xl.length Xc,.int .i64 xn] 114):=⟨_,rfl⟩;have HVB:Hid (Below wr.heap.size wr V):=zH (by rw [hV];exact bR.alloc nR _);have hVs:wr.heap.size < V.heap.size:=(by rw [hV];simp);have HVC:Hid (∀ u,Below V.heap.size V u -> u.cell? ⟨wr.heap.size,0,none⟩ = some (.slice XA xl.length Xc) /\ u.cell? ⟨wr.heap.size,1,none⟩ = some (.int .i64 xn) /\ u.cell? ⟨w.heap.size,0,none⟩ = some (.int .i64 o) /\ u.cell? ⟨w.heap.size,1,none⟩ = some (.int .i64 v) /\ u.cell? ⟨w.heap.size,2,none⟩ = some (.slice (some ⟨bk,off,none⟩) L.length c)):=zH (fun u hu=>by
      obtain ⟨a0,a1,a2⟩:=HC.out u ((HW.out.trans (HVB.out.mono HW.out.size)).trans (hu.mono (HW.out.trans (HVB.out.mono HW.out.size)).size));rw [hu.cell (p:=⟨wr.heap.size,0,none⟩) hVs,hu.cell (p:=⟨wr.heap.size,1,none⟩) hVs,hV];exact ⟨by simp [go_sem],by simp [go_sem],a0,a1,a2⟩)
     have HWV:=zH (HW.out.trans (HVB.out.mono HW.out.size));have HXV:=zH (HX.out.1.below HVB.out);have hxn:=HX.out.2.2.1;have HBF:=zH (HB0.out.trans (HWV.out.mono HB0.out.size));have HVR:=zH (Below.refl V.heap.size V);obtain ⟨d0,d1,d2,d3,d4⟩:=HVC.out V HVR.out;by_cases a1:(xl.length:Int) = o
     ·have q1:((xl.length:Int) != o) = false:=(by simp [a1]);cases ha2:YC 0 v xl with
      | false=>
       have HA2:=zH ha2;have hz:=HNO.out (by unfold Y6;rw [HG.out];simp [Zia,ha2]);subst hz;clear ha2 HNO HYES HR a1 HPRE HXJ;go_wp2_with fail;rw [<- hV];clear hV;refine (Xh XA Xc xl 0 v V HXV.out hxn false HA2).mono ?_;rintro e w2 ⟨rfl,hb2⟩;obtain ⟨d0,d1,d2,d3,d4⟩:=HVC.out w2 hb2;have HF:=zH (HBF.out.trans (hb2.mono HBF.out.size));clear hb2;go_wp2_with fail;go_ret;exact ⟨rfl,HF.out⟩
      | true=>
       have HA2:=zH ha2;clear ha2;by_cases a3 : 1 <= xn
       ·by_cases a4:xn <= 1073741824
        ·have HGM:Hid (Zia o v (xl,xn) = true):=zH (YY.2 ⟨a1,HA2.out,a3,a4⟩);by_cases hk0:k = 0
         ·have HOK2:=zH (HYES.out (by unfold Y6;rw [HG.out,HGM.out,hk0];rfl));have qk:decide ((0:Int) < (k:Int)) = false:=(by simp [hk0]);have qk2:decide (0 < k) = false:=(by simp [hk0]);clear HNO HYES HR a1 HPRE HXJ hk0;go_wp2_with fail;rw [<- hV];clear hV;refine (Xh XA Xc xl 0 v V HXV.out hxn true HA2).mono ?_;rintro e w2 ⟨rfl,hb2⟩;obtain ⟨d0,d1,d2,d3,d4⟩:=HVC.out w2 hb2;have HF:=zH (HWV.out.trans (hb2.mono HWV.out.size));clear hb2;go_wp2_with fail;go_quiet (fail);go_wp2_with fail;exact ⟨⟨k + 1,by omega,by go_num,HOK2,zH (HF.out.drw _)⟩,by simp [intOf];omega⟩
         ·obtain ⟨_,_,_,_,hpj⟩:=HPRE.out (k - 1) (by omega);obtain ⟨hxj,hgj⟩:=HXJ.out (k - 1) (by omega);generalize L[k - 1]?.getD ((none,0,[]),0) = gp at *
          obtain ⟨⟨PA,Pc,pl⟩,pn⟩:=gp;simp only at *
          have HPV:=zH (hxj.1.below HVB.out);have hpn:=hxj.2.2.1;have qk:decide ((0:Int) < (k:Int)) = true:=(by simp;omega);have qk2:decide (0 < k) = true:=(by simp;omega);have p1:IntKind.i64.wrap ((k:Int) - 1) = (k:Int) - 1:=IntWalk.i64_in _ (by omega);have p2:(0:Int) <= (k:Int) - 1:=(by omega);have p3:((k:Int) - 1).toNat = k - 1:=(by omega);have p4:(k:Int) - 1 < (L.length:Int):=(by omega);have p5 : 1 <= k:=(by omega);have p6:(1:Int) <= (k:Int):=(by omega);have p7 : 0 < k:=(by omega);have p8:¬ (L.length:Int) <= (k:Int) - 1:=(by omega);have p9:¬ ((k:Int) - 1 < 0):=(by omega);obtain ⟨s,hs⟩:∃ s,s = Xd pl xl:=⟨_,rfl⟩;have HS2:=zH hs.symm;have HROW:Hid (Y6 o v (Jl L) k = decide (s < 0)):=zH (by unfold Y6;rw [HG.out,HGM.out,hgj,hs];simp [hk0]);have hbj:bk < wr.heap.size:=hbk;have HPC:Hid (∀ u,Below V.heap.size V u -> u.cell? ⟨bk,off + (k - 1) * 2,none⟩ = some (.slice PA pl.length Pc)):=zH (fun u hu=>by
           rw [hu.cell (p:=⟨bk,off + (k - 1) * 2,none⟩) (show bk < V.heap.size by omega),HVB.out.cell (p:=⟨bk,off + (k - 1) * 2,none⟩) hbk];exact hpj)
          by_cases hlt0:s < 0
          ·have HOK2:=zH (HYES.out (by rw [HROW.out];simp [hlt0]));clear HNO HYES HR a1 HPRE HXJ hk0 hs hgj hxj hpj;go_wp2_with fail;rw [<- hV];clear hV;refine (Xh XA Xc xl 0 v V HXV.out hxn true HA2).mono ?_;rintro e w2 ⟨rfl,hb2⟩;obtain ⟨d0,d1,d2,d3,d4⟩:=HVC.out w2 hb2;have e0:=HPC.out w2 hb2;have HF:=zH (HWV.out.trans (hb2.mono HWV.out.size));have HQ:=zH (fun m=>Vv PA XA Pc Xc pl xl w2 (HPV.out.below hb2) (HXV.out.below hb2) hpn hxn s HS2 m);clear hb2;go_wp2_with fail;go_quiet ((go_at_call 150;exact Calls.quiet_of (HQ.out _)));go_wp2_with fail;exact ⟨⟨k + 1,by omega,by go_num,HOK2,zH (HF.out.drw _)⟩,by simp [intOf];omega⟩
          ·have hz:=HNO.out (by rw [HROW.out];simp [hlt0]);subst hz;have hge : 0 <= s:=(by omega);clear HNO HYES HR a1 HPRE HXJ hk0 hs hgj hxj hpj;go_wp2_with fail;rw [<- hV];clear hV;refine (Xh XA Xc xl 0 v V HXV.out hxn true HA2).mono ?_;rintro e w2 ⟨rfl,hb2⟩;obtain ⟨d0,d1,d2,d3,d4⟩:=HVC.out w2 hb2;have e0:=HPC.out w2 hb2;have HF:=zH (HBF.out.trans (hb2.mono HBF.out.size));have HQ:=zH (fun m=>Vv PA XA Pc Xc pl xl w2 (HPV.out.below hb2) (HXV.out.below hb2) hpn hxn s HS2 m);clear hb2;go_wp2_with fail;go_quiet ((go_at_call 150;exact Calls.quiet_of (HQ.out _)));go_wp2_with fail;go_ret;exact ⟨rfl,HF.out.drw _⟩
        ·have hz:=HNO.out (by unfold Y6;rw [HG.out,Bool.eq_false_iff];intro ht;rw [Bool.and_eq_true] at ht;exact a4 (YY.1 ht.1).2.2.2);subst hz;clear HNO HYES HR a1 HPRE HXJ;go_wp2_with fail;rw [<- hV];clear hV;refine (Xh XA Xc xl 0 v V HXV.out hxn true HA2).mono ?_;rintro e w2 ⟨rfl,hb2⟩;obtain ⟨d0,d1,d2,d3,d4⟩:=HVC.out w2 hb2;have HF:=zH (HBF.out.trans (hb2.mono HBF.out.size));clear hb2;go_wp2_with fail;go_ret;exact ⟨rfl,HF.out⟩
       ·have hz:=HNO.out (by unfold Y6;rw [HG.out,Bool.eq_false_iff];intro ht;rw [Bool.and_eq_true] at ht;exact a3 (YY.1 ht.1).2.2.1);subst hz;clear HNO HYES HR a1 HPRE HXJ;go_wp2_with fail;rw [<- hV];clear hV;refine (Xh XA Xc xl 0 v V HXV.out hxn true HA2).mono ?_;rintro e w2 ⟨rfl,hb2⟩;obtain ⟨d0,d1,d2,d3,d4⟩:=HVC.out w2 hb2;have HF:=zH (HBF.out.trans (hb2.mono HBF.out.size));clear hb2;go_wp2_with fail;go_ret;exact ⟨rfl,HF.out⟩
     ·have q1:((xl.length:Int) != o) = true:=(by simp [a1]);have hz:=HNO.out (by unfold Y6;rw [HG.out,Bool.eq_false_iff];intro ht;rw [Bool.and_eq_true] at ht;exact a1 (YY.1 ht.1).1);subst hz;clear HNO HYES HR HPRE HXJ;go_wp2_with fail;go_ret;exact ⟨rfl,by rw [<- hV];exact HBF.out⟩
    ·obtain rfl:k = L.length:=(by omega);have hz:r = 0:=(by rw [<- HR.out,if_pos (Zdy fun j hj=>HOK.out j (by rw [<- HTL.out];exact hj))]);subst hz;have HF:=zH (HB0.out.trans (HW.out.mono HB0.out.size));go_wp2_with fail;go_ret;exact ⟨rfl,HF.out⟩
def kx (l:List Int) (j i:Nat):Int:=if i < j then l[i]?.getD 0 + 1 else 0
def kcs (l:List Int) (j:Nat):Array Value:=#[.int .i64 (kx l j 0),.int .i64 (kx l j 1),.int .i64 (kx l j 2),.int .i64 (kx l j 3)]
theorem Zg2 {l:List Int} {j:Nat} (hj:j < 4):(kcs l j).setIfInBounds j (.int .i64 (l[j]?.getD 0 + 1)) = kcs l (j + 1):=by
 rcases (show j = 0 ∨ j = 1 ∨ j = 2 ∨ j = 3 by omega) with rfl | rfl | rfl | rfl <;> simp [kcs,kx]
theorem ZfK (l:List Int):kcs l 0 = #[.int .i64 0,.int .i64 0,.int .i64 0,.int .i64 0]:=by simp [kcs,kx]
abbrev K4:=Int × Int × Int × Int
def ek (k:K4):Value:=.agg #[.int .i64 k.1,.int .i64 k.2.1,.int .i64 k.2.2.1,.int .i64 k.2.2.2]
theorem Zgu:Inj ek:=fun a b h=>by
 obtain ⟨a0,a1,a2,a3⟩:=a;obtain ⟨b0,b1,b2,b3⟩:=b;simp [ek] at h;obtain ⟨rfl,rfl,rfl,rfl⟩:=h;rfl
def kOf (l:List Int):K4:=(kx l l.length 0,kx l l.length 1,kx l l.length 2,kx l l.length 3)
theorem JQ {t:TypeId} {w:World} {k:Nat} {cs:Array Value} (h:w.heap[k]? = some (.cells cs t (0,0))) (j:Nat) (v:Value):(w.setCell ⟨k,j,none⟩ v).heap[k]? = some (.cells (cs.setIfInBounds j v) t (0,0)):=by
 simp [World.setCell,Array.getElem?_modify,h]
theorem Za2 (A:Option Addr) (c:Nat) (l:List Int) (w:World) (h:Lies w A (ics l)) (hl:l.length <= 4) (hb:Hid (∀ x ∈ l,0 <= x /\ x <= 1000000)) :
  Calls Tryz.prog 157 #[.slice A l.length c] w fun e w'=>e = .returned (ek (kOf l)) /\ Below w.heap.size w w':=by
 obtain ⟨W,hW⟩:∃ W:World,W = (w.alloc (.cells #[.int .i64 0,.int .i64 0,.int .i64 0,.int .i64 0] 203)).alloc (.cells #[.int .i64 0,.int .i64 0,.int .i64 0,.int .i64 0] 203):=⟨_,rfl⟩;have HB0:Hid (Below w.heap.size w W):=zH (by rw [hW];exact (bR.alloc nR _).alloc (by simp) _);have HK:Hid (W.heap[w.heap.size + 1]? = some (.cells (kcs l 0) 203 (0,0))):=zH (by rw [hW,ZfK];have:=heap_alloc_new (w.alloc (.cells #[.int .i64 0,.int .i64 0,.int .i64 0,.int .i64 0] 203)) (.cells #[.int .i64 0,.int .i64 0,.int .i64 0,.int .i64 0] 203);simpa using this);have HR:Hid (W.heap[w.heap.size]? = some (.cells #[.int .i64 0,.int .i64 0,.int .i64 0,.int .i64 0] 203 (0,0))):=zH (by rw [hW];exact (Below.heap_alloc _ _ _ (by simp)).trans (heap_alloc_new w _));have H:=zH h;clear h;go_enter Tryz.func157,Tryz.ntmps157;go_wp2_with fail;rw [<- hW];clear hW;go_loopw [8] (fun i wr=>∃ j:Nat,j <= l.length /\ i = .int .i64 j /\ Hid (wr.heap[w.heap.size + 1]? = some (.cells (kcs l j) 203 (0,0))) /\ Hid (wr.heap[w.heap.size]? = some (.cells #[.int .i64 0,.int .i64 0,.int .i64 0,.int .i64 0] 203 (0,0))) /\ Hid (Below w.heap.size w wr)) (fun i _=>l.length - (intOf i).toNat)
 case atStart=>exact ⟨0,by omega,rfl,HK,HR,HB0⟩
 case round=>
  obtain ⟨j,hj,rfl,HKr,HRr,HBr⟩:=hrel;clear HK HR HB0;by_cases hlt:j < l.length
  ·obtain ⟨bx,ox,rfl,hbx,hcx⟩:=(H.out.below HBr.out).at_ hlt;have hx:=hb.out _ (yM hlt);have HS:=zH (Zg2 (l:=l) (j:=j) (by omega));have e1:l[j]?.getD 0 = l[j]:=(by rw [gE hlt];rfl);rw [e1] at HS hcx;clear e1;generalize l[j] = x at *
   have q1:∃ u,wr.cell? ⟨w.heap.size + 1,j,none⟩ = some u:=by
    rw [cell_of_row wr _ j _ _ _ HKr.out];have hs:j < (kcs l j).size:=(by simp [kcs];omega);exact ⟨_,Array.getElem?_eq_getElem hs⟩
   obtain ⟨u,q1⟩:=q1;have q2:wr.frozen? ⟨w.heap.size + 1,j,none⟩ = false:=JB HKr.out j;have hj4:j < 4:=(by omega);go_wp2_with fail;refine ⟨⟨j + 1,by omega,by go_num,zH ?_,zH ?_,zH ?_⟩,by simp [intOf];omega⟩
   ·rw [JQ HKr.out,HS.out]
   ·exact (Below.heap_setCell _ _ _ _ (by simp)).trans HRr.out
   ·exact HBr.out.setCell (by simp) _
  ·obtain rfl:j = l.length:=by omega
   have k0:=cell_of_row wr _ 0 _ _ _ HKr.out;have k1:=cell_of_row wr _ 1 _ _ _ HKr.out;have k2:=cell_of_row wr _ 2 _ _ _ HKr.out;have k3:=cell_of_row wr _ 3 _ _ _ HKr.out;have r0:=cell_of_row wr _ 0 _ _ _ HRr.out;have r1:=cell_of_row wr _ 1 _ _ _ HRr.out;have r2:=cell_of_row wr _ 2 _ _ _ HRr.out;have r3:=cell_of_row wr _ 3 _ _ _ HRr.out;have f0:wr.frozen? ⟨w.heap.size,0,none⟩ = false:=JB HRr.out 0;have f1:wr.frozen? ⟨w.heap.size,1,none⟩ = false:=JB HRr.out 1;have f2:wr.frozen? ⟨w.heap.size,2,none⟩ = false:=JB HRr.out 2;have f3:wr.frozen? ⟨w.heap.size,3,none⟩ = false:=JB HRr.out 3;simp [kcs] at k0 k1 k2 k3 r0 r1 r2 r3;go_wp2_with fail;have R4:=JQ (JQ (JQ (JQ HRr.out 0 (.int .i64 (kx l l.length 0))) 1 (.int .i64 (kx l l.length 1))) 2 (.int .i64 (kx l l.length 2))) 3 (.int .i64 (kx l l.length 3));have g0:=cR 0 R4;have g1:=cR 1 R4;have g2:=cR 2 R4;have g3:=cR 3 R4;simp at g0 g1 g2 g3;refine bodyPost_ret (v:=ek (kOf l)) (by simp [results,Tryz.results157,go_sem,g0,g1,g2,g3,ek,kOf]) rfl ?_;exact ⟨rfl,(((HBr.out.setCell nR _).setCell nR _).setCell nR _).setCell nR _⟩
def AllC (p:Value -> Prop) (w:World) (g:Nat):Prop:=∃ cs e,w.heap[g]? = some (.cells cs e (0,0)) /\ ∀ u ∈ cs,p u
section
variable {p:Value -> Prop} {w w':World} {g:Nat}
theorem AllC.block (h:AllC p w g) (hb:w'.heap[g]? = w.heap[g]?):AllC p w' g:=by
 obtain ⟨cs,e,h1,h2⟩:=h;exact ⟨cs,e,hb.trans h1,h2⟩
theorem AllC.cell (h:AllC p w g) {off:Nat} {v:Value} (hv:w.cell? ⟨g,off,none⟩ = some v):p v:=by
 obtain ⟨cs,e,h1,h2⟩:=h;rw [cell_of_row w g off cs e _ h1] at hv;exact h2 v (Array.mem_of_getElem? hv)
theorem AllC.set (h:AllC p w g) (j:Nat) {v:Value} (hv:p v):AllC p (w.setCell ⟨g,j,none⟩ v) g:=by
 obtain ⟨cs,e,h1,h2⟩:=h;refine ⟨_,e,JQ h1 j v,fun u hu=>?_⟩;rcases Array.mem_or_eq_of_mem_setIfInBounds hu with h | h
 ·exact h2 u h
 ·rw [h];exact hv
theorem AllC.setCells:∀ (vs:List Value) (o:Nat) (w:World),AllC p w g -> (∀ u ∈ vs,p u) -> AllC p (w.setCells g o vs) g
 | [],_,_,h,_=>h
 | v :: r,o,_,h,hv=>AllC.setCells r (o + 1) _ (h.set o (hv v (List.mem_cons_self ..))) (fun u hu=>hv u (List.mem_cons_of_mem _ hu))
end
theorem Zdb {P:Program} {p:Value -> Prop} (w:World) (base:Nat) (t ty e:TypeId) (i:TypeInfo) (z:Value) (size bytes:Nat) (ht:P.underlying t = some (.slice e)) (hi:P.info? e = some i) (hz:i.zero = some z)
  (hsize:i.size = size) (hby:i.bytes = bytes) (hzs:z.cells.size = size) (hsz : 0 < size)
  (v:Value) (n:Nat) (xs:List Value) (hown:w.ownsRow base e size v n xs)
  (a:Addr) (m c:Nat) (news:List Value) (hl:news.length = m * size) (hnews:∀ j u,news[j]? = some u -> w.cell? (a.add j) = some u) (h1:∀ u ∈ news,u.oneCell' = true)
  (h63:n + m <= maxLen) (hbytes:(n + m) * bytes <= 140737488355328) (hm : 0 < m)
  (hp:∀ g,v.ownBlock = some g -> AllC p w g) (hzp:∀ u ∈ z.cells,p u) (hnp:∀ u ∈ news,p u) (hxp:∀ u ∈ xs,p u)
  {v':Value} {w':World} (hr:(Builtin.append_ #[t,t] ty #[v,.slice (some a) m c]).run P w = .ok v' w'):∀ g,v'.ownBlock = some g -> AllC p w' g:=by
 subst hsize;subst hby;have hsmall:n + m <= 9223372036854775807:=by simp only [maxLen] at h63;omega
 have zer:∀ k,∀ u ∈ Builtin.zeroCells z.cells k,p u:=fun k u hu=>by
  unfold Builtin.zeroCells at hu;obtain ⟨j,hj,rfl⟩:=Array.getElem_of_mem hu;simp only [Array.getElem_map,Array.getElem_range];have hlt:j % z.cells.size < z.cells.size:=Nat.mod_lt _ (by omega);rw [getElem!_pos z.cells _ hlt];exact hzp _ (Array.getElem_mem hlt)
 have news9:∀ (W:World) (k:Nat),∀ g,(Value.slice (some ⟨W.heap.size,0,none⟩) (n + m) k).ownBlock = some g -> AllC p (W.alloc (.cells (xs.toArray ++ news.toArray ++ Builtin.zeroCells z.cells (k - (n + m))) e)) g:=fun W k g hg=>by
  simp [Value.ownBlock] at hg;subst hg;refine ⟨_,_,heap_alloc_new W _,fun u hu=>?_⟩;simp only [Array.mem_append,List.mem_toArray] at hu;rcases hu with (hu | hu) | hu
  ·exact hxp u hu
  ·exact hnp u hu
  ·exact zer _ u hu
 rcases hown.2 with ⟨rfl,rfl⟩ | ⟨g,cap,cur,rfl,hbg,hg,hnc,hcm,hcs,htake⟩
 ·have hx:xs = []:=List.eq_nil_of_length_eq_zero (by simpa using hown.1);subst hx;have hr':=run_append_nil (P:=P) w t ty e i z ht hi hz a m c news hl hnews (by omega) (by omega) (by have hb:=hbytes;simp only [Nat.zero_add] at hb;omega);rw [hr] at hr';injection hr' with e1 e2
  subst e1 e2;have:=news9 w.drew (grownCap w m 0 e);simp only [Nat.zero_add,Array.empty_append] at this;exact this
 ·by_cases hroom:n + m <= cap
  ·have hfit:n * i.size + news.length <= cur.size:=by rw [hl,hcs,<- Nat.add_mul];exact Nat.mul_le_mul_right _ hroom
   have hr':=run_append_room_cells (P:=P) w t ty e i ht hi g 0 n cap a m c news hl hnews h1 hroom (fun j hj=>by
    rw [Nat.zero_add,cell_of_row w g _ cur e (0,0) hg,Array.getElem?_eq_getElem (by omega)];rfl) (fun j _=>by simp [World.frozen?,hg])
   rw [hr] at hr';injection hr' with e1 e2
   subst e1 e2;intro g' hg';simp [Value.ownBlock] at hg';subst hg';exact AllC.setCells _ _ _ (hp _ rfl) hnp
  ·have holds:∀ j u,xs[j]? = some u -> w.cell? ((⟨g,0,none⟩:Addr).add j) = some u:=hown.cells (g:=g) rfl;have hr':=run_append_grow (P:=P) w t ty e i z ht hi hz ⟨g,0,none⟩ n cap xs hown.1 holds a m c news hl hnews (by omega) (by omega) (growslice_fits (by omega) hbytes);rw [hr] at hr';injection hr' with e1 e2
   subst e1 e2;exact news9 w.drew (grownCap w (n + m) cap e)
theorem Vx {P:Program} (w:World) {ops:Array Oper} {rest:List Oper} {o:Oper} {a:Act} {Q:Exit -> Act -> World -> Prop} (hgd:o.guard = none) (s x:Operand) (t:TypeId)
  (ho:o.op = .call { callee:=.builtin .append,args:=#[s,x],argTypes:=#[t,t] }) (v xv:Value) (hs:a.eval s = v) (hx:a.eval x = xv) {v':Value} {w':World} (hr:(Builtin.append_ #[t,t] o.type #[v,xv]).run P w = .ok v' w')
  (h:wpList P ops Q rest (a.put o.dst v') w'):wpList P ops Q (o :: rest) a w:=
 wpList_plain hgd fun _ hK=>by
  unfold Oper.wp execOp;simp only [ho,resolve,invoke,builtin,Sem.run_bind,Sem.run_pure,Result.andThen_ok,List.map_toArray,List.map_cons,List.map_nil,hs,hx,hr];exact hK _ _ h
end Go.Proofs.YtcjicjfbippmnaaGreat
namespace Go.Proofs.YtcjicjfbippmnaaGreat
open Go.RowKit Ear
theorem Qt (x:Fr) (q:Rat) (w:World) (hx:Fv w x q) (fx:Few x 90000):Calls Tryz.prog 77 #[x.val] w (Yr q w):=by
 obtain ⟨W,hW⟩:∃ W:World,W = (w.alloc (.cells #[.bool x.neg,.slice x.A x.N.length x.c,.slice x.B x.D.length x.d] 28)).alloc (.cells #[.bool false,.slice none 0 0,.slice none 0 0] 28):=⟨_,rfl⟩;have HB0:Hid (Below w.heap.size w W):=zH (by rw [hW];exact al2 w _ _);have HXB:Hid (Fb W w.heap.size x):=zH (by rw [hW];exact (Fb.new w x).below (bR.alloc nR _));have HBX:Hid (Bt 28 W (w.heap.size + 1)):=zH (by rw [hW];have:=Bt.new 28 (w.alloc (.cells #[.bool x.neg,.slice x.A x.N.length x.c,.slice x.B x.D.length x.d] 28));simpa using this);have C1:=zH (XG x q W (hx.below HB0.out) ⟨tR fx.n (by decide),tR fx.d (by decide)⟩);have SQ:=zH ((hx.sz fx (by decide)).mono (show 90000 <= 900000 by decide));have C3:=zH (fun (r:Fr) (u:World) (hr:Nm u r q)=>Y8 r q u hr SQ.out);obtain ⟨c0,c1,c2,-,-,-⟩:=HXB.out.facts;clear hx;go_enter Tryz.func77,Tryz.ntmps77;go_wp2_with fail;rw [<- hW];clear hW;go_wp2_with fail;refine C1.out.mono ?_;rintro e w2 ⟨r,rfl,hr,hb2⟩;have R2:=zH hr;have B2:=zH hb2;clear hr hb2 c0 c1 c2;go_wp2_with fail;refine (C3.out r w2 R2.out).mono ?_;rintro e w3 ⟨f,rfl,hf,hb3⟩;have R3:=zH hf;have B3:=zH (B2.out.trans (hb3.mono B2.out.size));have X3:=zH (HBX.out.below B3.out);have BW:=zH (HB0.out.trans (B3.out.mono HB0.out.size));clear hf hb3 B2 B3 R2 C1 C3 HBX HB0;obtain ⟨k0,k1,k2,f0,f1,f2⟩:=X3.out.facts;obtain ⟨rn,rA,rc,rN,rB,rd,rD⟩:=f;go_wp2_with fail;obtain ⟨g0,g1,g2⟩:=Y1 (.bool rn) (.slice rA rN.length rc) (.slice rB rD.length rd) k0 k1 k2;refine bodyPost_ret (v:=.agg #[.bool rn,.slice rA rN.length rc,.slice rB rD.length rd]) (by simp [results,Tryz.results77,go_sem,g0,g1,g2]) rfl ?_;exact ⟨⟨rn,rA,rc,rN,rB,rd,rD⟩,rfl,JI R3.out X3.out _ _ _,Je BW.out (Nat.le_succ _) _ _ _⟩
end Go.Proofs.YtcjicjfbippmnaaGreat
namespace Ear
structure PFl where
 st:Int
 val:BA
 ref:List BA
structure PDl where
 pat:Int
 prm:Int
 need:Int
 S:List PSl
 F:List PFl
 stand:Int
 bad:Int
 cuts:Int
 prompt:Int
 last:Int
end Ear
namespace Go.Proofs.YtcjicjfbippmnaaGreat
open Go.RowKit Ear

def ZaV (v:Value):Prop:=∀ n,v ≠ .int .u32 n
def KU (w w':World):Prop:=∀ A l,Lies w A (ucs l) -> Lies w' A (ucs l)
theorem KU.trans {a b c:World} (h:KU a b) (k:KU b c):KU a c:=fun A l x=>k A l (h A l x)
theorem KU.below {w w':World} (hb:Below w.heap.size w w'):KU w w':=fun _ _ h=>h.below hb
theorem KU.set {w:World} {a:Addr} {v0:Value} (h0:w.cell? a = some v0) (hn:ZaV v0) (u:Value):KU w (w.setCell a u):=fun A l h hl=>by
 obtain ⟨b,off,e,hb,hc⟩:=h hl;refine ⟨b,off,e,by simpa [World.setCell] using hb,fun k x hx=>?_⟩;rw [World.cell?_setCell_other _ _ _ _ ?_]
 ·exact hc k x hx
 ·rintro rfl;rw [hc k x hx] at h0;injection h0 with h0
  subst h0;simp only [List.getElem?_map] at hx;cases hq:l[k]? with
  | none=>rw [hq] at hx;cases hx
  | some y=>rw [hq] at hx;injection hx with hx;exact hn y hx.symm
theorem KU.sets {g:Nat}:∀ (vs:List Value) (o:Nat) (w:World),(∀ j,j < vs.length -> ∃ v0,w.cell? ⟨g,o + j,none⟩ = some v0 /\ ZaV v0) -> KU w (w.setCells g o vs)
 | [],_,_,_=>fun _ _ h=>h
 | v :: r,o,w,h=>by
  obtain ⟨v0,h0,hn⟩:=h 0 (by simp);refine (KU.set (a:=⟨g,o,none⟩) (by simpa using h0) hn v).trans (KU.sets r (o + 1) _ fun j hj=>?_);obtain ⟨v1,h1,hn1⟩:=h (j + 1) (by simpa using hj);exact ⟨v1,by rw [World.cell?_setCell_other _ _ _ _ (by intro h;injection h with _ h;omega),show o + 1 + j = o + (j + 1) by omega];exact h1,hn1⟩
theorem KU.all {w w':World} {g:Nat} (ha:AllC ZaV w g) (hg:w.grownBy w' (some g)):KU w w':=fun A l h hl=>by
 obtain ⟨b,off,e,hb,hc⟩:=h hl;have hne:b ≠ g:=by
  rintro rfl;have hl' : 0 < l.length:=by simpa using hl
  have:=hc 0 (.int .u32 l[0]) (by simp [gE hl']);exact (ha.cell this) _ rfl
 exact ⟨b,off,e,Nat.lt_of_lt_of_le hb hg.size,fun k x hx=>(World.cell?_of_block (a:=⟨b,off + k,none⟩) (hg.block b hb (by intro e;injection e with e;exact hne e))).trans (hc k x hx)⟩
theorem Dg.ku {w w':World} {A:Option Addr} {c:Nat} {l:List Int} (h:Dg w A c l) (k:KU w w'):Dg w' A c l:=⟨k A l h.lies,h.dig,h.cap,h.nil⟩
theorem Fq.ku {w w':World} {x:Fr} {q:Rat} (h:Fq w x q) (k:KU w w'):Fq w' x q:=⟨⟨h.ok.n.ku k,h.ok.d.ku k⟩,h.neg,h.num,h.dn⟩
structure FlM where
 st:Int
 val:BA
 A:Option Addr
 c:Nat
 ref:List BA
def FlM.pure (f:FlM):PFl:=⟨f.st,f.val,f.ref⟩
def flc (f:FlM):List Value:=[.int .i64 f.st,.string f.val,.slice f.A f.ref.length f.c]
def XQ (Fs:List FlM):List Value:=Fs.flatMap flc
theorem Yn (Fs:List FlM):(XQ Fs).length = Fs.length * 3:=by
 induction Fs with
 | nil=>rfl
 | cons x l ih=>simp only [XQ,List.flatMap_cons,List.length_append] at ih ⊢;rw [ih];simp [flc];omega
theorem ZbW (a b:List FlM):XQ (a ++ b) = XQ a ++ XQ b:=by simp [XQ]
theorem Vl:∀ (Fs:List FlM) {k:Nat} (hk:k < Fs.length) (j:Nat),j < 3 -> (XQ Fs)[k * 3 + j]? = (flc Fs[k])[j]?
 | s :: l,0,_,j,hj=>by
  simp only [XQ,List.flatMap_cons,Nat.zero_mul,Nat.zero_add,List.getElem_cons_zero];exact List.getElem?_append_left (by simp [flc];exact hj)
 | s :: l,k + 1,hk,j,hj=>by
  have ih:=Vl l (k:=k) (by simpa using hk) j hj;simp only [XQ,List.flatMap_cons,List.getElem_cons_succ] at ih ⊢;rw [List.getElem?_append_right (by simp [flc];omega),<- ih];congr 1;simp [flc];omega
theorem Lies.same {w w':World} {A:Option Addr} {xs:List Value} (h:Lies w A xs) (hs:w.heap.size <= w'.heap.size) (hk:∀ b off,A = some ⟨b,off,none⟩ -> 0 < xs.length -> b < w.heap.size -> (∀ k v,xs[k]? = some v -> w.cell? ⟨b,off + k,none⟩ = some v) -> w'.heap[b]? = w.heap[b]?):Lies w' A xs:=fun hl=>by
 obtain ⟨b,off,e,hb,hc⟩:=h hl;have hbl:=hk b off e hl hb hc;exact ⟨b,off,e,Nat.lt_of_lt_of_le hb hs,fun k v hv=>(World.cell?_of_block (a:=⟨b,off + k,none⟩) hbl).trans (hc k v hv)⟩
theorem Zcv {w:World} {b off g:Nat} {l:List Int} (hl : 0 < (ucs l).length) (hc:∀ k v,(ucs l)[k]? = some v -> w.cell? ⟨b,off + k,none⟩ = some v) (ha:AllC ZaV w g):b ≠ g:=by
 rintro rfl;have hl' : 0 < l.length:=by simpa using hl
 have:=hc 0 (.int .u32 l[0]) (by simp [gE hl']);exact (ha.cell this) _ rfl
theorem VR {α:Type} {R : α -> α -> Prop} {x : α} (h:R x x):∀ n,(List.replicate n x).Pairwise R
 | 0=>.nil
 | n + 1=>by
  rw [List.replicate_succ,List.pairwise_cons];exact ⟨fun y hy=>by rw [List.eq_of_mem_replicate hy];exact h,VR h n⟩
structure DlA where
 q:Nat
 gF:Nat
 PA:Option Addr
 pc:Nat
 Ss:List SlM
 fc:Nat
 Fm:List FlM
def dlc (a:DlA) (D:PDl):Array Value:=#[.slice a.PA a.Ss.length a.pc,.int .i64 D.pat,.int .i64 D.prm,.int .i64 D.need,.slice (some ⟨a.gF,0,none⟩) a.Fm.length a.fc,.int .i64 D.stand,.int .i64 D.bad,.int .i64 D.cuts,.int .i64 D.prompt,.int .i64 D.last]
structure DlM (w:World) (bs:Nat) (a:DlA) (D:PDl):Prop where
 cell:w.heap[a.q]? = some (.cells (dlc a D) 133 (0,0))
 stab:∀ w':World,w.heap.size <= w'.heap.size -> (∀ b,b < bs -> b ≠ a.q -> b ≠ a.gF -> w'.heap[b]? = w.heap[b]?) -> PlM w' a.PA a.Ss D.S
 row:w.ownsRow 0 76 3 (.slice (some ⟨a.gF,0,none⟩) a.Fm.length a.fc) a.Fm.length (XQ a.Fm)
 ref:∀ f ∈ a.Fm,w.ownsRow bs 9 1 (.slice f.A f.ref.length f.c) f.ref.length (sbs f.ref)
 apart:a.Fm.Pairwise fun x y=>∀ k,blk x.A = some k -> blk y.A ≠ some k
 pure:a.Fm.map FlM.pure = D.F
 len:a.Fm.length = a.Ss.length
 pos : 0 < a.Fm.length
 lt:a.q < bs /\ a.gF < bs /\ bs <= w.heap.size
theorem DlM.below {w w':World} {bs:Nat} {a:DlA} {D:PDl} (h:DlM w bs a D) (hb:Below w.heap.size w w'):DlM w' bs a D:=
 ⟨(hb.block _ (aE h.cell).1).trans h.cell,fun w2 hs hk=>h.stab w2 (tR hb.size hs) (fun b h1 h2 h3=>(hk b h1 h2 h3).trans (hb.block b (Nat.lt_of_lt_of_le h1 h.lt.2.2))),
  Jh h.row hb,fun f hf=>Jh (h.ref f hf) hb,h.apart,h.pure,h.len,h.pos,h.lt.1,h.lt.2.1,tR h.lt.2.2 hb.size⟩
theorem DlM.plan {w:World} {bs:Nat} {a:DlA} {D:PDl} (h:DlM w bs a D):PlM w a.PA a.Ss D.S:=h.stab w nR (fun _ _ _ _=>rfl)
end Go.Proofs.YtcjicjfbippmnaaGreat
