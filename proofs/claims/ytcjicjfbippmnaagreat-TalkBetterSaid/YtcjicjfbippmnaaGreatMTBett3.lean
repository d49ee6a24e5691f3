/- TalkBetter -/
import Derived.Test.YtcjicjfbippmnaaGreatMTBett2
set_option maxRecDepth 100000
set_option maxHeartbeats 32000000
namespace Go.Proofs.YtcjicjfbippmnaaGreat
open Go.RowKit Ear

abbrev Gm:=Inn × Int
abbrev J7 (L:List Gm):List Value:=L.flatMap fun g=>[Value.slice g.1.1 g.1.2.2.length g.1.2.1,Value.int .i64 g.2]
abbrev Jd (L:List Gm):Tbl:=L.map fun g=>(g.1.2.2,g.2)
structure Tb (w:World) (A:Option Addr) (L:List Gm):Prop where
 lies:Lies w A (J7 L)
 inn:∀ g ∈ L,InOk w g.1
 num:∀ g ∈ L,-9223372036854775808 <= g.2 /\ g.2 <= 9223372036854775807
theorem Tb.below {w w':World} {A:Option Addr} {L:List Gm} (h:Tb w A L) (hb:Below w.heap.size w w'):Tb w' A L:=⟨h.lies.below hb,fun g hg=>(h.inn g hg).below hb,h.num⟩
theorem Vv:∀ (L:List Gm) {k:Nat} (hk:k < L.length),(J7 L)[k * 2]? = some (.slice L[k].1.1 L[k].1.2.2.length L[k].1.2.1) /\ (J7 L)[k * 2 + 1]? = some (.int .i64 L[k].2)
 | [],k,hk=>by simp at hk
 | g :: L,0,_=>by simp [J7]
 | g :: L,k + 1,hk=>by
  have:=Vv L (k:=k) (by simpa using hk);rw [show (k + 1) * 2 = k * 2 + 1 + 1 by omega];simpa [J7] using this
theorem Jp (L:List Gm):(J7 L).length = L.length * 2:=by
 induction L with
 | nil=>rfl
 | cons g L ih=>simp [J7] at ih ⊢;omega
theorem Tb.at_ {w:World} {A:Option Addr} {L:List Gm} (h:Tb w A L) {k:Nat} (hk:k < L.length) :
  ∃ b off,A = some ⟨b,off,none⟩ /\ b < w.heap.size /\ w.cell? ⟨b,off + k * 2,none⟩ = some (.slice L[k].1.1 L[k].1.2.2.length L[k].1.2.1) /\ w.cell? ⟨b,off + k * 2 + 1,none⟩ = some (.int .i64 L[k].2):=by
 obtain ⟨b,off,e,hlt,hc⟩:=h.lies (by rw [Jp];omega);obtain ⟨h1,h2⟩:=Vv L hk;exact ⟨b,off,e,hlt,hc _ _ h1,by rw [Nat.add_assoc];exact hc _ _ h2⟩
theorem VJ (A B:Option Addr) (c d:Nat) (a b:List Int) (w:World) (hA:Lies w A (ics a)) (hB:Lies w B (ics b)) (ha:a.length <= 9223372036854775807) (hb:b.length <= 9223372036854775807) (r:Int) (hr:Hid (Xb a b = r)) (m:Nat) :
  Calls Tryz.prog 150 #[.slice A a.length c,.slice B b.length d] (w.drewN m) fun e w'=>e = .returned (.int .i64 r) /\ ∃ k,w' = (w.drewN m).drewN k:=
 (Uq A B c d a b (w.drewN m) (hA.drewN m) (hB.drewN m) ha hb r hr).mono fun _ _ ⟨h1,h2⟩=>⟨h1,0,h2.symm⟩
theorem _root_.Go.RowKit.Below.drw {B:Nat} {w w':World} (h:Below B w w') (n:Nat):Below B w (w'.drewN n):=⟨h.os,h.tape,h.output,h.size,h.block⟩
theorem YU (o v:Int) (A:Option Addr) (c:Nat) (L:List Gm) (w:World) (h:Tb w A L) (hn:L.length <= 9223372036854775807) (r:Int) (hr:Hid (Yb o v (Jd L) = r)) :
  Calls Tryz.prog 97 #[.agg #[.int .i64 o,.int .i64 v,.slice A L.length c]] w (Zi2 r w):=by
 obtain ⟨W,hW⟩:∃ W:World,W = w.alloc (.cells #[.int .i64 o,.int .i64 v,.slice A L.length c] 84):=⟨_,rfl⟩;have HTL:Hid ((Jd L).length = L.length):=zH (by simp);have HB0:Hid (Below w.heap.size w W):=zH (by rw [hW];exact bR.alloc nR _);have hWs:w.heap.size < W.heap.size:=by rw [hW];simp
 have HC:Hid (∀ u,Below W.heap.size W u -> u.cell? ⟨w.heap.size,0,none⟩ = some (.int .i64 o) /\ u.cell? ⟨w.heap.size,1,none⟩ = some (.int .i64 v) /\ u.cell? ⟨w.heap.size,2,none⟩ = some (.slice A L.length c)):=zH (fun u hu=>by
  have hs:w.heap.size < W.heap.size:=by rw [hW];simp
  rw [hu.cell (p:=⟨w.heap.size,0,none⟩) hs,hu.cell (p:=⟨w.heap.size,1,none⟩) hs,hu.cell (p:=⟨w.heap.size,2,none⟩) hs,hW];simp [go_sem])
 have HT:=zH (h.below HB0.out);have hr0:=hr.out;unfold Yb at hr0;rw [HTL.out] at hr0;have HRW:=zH (Below.refl W.heap.size W);clear h hr;obtain ⟨c0,c1,c2⟩:=HC.out W HRW.out;by_cases h1 : 20000 < L.length
 ·rw [if_pos h1] at hr0;subst hr0;go_enter Tryz.func97,Tryz.ntmps97;go_wp2_with fail;go_ret;exact ⟨rfl,by rw [<- hW];exact HB0.out⟩
 ·rw [if_neg h1] at hr0;cases hs:Xz o v with
  | false=>
   rw [hs,if_neg (by decide)] at hr0;subst hr0;have HS:=zH hs;clear hs;go_enter Tryz.func97,Tryz.ntmps97;go_wp2_with (go_at_call 148;refine (ZI o v _ false HS).mono ?_;rintro e w' ⟨rfl,rfl⟩);go_ret;exact ⟨rfl,by rw [<- hW];exact HB0.out⟩
  | true=>
   rw [hs,if_pos rfl] at hr0;have HS:=zH hs;have HR:=zH hr0;clear hs hr0;go_enter Tryz.func97,Tryz.ntmps97;go_wp2_with (go_at_call 148;refine (ZI o v _ true HS).mono ?_;rintro e w' ⟨rfl,rfl⟩);rw [<- hW];clear hW c0 c1 c2;go_loopw [18] (fun i wr=>∃ k:Nat,k <= L.length /\ i = .int .i64 k /\ Hid (∀ j,j < k -> Xv o v (Jd L) j = true) /\ Hid (Below W.heap.size W wr)) (fun i _=>L.length - (intOf i).toNat)
   case atStart=>exact ⟨0,by omega,rfl,zH (fun j hj=>by omega),HRW⟩
   case round=>
    obtain ⟨k,hk,rfl,HOK,HW⟩:=hrel;by_cases hlt:k < L.length
    ·obtain ⟨bk,off,rfl,hbk,hcw,hcn⟩:=(HT.out.below HW.out).at_ hlt;obtain ⟨c0,c1,c2⟩:=HC.out _ HW.out;have HX:=zH ((HT.out.below HW.out).inn _ (yM hlt));have hgk:Zeh (Jd L) k = (L[k].1.2.2,L[k].2):=(by rw [JX (by rw [HTL.out];exact hlt)];simp);have hws:W.heap.size <= wr.heap.size:=HW.out.size;have hws2:w.heap.size < wr.heap.size:=(by omega);have HPRE:Hid (∀ j,j < k -> ∃ bj,∃ oj,bj = bk /\ oj = off /\ wr.cell? ⟨bk,off + j * 2,none⟩ = some (.slice (L[j]?.getD ((none,0,[]),0)).1.1 (L[j]?.getD ((none,0,[]),0)).1.2.2.length (L[j]?.getD ((none,0,[]),0)).1.2.1)):=zH (fun j hj=>by
      obtain ⟨b2,o2,e2,_,h2,_⟩:=(HT.out.below HW.out).at_ (k:=j) (by omega);cases e2;exact ⟨bk,off,rfl,rfl,by rw [gE (show j < L.length by omega)];exact h2⟩)
     have HXJ:Hid (∀ j,j < k -> InOk wr (L[j]?.getD ((none,0,[]),0)).1 /\ Zeh (Jd L) j = ((L[j]?.getD ((none,0,[]),0)).1.2.2,(L[j]?.getD ((none,0,[]),0)).2)):=zH (fun j hj=>by
      have hj':j < L.length:=(by omega);rw [gE hj'];exact ⟨(HT.out.below HW.out).inn _ (yM hj'),by rw [JX (by rw [HTL.out];exact hj')];simp⟩)
     have HNO:Hid (Xv o v (Jd L) k = false -> r = 2):=zH (fun hb=>by rw [<- HR.out,if_neg (by rw [Zhv (k:=k) (by rw [HTL.out];exact hlt) hb];decide)]);have HYES:Hid (Xv o v (Jd L) k = true -> ∀ j,j < k + 1 -> Xv o v (Jd L) j = true):=zH (fun hb j hj=>by
      by_cases e:j = k
      ·rw [e];exact hb
      ·exact HOK.out j (by omega))
     have HG:=zH hgk;clear hgk HOK;generalize L[k] = g at *
     obtain ⟨⟨XA,Xc,xl⟩,xn⟩:=g;simp only at *
     obtain ⟨V,hV⟩:∃ V:World,V = wr.alloc (.cells #[.slice XA xl.length Xc,.int .i64 xn] 114):=⟨_,rfl⟩;have HVB:Hid (Below wr.heap.size wr V):=zH (by rw [hV];exact bR.alloc nR _);have hVs:wr.heap.size < V.heap.size:=(by rw [hV];simp);have HVC:Hid (∀ u,Below V.heap.size V u -> u.cell? ⟨wr.heap.size,0,none⟩ = some (.slice XA xl.length Xc) /\ u.cell? ⟨wr.heap.size,1,none⟩ = some (.int .i64 xn) /\ u.cell? ⟨w.heap.size,0,none⟩ = some (.int .i64 o) /\ u.cell? ⟨w.heap.size,1,none⟩ = some (.int .i64 v) /\ u.cell? ⟨w.heap.size,2,none⟩ = some (.slice (some ⟨bk,off,none⟩) L.length c)):=zH (fun u hu=>by
      obtain ⟨a0,a1,a2⟩:=HC.out u ((HW.out.trans (HVB.out.mono HW.out.size)).trans (hu.mono (HW.out.trans (HVB.out.mono HW.out.size)).size));rw [hu.cell (p:=⟨wr.heap.size,0,none⟩) hVs,hu.cell (p:=⟨wr.heap.size,1,none⟩) hVs,hV];exact ⟨by simp [go_sem],by simp [go_sem],a0,a1,a2⟩)
     have HWV:=zH (HW.out.trans (HVB.out.mono HW.out.size));have HXV:=zH (HX.out.1.below HVB.out);have hxn:=HX.out.2.2.1;have HBF:=zH (HB0.out.trans (HWV.out.mono HB0.out.size));have HVR:=zH (Below.refl V.heap.size V);obtain ⟨d0,d1,d2,d3,d4⟩:=HVC.out V HVR.out;by_cases a1:(xl.length:Int) = o
     ·have q1:((xl.length:Int) != o) = false:=(by simp [a1]);cases ha2:Xx 0 v xl with
      | false=>
       have HA2:=zH ha2;have hz:=HNO.out (by unfold Xv;rw [HG.out];simp [ZiB,ha2]);subst hz;clear ha2 HNO HYES HR a1 HPRE HXJ;go_wp2_with fail;rw [<- hV];clear hV;refine (Xl XA Xc xl 0 v V HXV.out hxn false HA2).mono ?_;rintro e w2 ⟨rfl,hb2⟩;obtain ⟨d0,d1,d2,d3,d4⟩:=HVC.out w2 hb2;have HF:=zH (HBF.out.trans (hb2.mono HBF.out.size));clear hb2;go_wp2_with fail;go_ret;exact ⟨rfl,HF.out⟩
      | true=>
       have HA2:=zH ha2;clear ha2;by_cases a3 : 1 <= xn
       ·by_cases a4:xn <= 1073741824
        ·have HGM:Hid (ZiB o v (xl,xn) = true):=zH (Xr.2 ⟨a1,HA2.out,a3,a4⟩);by_cases hk0:k = 0
         ·have HOK2:=zH (HYES.out (by unfold Xv;rw [HG.out,HGM.out,hk0];rfl));have qk:decide ((0:Int) < (k:Int)) = false:=(by simp [hk0]);have qk2:decide (0 < k) = false:=(by simp [hk0]);clear HNO HYES HR a1 HPRE HXJ hk0;go_wp2_with fail;rw [<- hV];clear hV;refine (Xl XA Xc xl 0 v V HXV.out hxn true HA2).mono ?_;rintro e w2 ⟨rfl,hb2⟩;obtain ⟨d0,d1,d2,d3,d4⟩:=HVC.out w2 hb2;have HF:=zH (HWV.out.trans (hb2.mono HWV.out.size));clear hb2;go_wp2_with fail;go_quiet (fail);go_wp2_with fail;exact ⟨⟨k + 1,by omega,by go_num,HOK2,zH (HF.out.drw _)⟩,by simp [intOf];omega⟩
         ·obtain ⟨_,_,_,_,hpj⟩:=HPRE.out (k - 1) (by omega);obtain ⟨hxj,hgj⟩:=HXJ.out (k - 1) (by omega);generalize L[k - 1]?.getD ((none,0,[]),0) = gp at *
          obtain ⟨⟨PA,Pc,pl⟩,pn⟩:=gp;simp only at *
          have HPV:=zH (hxj.1.below HVB.out);have hpn:=hxj.2.2.1;have qk:decide ((0:Int) < (k:Int)) = true:=(by simp;omega);have qk2:decide (0 < k) = true:=(by simp;omega);have p1:IntKind.i64.wrap ((k:Int) - 1) = (k:Int) - 1:=IntWalk.i64_in _ (by omega);have p2:(0:Int) <= (k:Int) - 1:=(by omega);have p3:((k:Int) - 1).toNat = k - 1:=(by omega);have p4:(k:Int) - 1 < (L.length:Int):=(by omega);have p5 : 1 <= k:=(by omega);have p6:(1:Int) <= (k:Int):=(by omega);have p7 : 0 < k:=(by omega);have p8:¬ (L.length:Int) <= (k:Int) - 1:=(by omega);have p9:¬ ((k:Int) - 1 < 0):=(by omega);obtain ⟨s,hs⟩:∃ s,s = Xb pl xl:=⟨_,rfl⟩;have HS2:=zH hs.symm;have HROW:Hid (Xv o v (Jd L) k = decide (s < 0)):=zH (by unfold Xv;rw [HG.out,HGM.out,hgj,hs];simp [hk0]);have hbj:bk < wr.heap.size:=hbk;have HPC:Hid (∀ u,Below V.heap.size V u -> u.cell? ⟨bk,off + (k - 1) * 2,none⟩ = some (.slice PA pl.length Pc)):=zH (fun u hu=>by
           rw [hu.cell (p:=⟨bk,off + (k - 1) * 2,none⟩) (show bk < V.heap.size by omega),HVB.out.cell (p:=⟨bk,off + (k - 1) * 2,none⟩) hbk];exact hpj)
          by_cases hlt0:s < 0
          ·have HOK2:=zH (HYES.out (by rw [HROW.out];simp [hlt0]));clear HNO HYES HR a1 HPRE HXJ hk0 hs hgj hxj hpj;go_wp2_with fail;rw [<- hV];clear hV;refine (Xl XA Xc xl 0 v V HXV.out hxn true HA2).mono ?_;rintro e w2 ⟨rfl,hb2⟩;obtain ⟨d0,d1,d2,d3,d4⟩:=HVC.out w2 hb2;have e0:=HPC.out w2 hb2;have HF:=zH (HWV.out.trans (hb2.mono HWV.out.size));have HQ:=zH (fun m=>VJ PA XA Pc Xc pl xl w2 (HPV.out.below hb2) (HXV.out.below hb2) hpn hxn s HS2 m);clear hb2;go_wp2_with fail;go_quiet ((go_at_call 150;exact Calls.quiet_of (HQ.out _)));go_wp2_with fail;exact ⟨⟨k + 1,by omega,by go_num,HOK2,zH (HF.out.drw _)⟩,by simp [intOf];omega⟩
          ·have hz:=HNO.out (by rw [HROW.out];simp [hlt0]);subst hz;have hge : 0 <= s:=(by omega);clear HNO HYES HR a1 HPRE HXJ hk0 hs hgj hxj hpj;go_wp2_with fail;rw [<- hV];clear hV;refine (Xl XA Xc xl 0 v V HXV.out hxn true HA2).mono ?_;rintro e w2 ⟨rfl,hb2⟩;obtain ⟨d0,d1,d2,d3,d4⟩:=HVC.out w2 hb2;have e0:=HPC.out w2 hb2;have HF:=zH (HBF.out.trans (hb2.mono HBF.out.size));have HQ:=zH (fun m=>VJ PA XA Pc Xc pl xl w2 (HPV.out.below hb2) (HXV.out.below hb2) hpn hxn s HS2 m);clear hb2;go_wp2_with fail;go_quiet ((go_at_call 150;exact Calls.quiet_of (HQ.out _)));go_wp2_with fail;go_ret;exact ⟨rfl,HF.out.drw _⟩
        ·have hz:=HNO.out (by unfold Xv;rw [HG.out,Bool.eq_false_iff];intro ht;rw [Bool.and_eq_true] at ht;exact a4 (Xr.1 ht.1).2.2.2);subst hz;clear HNO HYES HR a1 HPRE HXJ;go_wp2_with fail;rw [<- hV];clear hV;refine (Xl XA Xc xl 0 v V HXV.out hxn true HA2).mono ?_;rintro e w2 ⟨rfl,hb2⟩;obtain ⟨d0,d1,d2,d3,d4⟩:=HVC.out w2 hb2;have HF:=zH (HBF.out.trans (hb2.mono HBF.out.size));clear hb2;go_wp2_with fail;go_ret;exact ⟨rfl,HF.out⟩
       ·have hz:=HNO.out (by unfold Xv;rw [HG.out,Bool.eq_false_iff];intro ht;rw [Bool.and_eq_true] at ht;exact a3 (Xr.1 ht.1).2.2.1);subst hz;clear HNO HYES HR a1 HPRE HXJ;go_wp2_with fail;rw [<- hV];clear hV;refine (Xl XA Xc xl 0 v V HXV.out hxn true HA2).mono ?_;rintro e w2 ⟨rfl,hb2⟩;obtain ⟨d0,d1,d2,d3,d4⟩:=HVC.out w2 hb2;have HF:=zH (HBF.out.trans (hb2.mono HBF.out.size));clear hb2;go_wp2_with fail;go_ret;exact ⟨rfl,HF.out⟩
     ·have q1:((xl.length:Int) != o) = true:=(by simp [a1]);have hz:=HNO.out (by unfold Xv;rw [HG.out,Bool.eq_false_iff];intro ht;rw [Bool.and_eq_true] at ht;exact a1 (Xr.1 ht.1).1);subst hz;clear HNO HYES HR HPRE HXJ;go_wp2_with fail;go_ret;exact ⟨rfl,by rw [<- hV];exact HBF.out⟩
    ·obtain rfl:k = L.length:=(by omega);have hz:r = 0:=(by rw [<- HR.out,if_pos (Zab fun j hj=>HOK.out j (by rw [<- HTL.out];exact hj))]);subst hz;have HF:=zH (HB0.out.trans (HW.out.mono HB0.out.size));go_wp2_with fail;go_ret;exact ⟨rfl,HF.out⟩
end Go.Proofs.YtcjicjfbippmnaaGreat
namespace Ear

def nd (n:Nat):List Int:=if h:n = 0 then [] else ((n % 4294967296:Nat):Int) :: nd (n / 4294967296)
termination_by n
decreasing_by omega
theorem JC:nd 0 = []:=by rw [nd];simp
theorem Y1 {n:Nat} (h:n ≠ 0):nd n = ((n % 4294967296:Nat):Int) :: nd (n / 4294967296):=by rw [nd];simp [h]
theorem Jy (n:Nat):vl (nd n) = n:=by
 induction n using Nat.strongRecOn with
 | ind n ih=>
  by_cases h:n = 0
  ·subst h;rw [JC];rfl
  ·rw [Y1 h,vl,ih _ (by omega)];simp only [BB];omega
theorem JJ (n:Nat):dgs (nd n):=by
 induction n using Nat.strongRecOn with
 | ind n ih=>
  by_cases h:n = 0
  ·subst h;rw [JC];intro x hx;simp at hx
  ·rw [Y1 h];intro x hx;rcases List.mem_cons.1 hx with rfl | hx
   ·omega
   ·exact ih _ (by omega) x hx
def cn (l:List Int):Prop:=l[l.length - 1]?.getD 1 ≠ 0
theorem ZfR:cn []:=by unfold cn;simp
theorem ZiX {d:Int} {l:List Int} (h:cn (d :: l)):cn l:=by
 unfold cn at *
 cases l with
 | nil=>simp
 | cons e l=>simpa using h
theorem Jv {l:List Int} (h:dgs l) : 0 <= vl l:=(Zdw h).1
theorem ZaC {d:Int} {l:List Int} (h:dgs (d :: l)):dgs l:=fun x hx=>h x (List.mem_cons_of_mem _ hx)
theorem Zjy {l:List Int} (hd:dgs l) (hc:cn l):l = nd (vl l).toNat:=by
 induction l with
 | nil=>simp [vl,JC]
 | cons d l ih=>
  have h0:=hd d (List.mem_cons_self ..);have i:=ih (ZaC hd) (ZiX hc);have hv:=Jv (ZaC hd);have hne:(vl (d :: l)).toNat ≠ 0:=by
   cases l with
   | nil=>
    have:d ≠ 0:=(by unfold cn at hc;simpa using hc);simp [vl];omega
   | cons e l=>
    have:(vl (e :: l)).toNat ≠ 0:=by
     intro h;rw [h,JC] at i;cases i
    rw [vl];simp only [BB];omega
  rw [Y1 hne];have e1:(vl (d :: l)).toNat % 4294967296 = d.toNat:=by rw [vl];simp only [BB];omega
  have e2:(vl (d :: l)).toNat / 4294967296 = (vl l).toNat:=by rw [vl];simp only [BB];omega
  rw [e1,e2,<- i];congr 1;omega
theorem Zkw (n:Nat):cn (nd n):=by
 induction n using Nat.strongRecOn with
 | ind n ih=>
  by_cases h:n = 0
  ·subst h;rw [JC];exact ZfR
  ·have i:=ih (n / 4294967296) (by omega);rw [Y1 h];by_cases h2:n / 4294967296 = 0
   ·rw [h2,JC];unfold cn;simp;omega
   ·unfold cn at *
    rw [Y1 h2] at *
    simpa using i
theorem ZiW {l:List Int} {k:Nat} (h:k = 0 ∨ l[k - 1]?.getD 0 ≠ 0):cn (l.take k):=by
 rcases h with rfl | h
 ·simp;exact ZfR
 ·have hk:k - 1 < l.length:=by
   rcases Nat.lt_or_ge (k - 1) l.length with h1 | h1
   ·exact h1
   ·rw [List.getElem?_eq_none h1] at h;exact absurd rfl h
  by_cases h0:k = 0
  ·subst h0;simp;exact ZfR
  ·unfold cn;rw [List.length_take,Nat.min_eq_left (by omega),List.getElem?_take_of_lt (by omega)];rw [List.getElem?_eq_getElem hk] at h ⊢;exact h
theorem ZbY {l:List Int} {k:Nat} (hd:dgs l) (hz:zer l k) (h:k = 0 ∨ l[k - 1]?.getD 0 ≠ 0):l.take k = nd (vl l).toNat:=by
 rw [Zjf hz];exact Zjy (ZaB hd k) (ZiW h)
theorem JU {n k:Nat} (h:n < 4294967296 ^ k):(nd n).length <= k:=by
 induction k generalizing n with
 | zero=>
  have:n = 0:=by simpa using h
  rw [this,JC];simp
 | succ k ih=>
  by_cases h0:n = 0
  ·rw [h0,JC];simp
  ·rw [Y1 h0,List.length_cons];have:=ih (n:=n / 4294967296) (by rw [Nat.pow_succ] at h;exact Nat.div_lt_of_lt_mul (by rw [Nat.mul_comm];exact h));omega
theorem Qm (k:Nat):BB ^ k = ((4294967296 ^ k:Nat):Int):=by simp [BB]
theorem Vo (n:Nat):n < 4294967296 ^ (nd n).length:=by
 have h:=(Zdw (JJ n)).2;rw [Jy,Qm] at h;omega
theorem Zjz {n:Nat} (h0:n ≠ 0) : 4294967296 ^ ((nd n).length - 1) <= n:=by
 rcases Nat.lt_or_ge n (4294967296 ^ ((nd n).length - 1)) with h | h
 ·have h1:=JU h;have:(nd n).length ≠ 0:=by rw [Y1 h0];simp
  omega
 ·exact h
theorem ZeW {n:Nat}:nd n = [] ↔ n = 0:=by
 constructor
 ·intro h;have:=Jy n;rw [h] at this;simp [vl] at this;omega
 ·rintro rfl;exact JC
theorem Ju {n:Nat}:(nd n).length = 0 ↔ n = 0:=by rw [List.length_eq_zero_iff];exact ZeW
theorem ZhB {n m:Nat} (h:nd n = nd m):n = m:=by
 have h1:=Jy n;have h2:=Jy m;rw [h] at h1;omega
theorem Jj {n m:Nat} (h:n <= m):(nd n).length <= (nd m).length:=JU (Nat.lt_of_le_of_lt h (Vo m))
theorem JW (n m:Nat):(nd (n * m)).length <= (nd n).length + (nd m).length:=by
 apply JU;rw [Nat.pow_add];exact Nat.mul_lt_mul'' (Vo n) (Vo m)
theorem XP (n m k:Nat) (h1:(nd n).length <= k) (h2:(nd m).length <= k):(nd (n + m)).length <= k + 1:=by
 apply JU;have a:=Vo n;have b:=Vo m;have c:=Nat.pow_le_pow_right (show 0 < 4294967296 by decide) h1;have d:=Nat.pow_le_pow_right (show 0 < 4294967296 by decide) h2;rw [Nat.pow_succ];omega
theorem Vp {n m:Nat} (h:(nd n).length < (nd m).length):n < m:=by
 rcases Nat.lt_or_ge n m with h1 | h1
 ·exact h1
 ·have:=Jj h1;omega
theorem ZS:nd 1 = [1]:=by rw [Y1 (by decide)];simp [JC]
theorem ZcI {a b:List Int} (ha:dgs a) (hb:dgs b) (hl:a.length = b.length) {i:Nat} (hi:i < a.length) (hd:a.drop (i + 1) = b.drop (i + 1)) (h:a[i]?.getD 0 < b[i]?.getD 0):vl a < vl b:=by
 have key:∀ l:List Int,i < l.length -> vl l = vl (l.take i) + BB ^ i * (l[i]?.getD 0 + BB * vl (l.drop (i + 1))):=by
  intro l hl
  conv=>lhs;rw [<- List.take_append_drop i l]
  rw [YW,List.length_take,Nat.min_eq_left (by omega),List.drop_eq_getElem_cons hl,vl,List.getElem?_eq_getElem hl];rfl
 rw [key a hi,key b (by omega),hd];have t1:=(Zdw (ZaB ha i)).2;have t2:=(Zdw (ZaB hb i)).1;have hlen:(a.take i).length = i:=by simp;omega
 rw [hlen] at t1;have m:BB ^ i * (a[i]?.getD 0 + 1 + BB * vl (b.drop (i + 1))) <= BB ^ i * (b[i]?.getD 0 + BB * vl (b.drop (i + 1))):=Int.mul_le_mul_of_nonneg_left (by omega) (Int.le_of_lt (Zkd i));have e:BB ^ i * (a[i]?.getD 0 + 1 + BB * vl (b.drop (i + 1))) = BB ^ i * (a[i]?.getD 0 + BB * vl (b.drop (i + 1))) + BB ^ i:=by
  rw [show a[i]?.getD 0 + 1 + BB * vl (b.drop (i + 1)) = (a[i]?.getD 0 + BB * vl (b.drop (i + 1))) + 1 by omega,Int.mul_add,Int.mul_one]
 omega
def UB (n m:Nat):Int:=if n < m then -1 else if n = m then 0 else 1
theorem YS {n m:Nat} (h:n < m):UB n m = -1:=by simp [UB,h]
theorem YB {n m:Nat} (h:m < n):UB n m = 1:=by unfold UB;rw [if_neg (by omega),if_neg (by omega)]
theorem YT {n m:Nat} (h:n = m):UB n m = 0:=by unfold UB;rw [if_neg (by omega),if_pos h]
theorem ZbB {a b:List Int} {i:Nat} (hl:a.length = b.length) (h:a.drop (i + 1) = b.drop (i + 1)) (he:a[i]?.getD 0 = b[i]?.getD 0):a.drop i = b.drop i:=by
 by_cases hi:i < a.length
 ·rw [List.drop_eq_getElem_cons hi,List.drop_eq_getElem_cons (show i < b.length by omega),h];rw [List.getElem?_eq_getElem hi,List.getElem?_eq_getElem (show i < b.length by omega)] at he;simp at he;rw [he]
 ·rw [List.drop_eq_nil_of_le (by omega),List.drop_eq_nil_of_le (by omega)]
structure PlusAt (a b out:List Int) (i:Nat) (c:Int):Prop where
 len:out.length = i
 dig:dgs out
 c0 : 0 <= c
 c1:c <= 1
 val:vl out + BB ^ i * c = vl (a.take i) + vl (b.take i)
theorem YJ (l:List Int) (k:Nat):vl (l.take (k + 1)) = vl (l.take k) + BB ^ k * l[k]?.getD 0:=by
 by_cases hk:k < l.length
 ·exact YH l k hk
 ·rw [List.take_of_length_le (by omega),List.take_of_length_le (by omega),List.getElem?_eq_none (by omega)];simp
theorem PlusAt.start (a b:List Int):PlusAt a b [] 0 0:=⟨rfl,fun x hx=>by simp at hx,by omega,by omega,by simp [vl]⟩
theorem PlusAt.next {a b out:List Int} {i:Nat} {c:Int} (h:PlusAt a b out i c) (ha:dgs a) (hb:dgs b) {t:Int} (ht:t = c + a[i]?.getD 0 + b[i]?.getD 0):PlusAt a b (out ++ [t % 4294967296]) (i + 1) (t / 4294967296):=by
 have h1:=JI ha i;have h2:=JI hb i;have h3:=h.c0;have h4:=h.c1;refine ⟨by simp [h.len],?_,by omega,by omega,?_⟩
 ·intro x hx;rcases List.mem_append.1 hx with hx | hx
  ·exact h.dig x hx
  ·simp at hx;omega
 ·rw [YW,h.len,YJ,YJ];have hv:=h.val;simp only [vl,Int.mul_zero,Int.add_zero];have e1:BB ^ (i + 1) * (t / 4294967296) = BB ^ i * (BB * (t / 4294967296)):=by rw [Int.pow_succ,Int.mul_assoc]
  have e2:BB * (t / 4294967296) = t - t % 4294967296:=by simp only [BB];omega
  rw [e1,e2,Int.mul_sub,ht,Int.mul_add,Int.mul_add];omega
theorem PlusAt.done {a b out:List Int} {i:Nat} (h:PlusAt a b out i 0) (ha:a.length <= i) (hb:b.length <= i):vl out = vl a + vl b:=by
 have:=h.val;rw [List.take_of_length_le ha,List.take_of_length_le hb] at this;simpa using this
structure MinusAt (a b out:List Int) (i:Nat) (c:Int):Prop where
 len:out.length = i
 dig:dgs out
 c0 : 0 <= c
 c1:c <= 1
 val:vl out - BB ^ i * c = vl (a.take i) - vl (b.take i)
theorem MinusAt.start (a b:List Int):MinusAt a b [] 0 0:=⟨rfl,fun x hx=>by simp at hx,by omega,by omega,by simp [vl]⟩
theorem MinusAt.next {a b out:List Int} {i:Nat} {c d t:Int} (h:MinusAt a b out i c) (hd0 : 0 <= d) (hd1:d <= 1) (ht:t = a[i]?.getD 0 - (c + b[i]?.getD 0) + 4294967296 * d) (h0 : 0 <= t) (h1:t <= 4294967295):MinusAt a b (out ++ [t]) (i + 1) d:=by
 refine ⟨by simp [h.len],?_,hd0,hd1,?_⟩
 ·intro x hx;rcases List.mem_append.1 hx with hx | hx
  ·exact h.dig x hx
  ·simp at hx;omega
 ·rw [YW,h.len,YJ,YJ];have hv:=h.val;simp only [vl,Int.mul_zero,Int.add_zero];have e1:BB ^ (i + 1) * d = BB ^ i * (4294967296 * d):=by rw [Int.pow_succ,Int.mul_assoc]
  rw [e1,ht,Int.mul_add,Int.mul_sub,Int.mul_add];omega
theorem MinusAt.done {a b out:List Int} {c:Int} (h:MinusAt a b out a.length c) (hl:b.length <= a.length) (hle:vl b <= vl a):vl out = vl a - vl b:=by
 have hv:=h.val;rw [List.take_of_length_le (Nat.le_refl _),List.take_of_length_le hl] at hv;have bd:=(Zdw h.dig).2;rw [h.len] at bd;have h3:=h.c0;have h4:=h.c1;rcases (show c = 0 ∨ c = 1 by omega) with rfl | rfl
 ·simpa using hv
 ·exfalso;rw [Int.mul_one] at hv;omega
structure MulIn (a b out:List Int) (i j:Nat) (c:Int):Prop where
 len:out.length = a.length + b.length
 dig:dgs out
 zer:zer out (i + b.length)
 c0 : 0 <= c
 c1:c <= 4294967295
 val:vl out + BB ^ (i + j) * c = vl (a.take i) * vl b + BB ^ i * (a[i]?.getD 0 * vl (b.take j))
structure MulOut (a b out:List Int) (i:Nat):Prop where
 len:out.length = a.length + b.length
 dig:dgs out
 zer:zer out (i + b.length)
 val:vl out = vl (a.take i) * vl b
theorem Z9 (n k:Nat):zer (List.replicate n 0) k:=by
 intro q _;by_cases hq:q < n
 ·rw [List.getElem?_eq_getElem (by simpa using hq)];simp
 ·rw [List.getElem?_eq_none (by simpa using Nat.le_of_not_lt hq)];rfl
theorem MulOut.start (a b:List Int):MulOut a b (List.replicate (a.length + b.length) 0) 0:=
 ⟨by simp,Xa _,Z9 _ _,by rw [Xk];simp [vl]⟩
theorem MulOut.enter {a b out:List Int} {i:Nat} (h:MulOut a b out i):MulIn a b out i 0 0:=
 ⟨h.len,h.dig,h.zer,by omega,by omega,by rw [h.val];simp [vl]⟩
theorem MulIn.next {a b out:List Int} {i j:Nat} {c:Int} (h:MulIn a b out i j c) (ha:dgs a) (hb:dgs b) (hi:i < a.length) (hj:j < b.length) {t:Int} (ht:t = c + (out[i + j]?.getD 0 + a[i]?.getD 0 * b[j]?.getD 0)) :
  MulIn a b (out.set (i + j) (t % 4294967296)) i (j + 1) (t / 4294967296):=by
 have hx:=JI ha i;have hy:=JI hb j;have hp:=ZeA hx hy;have ho:=JI h.dig (i + j);have h0:=h.c0;have h1:=h.c1;refine ⟨by simp [h.len],Zx h.dig _ (by omega) (by omega),?_,by omega,by omega,?_⟩
 ·intro q hq;rw [List.getElem?_set_ne (by omega)];exact h.zer q hq
 ·rw [QC _ _ _ (by rw [h.len];omega),YH b j hj];have hv:=h.val;have e1:BB ^ (i + (j + 1)) * (t / 4294967296) = BB ^ (i + j) * (BB * (t / 4294967296)):=by
   rw [<- Nat.add_assoc,Int.pow_succ,Int.mul_assoc]
  have e2:BB * (t / 4294967296) = t - t % 4294967296:=by simp only [BB];omega
  have e3:BB ^ i * (a[i]?.getD 0 * (vl (b.take j) + BB ^ j * b[j]?.getD 0)) = BB ^ i * (a[i]?.getD 0 * vl (b.take j)) + BB ^ (i + j) * (a[i]?.getD 0 * b[j]?.getD 0):=by
   rw [Int.mul_add,Int.mul_add,Int.pow_add];congr 1;rw [Int.mul_assoc,<- Int.mul_assoc (a[i]?.getD 0),Int.mul_comm (a[i]?.getD 0) (BB ^ j),Int.mul_assoc]
  rw [e1,e2,e3];have e4:BB ^ (i + j) * (t % 4294967296 - out[i + j]?.getD 0) + BB ^ (i + j) * (t - t % 4294967296) = BB ^ (i + j) * c + BB ^ (i + j) * (a[i]?.getD 0 * b[j]?.getD 0):=by
   rw [<- Int.mul_add,<- Int.mul_add];congr 1;omega
  omega
theorem MulIn.leave {a b out:List Int} {i:Nat} {c:Int} (h:MulIn a b out i b.length c) (hi:i < a.length):MulOut a b (out.set (i + b.length) c) (i + 1):=by
 refine ⟨by simp [h.len],Zx h.dig _ h.c0 h.c1,?_,?_⟩
 ·intro q hq;rw [List.getElem?_set_ne (by omega)];exact h.zer q (by omega)
 ·have hv:=h.val;rw [List.take_length] at hv;rw [QC _ _ _ (by rw [h.len];omega),h.zer _ (Nat.le_refl _),YH a i hi,Int.sub_zero,hv,Int.add_mul,Int.mul_assoc]
theorem MulOut.done {a b out:List Int} (h:MulOut a b out a.length):vl out = vl a * vl b:=by
 rw [h.val,List.take_length]
end Ear
namespace Go.Proofs.YtcjicjfbippmnaaGreat
open Go.RowKit Ear

theorem VB (w:World) (a b c:Nat):∃ n,((w.drewN a).drewN b).drewN c = w.drewN n:=⟨a + (b + c),by rw [World.drewN_drewN,World.drewN_drewN]⟩
theorem ZbR (l:List Int):zer l l.length:=fun q hq=>by rw [List.getElem?_eq_none hq];rfl
theorem Q4 {l:List Int} {n:Nat} (hn : 0 < n) (h:zer l n) (hx:l[n - 1]?.getD 0 = 0):zer l (n - 1):=fun q hq=>by
 by_cases e:q = n - 1
 ·subst e;exact hx
 ·exact h q (by omega)
theorem Lies.ndl {w:World} {A:Option Addr} {l:List Int} (h:Lies w A (ucs l)) (hd:dgs l) {v:Nat} (hv:vl l = v):Lies w A (ucs (nd v)):=by
 have key:∀ k,∀ l:List Int,l.length = k -> dgs l -> ∃ m,m <= l.length /\ zer l m /\ (m = 0 ∨ l[m - 1]?.getD 0 ≠ 0):=by
  intro k l hk _;have:∀ m,m <= l.length -> zer l m -> ∃ m,m <= l.length /\ zer l m /\ (m = 0 ∨ l[m - 1]?.getD 0 ≠ 0):=by
   intro m
   induction m with
   | zero=>intro h1 h2;exact ⟨0,h1,h2,.inl rfl⟩
   | succ m ih=>
    intro h1 h2;by_cases hx:l[m]?.getD 0 = 0
    ·exact ih (by omega) (Q4 (by omega) h2 hx)
    ·exact ⟨m + 1,h1,h2,.inr hx⟩
  exact this l.length nR (ZbR l)
 obtain ⟨m,_,hz,hm⟩:=key l.length l rfl hd;have e:=ZbY hd hz hm;rw [hv,Int.toNat_natCast] at e;rw [<- e];have h2:=h.take m
 rwa [show (ucs l).take m = ucs (l.take m) from List.map_take.symm] at h2
theorem JH {l:List Int} (hd:dgs l) {v:Nat} (hv:vl l = v):(nd v).length <= l.length:=by
 apply JU;have:=(Zdw hd).2;rw [hv,Qm] at this;omega
theorem JN (A:Option Addr) (c:Nat) (l:List Int) (w:World) (h:Lies w A (ucs l)) (hd:Hid (dgs l)) (hlc:l.length <= c) (hn:l.length <= 9223372036854775807) (v:Nat) (hv:Hid (vl l = v)) :
  Calls Tryz.prog 71 #[.slice A l.length c] w fun e w'=>e = .returned (.slice A (nd v).length c) /\ w = w':=by
 have HZ:=zH (ZbR l);go_enter Tryz.func71,Tryz.ntmps71;go_wp2;go_loop [3] (fun i=>∃ k:Nat,k <= l.length /\ i = .int .i64 k /\ Hid (zer l k)) (fun i=>(intOf i).toNat)
 case atStart=>exact ⟨_,Nat.le_refl _,rfl,HZ⟩
 case round=>
  obtain ⟨k,hk,rfl,hz⟩:=hrel;clear HZ;have fin:∀ (hm:k = 0 ∨ l[k - 1]?.getD 0 ≠ 0),Hid ((nd v).length = k):=fun hm=>zH (by
   have e:=ZbY hd.out hz.out hm;rw [hv.out,Int.toNat_natCast] at e;rw [<- e,List.length_take];omega)
  have FIN:=zH fin;clear fin;by_cases h0:k = 0
  ·subst h0;have F:=FIN.out (.inl rfl);go_wp2_with fail;go_ret;exact ⟨by rw [F.out];rfl,rfl⟩
  ·obtain ⟨b,off,rfl,hb,hc⟩:=h.uat (k:=k - 1) (by omega);have i0:((k:Int) - 1).toNat = k - 1:=(by omega);by_cases hx:l[k - 1]?.getD 0 = 0
   ·have HZ1:=zH (Q4 (by omega) hz.out hx);rw [hx] at hc;clear hx;go_wp2_with fail;exact ⟨⟨k - 1,by omega,by go_num,HZ1⟩,by simp [intOf];omega⟩
   ·have F:=FIN.out (.inr hx);have hd1:=JI hd.out (k - 1);generalize hx1:l[k - 1]?.getD 0 = x at *
    have HX:=zH hx1;clear hx1;have q:(x == 0) = false:=(by simpa using hx);have hkc:k <= c:=(by omega);go_wp2_with fail;go_ret;exact ⟨by rw [F.out];rfl,rfl⟩
theorem VU (A:Option Addr) (c n:Nat) (w:World) (h:Lies w A (ucs (nd n))) (hn:(nd n).length <= 9223372036854775807) (b:Bool) (hb:Hid (decide (n = 1) = b)) :
  Calls Tryz.prog 145 #[.slice A (nd n).length c] w fun e w'=>e = .returned (.bool b) /\ w = w':=by
 by_cases h1:(nd n).length = 1
 ·have hn0:n ≠ 0:=by rintro rfl;rw [JC] at h1;simp at h1
  have e:=Y1 hn0;have e2:n / 4294967296 = 0:=by
   have:=h1;rw [e,List.length_cons] at this;exact Ju.1 (by omega)
  obtain ⟨bk,off,rfl,hbk,hc⟩:=h.uat (k:=0) (by omega);rw [e] at hc;simp only [List.getElem?_cons_zero,Option.getD_some,Nat.add_zero] at hc;have hlt:n % 4294967296 = n:=by omega
  rw [hlt] at hc;have HB:Hid (b = decide ((n:Int) = 1)):=zH (by rw [<- hb.out];simp;omega);have HL:=zH h1;rw [h1];have b1:n < 4294967296:=by omega
  clear e e2 hlt h1;go_enter Tryz.func145,Tryz.ntmps145;go_wp2_with fail;go_ret;exact ⟨Jn (by rw [HB.out];rfl),rfl⟩
 ·have HB:Hid (b = false):=zH (by
   rw [<- hb.out];simp;rintro rfl;exact h1 (by rw [ZS];rfl))
  have q:(((nd n).length:Int) == 1) = false:=by simp;omega
  generalize (nd n).length = m at *
  go_enter Tryz.func145,Tryz.ntmps145;go_wp2_with fail;go_ret;exact ⟨Jn (by rw [HB.out]),rfl⟩
theorem YZ (A B:Option Addr) (c d:Nat) (a b:List Int) (w:World) (hA:Lies w A (ucs a)) (hB:Lies w B (ucs b)) (da:Hid (dgs a)) (db:Hid (dgs b)) (hac:a.length <= c) (hbd:b.length <= d) (hn:a.length <= 9223372036854775807) (hm:b.length <= 9223372036854775807)
  (x y:Nat) (hx:Hid (vl a = x)) (hy:Hid (vl b = y)) (r:Int) (hr:Hid (UB x y = r)) :
  Calls Tryz.prog 123 #[.slice A a.length c,.slice B b.length d] w (ZkC r w):=by
 have LA:=zH (hA.ndl da.out hx.out);have LB:=zH (hB.ndl db.out hy.out);have na:=JH da.out hx.out;have nb:=JH db.out hy.out;have nx:(nd x).length <= 9223372036854775807:=by omega
 have ny:(nd y).length <= 9223372036854775807:=by omega
 clear na nb;go_enter Tryz.func123,Tryz.ntmps123;go_wp2_with fail;refine (JN A c a w hA da hac hn x hx).mono ?_;rintro e w' ⟨rfl,rfl⟩;go_wp2_with fail;refine (JN B d b w hB db hbd hm y hy).mono ?_;rintro e w' ⟨rfl,rfl⟩;by_cases h1:(nd x).length < (nd y).length
 ·have HR:Hid (r = -1):=zH (by rw [<- hr.out];exact YS (Vp h1));have q:(((nd x).length:Int) != (nd y).length) = true:=by simp;omega
  generalize (nd x).length = m at *
  generalize (nd y).length = n at *
  go_wp2_with fail;go_ret;exact ⟨JS (by rw [HR.out]),0,rfl⟩
 ·by_cases h2:(nd y).length < (nd x).length
  ·have HR:Hid (r = 1):=zH (by rw [<- hr.out];exact YB (Vp h2));have q:(((nd x).length:Int) != (nd y).length) = true:=(by simp;omega);generalize (nd x).length = m at *
   generalize (nd y).length = n at *
   go_wp2_with fail;go_ret;exact ⟨JS (by rw [HR.out]),0,rfl⟩
  ·have hl:(nd y).length = (nd x).length:=by omega
   have DX:=zH (JJ x);have DY:=zH (JJ y);have VX:=zH (Jy x);have VY:=zH (Jy y);have LX:=LA.out;have LY:=LB.out;clear LA LB h1 h2;generalize nd x = xs at *
   generalize nd y = ys at *
   have HL:=zH hl;rw [hl] at ny ⊢;clear hl;go_wp2_with fail;go_loopw [5] (fun i wr=>∃ k:Nat,k <= xs.length /\ i = .int .i64 ((k:Int) - 1) /\ Hid (xs.drop k = ys.drop k) /\ ∃ n,wr = w.drewN n) (fun i _=>(intOf i + 1).toNat)
   case atStart=>exact ⟨xs.length,Nat.le_refl _,rfl,zH (by rw [List.drop_eq_nil_of_le nR,List.drop_eq_nil_of_le (by rw [HL.out];exact Nat.le_refl _)]),0,rfl⟩
   case round=>
    obtain ⟨k,hk,rfl,hdr,n,hwd⟩:=hrel;have L1:Lies wr A (ucs xs):=(by rw [hwd];exact LX.drewN n);have L2:Lies wr B (ucs ys):=(by rw [hwd];exact LY.drewN n);have WD:=zH hwd;clear hwd;by_cases h0:k = 0
    ·subst h0;have HR:Hid (r = 0):=zH (by
      have e:xs = ys:=(by simpa using hdr.out);have h1:=VX.out;rw [e,VY.out] at h1;rw [<- hr.out];exact YT (by omega))
     go_wp2_with fail;go_ret;exact ⟨JS (by rw [HR.out]),n,WD.out⟩
    ·obtain ⟨b1,o1,rfl,hb1,hc1⟩:=L1.uat (k:=k - 1) (by omega);obtain ⟨b2,o2,rfl,hb2,hc2⟩:=L2.uat (k:=k - 1) (by rw [HL.out];omega);have i0:((k:Int) - 1).toNat = k - 1:=(by omega);have d1:=JI DX.out (k - 1);have d2:=JI DY.out (k - 1);have ek:k - 1 + 1 = k:=(by omega);have lt1:xs[k - 1]?.getD 0 < ys[k - 1]?.getD 0 -> Hid (r = -1):=fun hlt=>zH (by
      have:=ZcI DX.out DY.out HL.out.symm (i:=k - 1) (by omega) (by rw [ek];exact hdr.out) hlt;rw [VX.out,VY.out] at this;rw [<- hr.out];exact YS (by omega))
     have gt1:ys[k - 1]?.getD 0 < xs[k - 1]?.getD 0 -> Hid (r = 1):=fun hlt=>zH (by
      have:=ZcI DY.out DX.out HL.out (i:=k - 1) (by rw [HL.out];omega) (by rw [ek];exact hdr.out.symm) hlt;rw [VX.out,VY.out] at this;rw [<- hr.out];exact YB (by omega))
     have eq1:xs[k - 1]?.getD 0 = ys[k - 1]?.getD 0 -> Hid (xs.drop (k - 1) = ys.drop (k - 1)):=fun he=>zH (ZbB HL.out.symm (by rw [ek];exact hdr.out) he);have LT:=zH lt1;have GT:=zH gt1;have EQ:=zH eq1;clear lt1 gt1 eq1 ek;generalize xs[k - 1]?.getD 0 = u at *
     generalize ys[k - 1]?.getD 0 = v at *
     by_cases hlt:u < v
     ·have HR:=LT.out hlt;have q:(u != v) = true:=(by simp;omega);clear LT GT EQ;go_wp2_with fail;go_quiet (fail);go_wp2_with fail;go_quiet (fail);go_wp2_with fail;go_ret;exact ⟨JS (by rw [HR.out]),by rw [WD.out];exact VB _ _ _ _⟩
     ·by_cases hgt:v < u
      ·have HR:=GT.out hgt;have q:(u != v) = true:=(by simp;omega);clear LT GT EQ;go_wp2_with fail;go_quiet (fail);go_wp2_with fail;go_quiet (fail);go_wp2_with fail;go_ret;exact ⟨JS (by rw [HR.out]),by rw [WD.out];exact VB _ _ _ _⟩
      ·have he:u = v:=(by omega);have HD:=EQ.out he;subst he;clear LT GT EQ hlt hgt;go_wp2_with fail;go_quiet (fail);go_wp2_with fail;exact ⟨⟨k - 1,by omega,by go_num,HD,by rw [WD.out];exact ZK _ _ _⟩,by simp [intOf];omega⟩
theorem Ja {B:Nat} (w:World) (n:Nat):Below B w (w.drewN n):=⟨rfl,rfl,rfl,Nat.le_refl _,fun _ _=>rfl⟩

end Go.Proofs.YtcjicjfbippmnaaGreat
