/- TopLearned -/
import Derived.Test.YtlgdlenoohkipaaGreatMTearn25
set_option maxRecDepth 100000
set_option maxHeartbeats 32000000
namespace Go.Proofs.YtlgdlenoohkipaaGreat
open Go.RowKit Ear

theorem Zbn (w:World) (n m:Nat):∃ k,(w.drewN n).drewN m = w.drewN k:=⟨_,World.drewN_drewN _ _ _⟩
theorem Zdb (A B:Option Addr) (c d:Nat) (a b:List Int) (w:World) (hA:Lies w A (ics a)) (hB:Lies w B (ics b)) (hl:a.length = b.length) (hn:a.length <= 9223372036854775807) (r:Int) (hr:Hid (J8 a b = r)) :
  Calls Tryz.prog 128 #[.slice A a.length c,.slice B b.length d] w fun e w'=>e = .returned (.int .i64 r) /\ ∃ n,w' = w.drewN n:=by
 rw [<- hl];have HL:=zH hl;clear hl;go_enter Tryz.func128,Tryz.ntmps128;go_wp2_with fail;go_loopw [5] (fun i wr=>∃ k:Nat,k <= a.length /\ i = .int .i64 k /\ Hid (a.take k = b.take k) /\ ∃ n,wr = w.drewN n) (fun i _=>a.length - (intOf i).toNat)
 case atStart=>exact ⟨0,by omega,rfl,zH (by simp),0,rfl⟩
 case round=>
  obtain ⟨k,hk,rfl,HE,n,hwd⟩:=hrel;have L1:Lies wr A (ics a):=by rw [hwd];exact hA.drewN n
  have L2:Lies wr B (ics b):=by rw [hwd];exact hB.drewN n
  have WD:=zH hwd;clear hwd;by_cases hlt:k < a.length
  ·have hlb:k < b.length:=by rw [<- HL.out];exact hlt
   obtain ⟨b1,o1,rfl,hb1,hc1⟩:=L1.at_ hlt;obtain ⟨b2,o2,rfl,hb2,hc2⟩:=L2.at_ hlb;have HAT:=zH (fun hne=>ZfC (k:=k) HE.out hlt hlb hne);have HSU:=zH (fun he=>V0 (k:=k) HE.out hlt hlb he);have e1:a[k]?.getD 0 = a[k]:=(by rw [gE hlt];rfl);have e2:b[k]?.getD 0 = b[k]:=(by rw [gE hlb];rfl);rw [e1] at hc1;rw [e2] at hc2;clear e1 e2;generalize a[k] = x at *
   generalize b[k] = y at *
   by_cases he:x = y
   ·subst he;have HN:=zH (HSU.out rfl);clear HAT HSU;go_wp2_with fail;go_quiet (fail);go_wp2_with fail;exact ⟨⟨k + 1,by omega,by go_num,HN,by rw [WD.out];exact Vo _ _ _⟩,by simp [intOf];omega⟩
   ·have q:(x != y) = true:=(by simpa using he);have hne:Zp x y ≠ 0:=fun h=>he (Vu.1 h);have hz:Zp x y = r:=(by rw [<- hr.out,HAT.out hne]);have hne':=zH hne;clear HAT HSU hne he;by_cases hlt2:x < y
    ·have hz1:r = -1:=(by rw [<- hz];unfold Zp;rw [if_pos hlt2]);subst hz1;clear hz hne';go_wp2_with fail;go_quiet (fail);go_wp2_with fail;go_quiet (fail);go_wp2_with fail;go_ret;exact ⟨rfl,by rw [WD.out];exact ⟨_,by rw [World.drewN_drewN,World.drewN_drewN]⟩⟩
    ·have hz1:r = 1:=by
      have h2:=hne'.out;rw [<- hz];unfold Zp at h2 ⊢;rw [if_neg hlt2] at h2 ⊢;split at h2
      ·rename_i h3;rw [if_pos h3]
      ·exact absurd rfl h2
     subst hz1;clear hz hne';go_wp2_with fail;go_quiet (fail);go_wp2_with fail;go_quiet (fail);go_wp2_with fail;go_ret;exact ⟨rfl,by rw [WD.out];exact ⟨_,by rw [World.drewN_drewN,World.drewN_drewN]⟩⟩
  ·obtain rfl:k = a.length:=by omega
   have hz:r = 0:=by
    rw [<- hr.out,Zc1 (by have:=HE.out;simpa using this) (by rw [HL.out];exact Nat.le_refl _),if_neg (by rw [HL.out];exact Nat.lt_irrefl _)]
   subst hz;go_wp2_with fail;go_ret;exact ⟨rfl,n,WD.out⟩
theorem VW (A B:Option Addr) (c d:Nat) (a b:List Int) (w:World) (hA:Lies w A (ics a)) (hB:Lies w B (ics b)) (hl:a.length = b.length) (hn:a.length <= 9223372036854775807) (r:Int) (hr:Hid (J8 a b = r)) (m:Nat) :
  Calls Tryz.prog 128 #[.slice A a.length c,.slice B b.length d] (w.drewN m) fun e w'=>e = .returned (.int .i64 r) /\ ∃ k,w' = (w.drewN m).drewN k:=
 Zdb A B c d a b (w.drewN m) (hA.drewN m) (hB.drewN m) hl hn r hr
theorem Zd7 (A:Option Addr) (c:Nat) (l:List Int) (hi:Int) (w:World) (h:Lies w A (ics l)) (hn:l.length <= 9223372036854775807) (b:Bool) (hb':Hid (XI 0 hi l = b)) :
  Calls Tryz.prog 172 #[.slice A l.length c,.int .i64 hi] w fun e w'=>e = .returned (.bool b) /\ w = w':=by
 go_enter Tryz.func172,Tryz.ntmps172;go_wp2;go_loop [5] (fun i=>∃ k:Nat,k <= l.length /\ i = .int .i64 k /\ (l.take k).all (inR 0 hi) = true) (fun i=>l.length - (intOf i).toNat)
 case atStart=>exact ⟨0,Nat.zero_le _,rfl,rfl⟩
 case round=>
  obtain ⟨k,hk,rfl,hp⟩:=hrel;by_cases hlt:k < l.length
  ·obtain ⟨bk,off,rfl,hb,hc⟩:=h.at_ hlt;have HP:=zH hp;clear hp;go_wp2
   ·go_ret;exact ⟨Jm (by rw [<- hb'.out];exact (YB hlt (by simp [inR];omega)).symm),rfl⟩
   ·exact ⟨⟨k + 1,by omega,by go_num,Vw hlt HP.out (by simp [inR];omega)⟩,by simp [intOf];omega⟩
   ·go_ret;exact ⟨Jm (by rw [<- hb'.out];exact (YB hlt (by simp [inR];omega)).symm),rfl⟩
  ·have HP:=zH hp;clear hp;go_wp2;go_ret;exact ⟨Jm (by rw [<- hb'.out];have hh:=HP.out;rw [List.take_of_length_le (by omega)] at hh;exact hh.symm),rfl⟩
theorem Uq (A:Option Addr) (c:Nat) (l:List Int) (hi:Int) (w:World) (h:Lies w A (ics l)) (hn:l.length <= 9223372036854775807) (b:Bool) (hb':Hid (XI 0 hi l = b)) (m:Nat) :
  Calls Tryz.prog 172 #[.slice A l.length c,.int .i64 hi] (w.drewN m) fun e w'=>e = .returned (.bool b) /\ ∃ k,w' = (w.drewN m).drewN k:=
 (Zd7 A c l hi (w.drewN m) (h.drewN m) hn b hb').mono fun _ _ ⟨h1,h2⟩=>⟨h1,0,h2.symm⟩
theorem Zbt (o v:Int) (w:World) (r:Bool) (hr:Hid ((decide (1 <= o) && decide (o <= 4) && decide (1 <= v) && decide (v <= 2000)) = r)):Calls Tryz.prog 171 #[.int .i64 o,.int .i64 v] w fun e w'=>e = .returned (.bool r) /\ w = w':=by
 have hr0:=hr.out;clear hr;rcases (show ¬ 1 <= o ∨ (1 <= o /\ ¬ o <= 4) ∨ (1 <= o /\ o <= 4 /\ ¬ 1 <= v) ∨ (1 <= o /\ o <= 4 /\ 1 <= v /\ ¬ v <= 2000) ∨ (1 <= o /\ o <= 4 /\ 1 <= v /\ v <= 2000) by omega) with h1 | ⟨h1,h2⟩ | ⟨h1,h2,h3⟩ | ⟨h1,h2,h3,h4⟩ | ⟨h1,h2,h3,h4⟩
 all_goals
  simp only [h1,decide_true,decide_false,Bool.true_and,Bool.false_and] at hr0;try simp only [h2,decide_true,decide_false,Bool.true_and,Bool.false_and] at hr0
  try simp only [h3,decide_true,decide_false,Bool.true_and,Bool.false_and] at hr0
  try simp only [h4,decide_true,decide_false] at hr0
  subst hr0;go_enter Tryz.func171,Tryz.ntmps171;go_wp2_with fail;go_ret;exact ⟨Jm (by simp;try omega),rfl⟩
theorem Ur (o v:Int) (A:Option Addr) (c:Nat) (L:List Gm) (w:World) (h:Tb w A L) (hn:L.length <= 9223372036854775807) (r:Int) (hr:Hid (Xz o v (Je L) = r)) :
  Calls Tryz.prog 126 #[.agg #[.int .i64 o,.int .i64 v,.slice A L.length c]] w (VU r w):=by
 obtain ⟨W,hW⟩:∃ W:World,W = w.alloc (.cells #[.int .i64 o,.int .i64 v,.slice A L.length c] 27):=⟨_,rfl⟩;have HTL:Hid ((Je L).length = L.length):=zH (by simp);have HB0:Hid (Below w.heap.size w W):=zH (by rw [hW];exact bR.alloc nR _);have hWs:w.heap.size < W.heap.size:=by rw [hW];simp
 have HC:Hid (∀ u,Below W.heap.size W u -> u.cell? ⟨w.heap.size,0,none⟩ = some (.int .i64 o) /\ u.cell? ⟨w.heap.size,1,none⟩ = some (.int .i64 v) /\ u.cell? ⟨w.heap.size,2,none⟩ = some (.slice A L.length c)):=zH (fun u hu=>by
  have hs:w.heap.size < W.heap.size:=by rw [hW];simp
  rw [hu.cell (p:=⟨w.heap.size,0,none⟩) hs,hu.cell (p:=⟨w.heap.size,1,none⟩) hs,hu.cell (p:=⟨w.heap.size,2,none⟩) hs,hW];simp [go_sem])
 have HT:=zH (h.below HB0.out);have hr0:=hr.out;unfold Xz at hr0;rw [HTL.out] at hr0;have HRW:=zH (Below.refl W.heap.size W);clear h hr;obtain ⟨c0,c1,c2⟩:=HC.out W HRW.out;by_cases h1 : 20000 < L.length
 ·rw [if_pos h1] at hr0;subst hr0;go_enter Tryz.func126,Tryz.ntmps126;go_wp2_with fail;go_ret;exact ⟨rfl,by rw [<- hW];exact HB0.out⟩
 ·rw [if_neg h1] at hr0;cases hs:Xv o v with
  | false=>
   rw [hs,if_neg (by decide)] at hr0;subst hr0;have HS:=zH hs;clear hs;go_enter Tryz.func126,Tryz.ntmps126;go_wp2_with (go_at_call 171;refine (Zbt o v _ false HS).mono ?_;rintro e w' ⟨rfl,rfl⟩);go_ret;exact ⟨rfl,by rw [<- hW];exact HB0.out⟩
  | true=>
   rw [hs,if_pos rfl] at hr0;have HS:=zH hs;have HR:=zH hr0;clear hs hr0;go_enter Tryz.func126,Tryz.ntmps126;go_wp2_with (go_at_call 171;refine (Zbt o v _ true HS).mono ?_;rintro e w' ⟨rfl,rfl⟩);rw [<- hW];clear hW c0 c1 c2;go_loopw [3] (fun i wr=>∃ k:Nat,k <= L.length /\ i = .int .i64 k /\ Hid (∀ j,j < k -> Xs o v (Je L) j = true) /\ Hid (Below W.heap.size W wr)) (fun i _=>L.length - (intOf i).toNat)
   case atStart=>exact ⟨0,by omega,rfl,zH (fun j hj=>by omega),HRW⟩
   case round=>
    obtain ⟨k,hk,rfl,HOK,HW⟩:=hrel;by_cases hlt:k < L.length
    ·obtain ⟨bk,off,rfl,hbk,hcw,hcn⟩:=(HT.out.below HW.out).at_ hlt;obtain ⟨c0,c1,c2⟩:=HC.out _ HW.out;have HX:=zH ((HT.out.below HW.out).inn _ (yM hlt));have hgk:ZdX (Je L) k = (L[k].1.2.2,L[k].2):=(by rw [JZ (by rw [HTL.out];exact hlt)];simp);have hws:W.heap.size <= wr.heap.size:=HW.out.size;have hws2:w.heap.size < wr.heap.size:=(by omega);have HPRE:Hid (∀ j,j < k -> wr.cell? ⟨bk,off + j * 2,none⟩ = some (.slice (L[j]?.getD ((none,0,[]),0)).1.1 (L[j]?.getD ((none,0,[]),0)).1.2.2.length (L[j]?.getD ((none,0,[]),0)).1.2.1)):=zH (fun j hj=>by
      obtain ⟨b2,o2,e2,_,h2,_⟩:=(HT.out.below HW.out).at_ (k:=j) (by omega);cases e2;rw [gE (show j < L.length by omega)];exact h2)
     have HXJ:Hid (∀ j,j < k -> InOk wr (L[j]?.getD ((none,0,[]),0)).1 /\ ZdX (Je L) j = ((L[j]?.getD ((none,0,[]),0)).1.2.2,(L[j]?.getD ((none,0,[]),0)).2) /\ ((L[j]?.getD ((none,0,[]),0)).1.2.2.length:Int) = o):=zH (fun j hj=>by
      have hj':j < L.length:=(by omega);have hro:=HOK.out j hj;rw [gE hj'];have hg2:ZdX (Je L) j = (L[j].1.2.2,L[j].2):=(by rw [JZ (by rw [HTL.out];exact hj')];simp);refine ⟨(HT.out.below HW.out).inn _ (yM hj'),by simpa using hg2,?_⟩;unfold Xs at hro;rw [Bool.and_eq_true] at hro;have:=(Xk.1 hro.1).1;rw [hg2] at this;simpa using this)
     have HNO:Hid (Xs o v (Je L) k = false -> r = 2):=zH (fun hb=>by rw [<- HR.out,if_neg (by rw [Zg0 (k:=k) (by rw [HTL.out];exact hlt) hb];decide)]);have HYES:Hid (Xs o v (Je L) k = true -> ∀ j,j < k + 1 -> Xs o v (Je L) j = true):=zH (fun hb j hj=>by
      by_cases e:j = k
      ·rw [e];exact hb
      ·exact HOK.out j (by omega))
     have HG:=zH hgk;clear hgk HOK;generalize L[k] = g at *
     obtain ⟨⟨XA,Xc,xl⟩,xn⟩:=g;simp only at *
     obtain ⟨V,hV⟩:∃ V:World,V = wr.alloc (.cells #[.slice XA xl.length Xc,.int .i64 xn] 93):=⟨_,rfl⟩;have HVB:Hid (Below wr.heap.size wr V):=zH (by rw [hV];exact bR.alloc nR _);have hVs:wr.heap.size < V.heap.size:=(by rw [hV];simp);have HVC:Hid (V.cell? ⟨wr.heap.size,0,none⟩ = some (.slice XA xl.length Xc) /\ V.cell? ⟨wr.heap.size,1,none⟩ = some (.int .i64 xn) /\ V.cell? ⟨w.heap.size,0,none⟩ = some (.int .i64 o) /\ V.cell? ⟨w.heap.size,1,none⟩ = some (.int .i64 v) /\ V.cell? ⟨w.heap.size,2,none⟩ = some (.slice (some ⟨bk,off,none⟩) L.length c)):=zH (by
      obtain ⟨a0,a1,a2⟩:=HC.out V (HW.out.trans (HVB.out.mono HW.out.size));rw [hV] at a0 a1 a2 ⊢;exact ⟨by simp [go_sem],by simp [go_sem],a0,a1,a2⟩)
     have HWV:=zH (HW.out.trans (HVB.out.mono HW.out.size));have HXV:=zH (HX.out.1.below HVB.out);have hxn:=HX.out.2.2.1;have HBF:=zH (HB0.out.trans (HWV.out.mono HB0.out.size));obtain ⟨d0,d1,d2,d3,d4⟩:=HVC.out;by_cases a1:(xl.length:Int) = o
     ·have q1:((xl.length:Int) != o) = false:=(by simp [a1]);cases ha2:XI 0 v xl with
      | false=>
       have HA2:=zH ha2;have hz:=HNO.out (by unfold Xs;rw [HG.out];simp [Zih,ha2]);subst hz;have HF:=zH (fun m=>Uq XA Xc xl v V HXV.out hxn false HA2 m);clear ha2 HNO HYES HR a1 HPRE HXJ;go_wp2_with fail;rw [<- hV];clear hV;go_quiet ((go_at_call 172;with_reducible exact Calls.quiet_of (HF.out _)));go_wp2_with fail;go_ret;exact ⟨rfl,HBF.out.drw _⟩
      | true=>
       have HA2:=zH ha2;have HF:=zH (fun m=>Uq XA Xc xl v V HXV.out hxn true HA2 m);clear ha2;by_cases a3 : 1 <= xn
       ·have g3:decide (xn < 1) = false:=(by simp;omega);by_cases a4:xn <= 1073741824
        ·have g4:decide (1073741824 < xn) = false:=(by simp;omega);have HGM:Hid (Zih o v (xl,xn) = true):=zH (Xk.2 ⟨a1,HA2.out,a3,a4⟩);by_cases hk0:k = 0
         ·have HOK2:=zH (HYES.out (by unfold Xs;rw [HG.out,HGM.out,hk0];rfl));have qk:decide ((0:Int) < (k:Int)) = false:=(by simp [hk0]);have qk2:decide (0 < k) = false:=(by simp [hk0]);clear HNO HYES HR a1 HPRE HXJ hk0;go_wp2_with fail;rw [<- hV];clear hV;go_quiet ((go_at_call 172;with_reducible exact Calls.quiet_of (HF.out _)));go_wp2_with fail;exact ⟨⟨k + 1,by omega,by go_num,HOK2,zH (HWV.out.drw _)⟩,by simp [intOf];omega⟩
         ·have hpj:=HPRE.out (k - 1) (by omega);obtain ⟨hxj,hgj,hoj⟩:=HXJ.out (k - 1) (by omega);generalize L[k - 1]?.getD ((none,0,[]),0) = gp at *
          obtain ⟨⟨PA,Pc,pl⟩,pn⟩:=gp;simp only at *
          have HPV:=zH (hxj.1.below HVB.out);have hpn:=hxj.2.2.1;have qk:decide ((0:Int) < (k:Int)) = true:=(by simp;omega);have qk2:decide (0 < k) = true:=(by simp;omega);have p1:IntKind.i64.wrap ((k:Int) - 1) = (k:Int) - 1:=IntWalk.i64_in _ (by omega);have p2:(0:Int) <= (k:Int) - 1:=(by omega);have p3:((k:Int) - 1).toNat = k - 1:=(by omega);have p4:(k:Int) - 1 < (L.length:Int):=(by omega);have p5 : 1 <= k:=(by omega);have p6:(1:Int) <= (k:Int):=(by omega);have p7 : 0 < k:=(by omega);have p8:¬ (L.length:Int) <= (k:Int) - 1:=(by omega);have p9:¬ ((k:Int) - 1 < 0):=(by omega);obtain ⟨s,hs⟩:∃ s,s = J8 pl xl:=⟨_,rfl⟩;have HS2:=zH hs.symm;have HROW:Hid (Xs o v (Je L) k = decide (s < 0)):=zH (by unfold Xs;rw [HG.out,HGM.out,hgj,hs];simp [hk0]);have e0:V.cell? ⟨bk,off + (k - 1) * 2,none⟩ = some (.slice PA pl.length Pc):=by
           rw [HVB.out.cell (p:=⟨bk,off + (k - 1) * 2,none⟩) hbk];exact hpj
          rw [hV] at e0;have HQ:=zH (fun m=>VW PA XA Pc Xc pl xl V HPV.out HXV.out (by omega) hpn s HS2 m);by_cases hlt0:s < 0
          ·have g5:decide (0 <= s) = false:=(by simp;omega);have HOK2:=zH (HYES.out (by rw [HROW.out];simp [hlt0]));clear HNO HYES HR a1 HPRE HXJ hk0 hs hgj hxj hpj hoj;rw [<- hV] at e0;go_wp2_with fail;rw [<- hV];clear hV;go_quiet (first | (go_at_call 172;with_reducible exact Calls.quiet_of (HF.out _)) | (go_at_call 128;with_reducible exact Calls.quiet_of (HQ.out _)));go_wp2_with fail;exact ⟨⟨k + 1,by omega,by go_num,HOK2,zH (HWV.out.drw _)⟩,by simp [intOf];omega⟩
          ·have g5:decide (0 <= s) = true:=(by simp;omega);have hz:=HNO.out (by rw [HROW.out];simp [hlt0]);subst hz;have hge : 0 <= s:=(by omega);clear HNO HYES HR a1 HPRE HXJ hk0 hs hgj hxj hpj hoj;rw [<- hV] at e0;go_wp2_with fail;rw [<- hV];clear hV;go_quiet (first | (go_at_call 172;with_reducible exact Calls.quiet_of (HF.out _)) | (go_at_call 128;with_reducible exact Calls.quiet_of (HQ.out _)));go_wp2_with fail;go_ret;exact ⟨rfl,HBF.out.drw _⟩
        ·have g4:decide (1073741824 < xn) = true:=(by simp;omega);have hz:=HNO.out (by unfold Xs;rw [HG.out,Bool.eq_false_iff];intro ht;rw [Bool.and_eq_true] at ht;exact a4 (Xk.1 ht.1).2.2.2);subst hz;clear HNO HYES HR a1 HPRE HXJ;go_wp2_with fail;rw [<- hV];clear hV;go_quiet ((go_at_call 172;with_reducible exact Calls.quiet_of (HF.out _)));go_wp2_with fail;go_ret;exact ⟨rfl,HBF.out.drw _⟩
       ·have g3:decide (xn < 1) = true:=(by simp;omega);have hz:=HNO.out (by unfold Xs;rw [HG.out,Bool.eq_false_iff];intro ht;rw [Bool.and_eq_true] at ht;exact a3 (Xk.1 ht.1).2.2.1);subst hz;clear HNO HYES HR a1 HPRE HXJ;go_wp2_with fail;rw [<- hV];clear hV;go_quiet ((go_at_call 172;with_reducible exact Calls.quiet_of (HF.out _)));go_wp2_with fail;go_ret;exact ⟨rfl,HBF.out.drw _⟩
     ·have q1:((xl.length:Int) != o) = true:=(by simp [a1]);have hz:=HNO.out (by unfold Xs;rw [HG.out,Bool.eq_false_iff];intro ht;rw [Bool.and_eq_true] at ht;exact a1 (Xk.1 ht.1).1);subst hz;clear HNO HYES HR HPRE HXJ;go_wp2_with fail;rw [<- hV];clear hV;go_quiet (fail);go_wp2_with fail;go_ret;exact ⟨rfl,HBF.out.drw _⟩
    ·obtain rfl:k = L.length:=(by omega);obtain ⟨c0,c1,c2⟩:=HC.out _ HW.out;have hz:r = 0:=(by rw [<- HR.out,if_pos (QX fun j hj=>HOK.out j (by rw [HTL.out] at hj;exact hj))]);subst hz;have HBF:=zH (HB0.out.trans (HW.out.mono HB0.out.size));clear HR HOK;go_wp2_with fail;go_ret;exact ⟨rfl,HBF.out⟩
theorem ZhA (w:World) (o1 o2:Obj):((w.alloc o1).alloc o2).drew.heap[w.heap.size]? = some o1:=(Below.heap_alloc _ _ _ (by simp)).trans (heap_alloc_new w _)
theorem Zhz (w:World) (o1 o2:Obj):((w.alloc o1).alloc o2).drew.heap[w.heap.size + 1]? = some o2:=by
 have h:=heap_alloc_new (w.alloc o1) o2;rw [show (w.alloc o1).heap.size = w.heap.size + 1 by simp] at h;exact h
end Go.Proofs.YtlgdlenoohkipaaGreat
namespace Ear
def Zw (T:Tbl) (g:List Int):Nat:=T.findIdx fun x=>decide (¬ J8 x.1 g < 0)
def Qy (T:Tbl) (g:List Int) (n:Int):Tbl:=
 match T[Zw T g]? with
 | some x=>if J8 x.1 g = 0 then T.set (Zw T g) (x.1,x.2 + n) else T.take (Zw T g) ++ (g,n) :: T.drop (Zw T g)
 | none=>T.take (Zw T g) ++ (g,n) :: T.drop (Zw T g)
theorem ZhU (T:Tbl) (g:List Int):Zw T g <= T.length:=List.findIdx_le_length
end Ear
