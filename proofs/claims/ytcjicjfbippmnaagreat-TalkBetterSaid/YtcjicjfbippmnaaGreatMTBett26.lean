/- TalkBetter -/
import Derived.Test.YtcjicjfbippmnaaGreatMTBett25
set_option maxRecDepth 100000
set_option maxHeartbeats 32000000
namespace Go.Proofs.YtcjicjfbippmnaaGreat
open Go.RowKit Ear

theorem Zc2 {x:Int} {p q:Nat} (hx : -(p * 1048576) <= x /\ x <= p * 1048576) (hp:p <= 10000) (hq:q <= 10000) : -104857600000000 <= x * q /\ x * q <= 104857600000000:=by
 constructor
 ·have:=Int.mul_le_mul_of_nonneg_right (show -10485760000 <= x by omega) (show (0:Int) <= q by omega);have:=Int.mul_le_mul_of_nonneg_left (show (q:Int) <= 10000 by omega) (show (0:Int) <= 10485760000 by omega);omega
 ·have:=Int.mul_le_mul_of_nonneg_right (show x <= 10485760000 by omega) (show (0:Int) <= q by omega);have:=Int.mul_le_mul_of_nonneg_left (show (q:Int) <= 10000 by omega) (show (0:Int) <= 10485760000 by omega);omega
theorem ZjS {va vb:List (List Int)} {n:Nat} (ha:Vcs n va) (hb:Vcs n vb) (hn:va.length <= 10000) (hm:vb.length <= 10000) (c:Nat) : -220000000000000 <= gD va vb c /\ gD va vb c <= 220000000000000:=by
 have h1:=Zc2 (Qb (fun x hx=>(ha x hx).2) c va.length) hn hm;have h2:=Zc2 (Qb (fun x hx=>(hb x hx).2) c vb.length) hm hn;unfold gD;omega
theorem ZjR {va vb:List (List Int)} {n:Nat} (ha:Vcs n va) (hb:Vcs n vb) (hn:va.length <= 10000) (hm:vb.length <= 10000) (k:Nat) (hk:k <= 1000):Sz ((gI va vb k:Int):Rat) 4:=by
 have key : 0 <= gI va vb k /\ gI va vb k <= k * (220000000000000 * 220000000000000):=by
  clear hk
  induction k with
  | zero=>simp [gI]
  | succ k ih=>
   obtain ⟨b1,b2⟩:=ZjS ha hb hn hm k;simp only [gI];generalize gD va vb k = d at *
   have h3 : 0 <= d * d:=(by rcases Int.le_total 0 d with h | h;exact Int.mul_nonneg h h;exact Int.mul_nonneg_of_nonpos_of_nonpos h h);have h4:d * d <= 220000000000000 * 220000000000000:=by
    have e:d * d = (d.natAbs:Int) * d.natAbs:=(Int.natAbs_mul_self' d).symm;rw [e];have hd:(d.natAbs:Int) <= 220000000000000:=(by omega);exact Int.mul_le_mul hd hd (by omega) (by omega)
   omega
 refine Sz.int (JU (by simp;omega)) (by decide)
theorem ZcK (A B:Option Addr) (c d n:Nat) (L M:List Inn) (w:World) (hA:LL w A L) (hB:LL w B M) (hv:Hid (Vcs n (Jx L))) (hu:Hid (Vcs n (Jx M))) (h0 : 0 < L.length) (m0 : 0 < M.length) (hn:L.length <= 10000) (hm:M.length <= 10000) (hn2:n <= 1000) :
  Calls Tryz.prog 56 #[.slice A L.length c,.slice B M.length d] w (ZA (Zg9 (Jx L) (Jx M)) w):=by
 have HVL:Hid ((Jx L).length = L.length):=zH (by simp);have HVM:Hid ((Jx M).length = M.length):=zH (by simp);have HLN:Hid (len0 (Jx L) = n):=zH (hv.out.len0 (by rw [HVL.out];exact h0));have HGB:=zH (fun k=>ZjS hv.out hu.out (by rw [HVL.out];exact hn) (by rw [HVM.out];exact hm) k);have HGS:=zH (fun k (hk:k <= 1000)=>ZjR hv.out hu.out (by rw [HVL.out];exact hn) (by rw [HVM.out];exact hm) k hk);have HCB:=zH (fun k t=>Qb (fun x hx=>(hv.out x hx).2) k t);have HCU:=zH (fun k t=>Qb (fun x hx=>(hu.out x hx).2) k t);obtain ⟨W,hW⟩:∃ W:World,W = w.alloc (.cells #[.bool false,.slice none 0 0,.slice none 0 0] 28):=⟨_,rfl⟩;have HB0:Hid (Below w.heap.size w W):=zH (by rw [hW];exact bR.alloc nR _);have HBX:Hid (Bt 28 W w.heap.size):=zH (by rw [hW];exact Bt.new _ w);have C1:=zH (Za5 A c n L W (hA.below HB0.out) hv h0 hn hn2);have C2:=zH (fun u (hu':Below W.heap.size W u)=>Za5 B d n M u ((hB.below HB0.out).below hu') hu m0 hm hn2);clear hv hu hA hB;go_enter Tryz.func56,Tryz.ntmps56;go_wp2_with fail;rw [<- hW];clear hW;refine C1.out.mono ?_;clear C1;rintro e w1 ⟨X,cx,rfl,ox,b1⟩;have HX:=zH (Lies.of_own ox);have B1:=zH b1;clear ox b1;go_wp2_with fail;refine (C2.out _ B1.out).mono ?_;clear C2;rintro e w2 ⟨Y,cy,rfl,oy,b2⟩;obtain ⟨V,hV⟩:∃ V:World,V = w2.alloc (.cells #[.bool false,.slice none 0 0,.slice none 0 0] 28):=⟨_,rfl⟩;have HV2:Hid (Below w2.heap.size w2 V):=zH (by rw [hV];exact bR.alloc nR _);have HVX:Hid (Fb V w2.heap.size J1):=zH (by rw [hV];exact (Bt.new _ w2).zero);have LX:=zH ((HX.out.below b2).below HV2.out);have LY:=zH ((Lies.of_own oy).below HV2.out);have B2:=zH ((HB0.out.trans (B1.out.mono HB0.out.size)).trans (b2.mono (HB0.out.trans (B1.out.mono HB0.out.size)).size));have B3:=zH (B2.out.trans (HV2.out.mono B2.out.size));have BX3:=zH (((HBX.out.below B1.out).below b2).below HV2.out);have hlt0:w.heap.size < w2.heap.size:=by have:=(HBX.out.below B1.out).below b2;exact this.lt
 clear oy b2 HV2 HX B1 HB0 HBX B2;go_wp2_with fail;rw [<- hV];clear hV;have HZ:Hid (Fq V J1 ((gI (Jx L) (Jx M) 0:Int):Rat)):=zH (Fq.zero V);have HR:Hid (Below V.heap.size V V):=zH bR;have hVs:w2.heap.size < V.heap.size:=HVX.out.lt;go_loopw [10,11,24] (fun _ _ i wr=>∃ k:Nat,k <= n /\ i = .int .i64 k /\ ∃ a:Fr,Hid (Fq wr a ((gI (Jx L) (Jx M) k:Int):Rat)) /\ Hid (Fb wr w2.heap.size a) /\ Hid (Bt 28 wr w.heap.size) /\ Hid (Below w.heap.size w wr) /\ Hid (Lies wr X (ics (QH (Jx L) n L.length))) /\ Hid (Lies wr Y (ics (QH (Jx M) n M.length)))) (fun _ _ i _=>n - (intOf i).toNat)
 case atStart=>exact ⟨0,by omega,rfl,J1,HZ,HVX,BX3,B3,LX,LY⟩
 case round=>
  obtain ⟨k,hk,rfl,a,HN,HFb,HBt,HBw,LXr,LYr⟩:=hrel;clear HZ HVX BX3 B3 LX LY HR;by_cases hlt:k < n
  ·have hgb:=HGB.out k;have SA:=zH ((HGS.out k (by omega)).mono (show 4 <= 90000 by decide));have hx0:=HCB.out k (Jx L).length;have hy0:=HCU.out k (Jx M).length;have HGN:Hid (((gI (Jx L) (Jx M) (k + 1):Int):Rat) = ((gI (Jx L) (Jx M) k:Int):Rat) + ((gD (Jx L) (Jx M) k:Int):Rat) * ((gD (Jx L) (Jx M) k:Int):Rat)):=zH (by simp only [gI,Rat.intCast_add,Rat.intCast_mul]);have hgd:gD (Jx L) (Jx M) k = Qn (Jx L) k (Jx L).length * (M.length:Int) - Qn (Jx M) k (Jx M).length * (L.length:Int):=(by unfold gD;rw [HVL.out,HVM.out]);obtain ⟨bx,ox,rfl,hbx,hcx⟩:=LXr.out.at_ (k:=k) (by simp [QH];exact hlt);obtain ⟨bY,oY,rfl,hby,hcy⟩:=LYr.out.at_ (k:=k) (by simp [QH];exact hlt);have ex:(QH (Jx L) n L.length)[k]?.getD 0 = Qn (Jx L) k (Jx L).length:=(by rw [HVL.out];simp [QH,List.getElem?_range hlt]);have ey:(QH (Jx M) n M.length)[k]?.getD 0 = Qn (Jx M) k (Jx M).length:=(by rw [HVM.out];simp [QH,List.getElem?_range hlt]);rw [ex] at hcx;rw [ey] at hcy;rw [hgd] at hgb HGN;rw [HVL.out] at hx0 hcx HGN hgb;rw [HVM.out] at hy0 hcy HGN hgb;clear ex ey hgd;generalize Qn (Jx L) k L.length = x at *
   generalize Qn (Jx M) k M.length = y at *
   have bxm:=Zc2 hx0 hn hm;have bym:=Zc2 hy0 hm hn;have p1:IntKind.i64.wrap (x * (M.length:Int)) = x * (M.length:Int):=IntWalk.i64_in _ (by omega);have p2:IntKind.i64.wrap (y * (L.length:Int)) = y * (L.length:Int):=IntWalk.i64_in _ (by omega);obtain ⟨dd,hdd⟩:∃ dd:Int,dd = x * (M.length:Int) - y * (L.length:Int):=⟨_,rfl⟩;have hd1 : -220000000000000 <= dd /\ dd <= 220000000000000:=(by omega);have p3:IntKind.i64.wrap (x * (M.length:Int) - y * (L.length:Int)) = dd:=(by rw [hdd];exact IntWalk.i64_in _ (by omega));rw [<- hdd] at HGN;have HDD:=zH hdd;clear hdd hgb;have C3:=zH (fun u=>Zo dd u (by omega) (by omega));have SD:Hid (Sz (dd:Rat) 2):=zH (Sz.i64 (by omega) (by omega));have HC:Hid (∀ u,Below wr.heap.size wr u -> u.cell? ⟨bx,ox + k,none⟩ = some (.int .i64 x) /\ u.cell? ⟨bY,oY + k,none⟩ = some (.int .i64 y)):=zH (fun u hu=>⟨(hu.cell (p:=⟨bx,ox + k,none⟩) hbx).trans hcx,(hu.cell (p:=⟨bY,oY + k,none⟩) hby).trans hcy⟩);have hw0:w.heap.size < wr.heap.size:=HBt.out.lt;have hw2:w2.heap.size < wr.heap.size:=HFb.out.lt;go_wp2_with fail;refine Je 15 61 rfl (by kernel_rfl) (by kernel_rfl) (by kernel_rfl) (by kernel_rfl) (fun u=>Below wr.heap.size wr u) (fun u u'=>Below u.heap.size u u') (Gl [isV (.slice (some ⟨bx,ox,none⟩) n cx),isV (.int .i64 (k:Int)),isV (.pointer (some ⟨bx,ox + k,none⟩)),isV (.int .i64 x),isV (.int .i64 (M.length:Int)),isV (.int .i64 (x * (M.length:Int))),isV (.slice (some ⟨bY,oY,none⟩) n cy),isV (.int .i64 (k:Int)),isV (.pointer (some ⟨bY,oY + k,none⟩)),isV (.int .i64 y),isV (.int .i64 (L.length:Int)),isV (.int .i64 (y * (L.length:Int))),isV (.int .i64 dd),isFq ((dd:Int)),isBt 28 wr.heap.size]) (Gl.keep (by
     intro p hp;simp only [List.mem_cons,List.not_mem_nil,or_false] at hp;rcases hp with rfl | rfl | rfl | rfl | rfl | rfl | rfl | rfl | rfl | rfl | rfl | rfl | rfl | rfl | rfl
     ·exact Keeps.isV _
     ·exact Keeps.isV _
     ·exact Keeps.isV _
     ·exact Keeps.isV _
     ·exact Keeps.isV _
     ·exact Keeps.isV _
     ·exact Keeps.isV _
     ·exact Keeps.isV _
     ·exact Keeps.isV _
     ·exact Keeps.isV _
     ·exact Keeps.isV _
     ·exact Keeps.isV _
     ·exact Keeps.isV _
     ·exact Keeps.isFq _
     ·exact Keeps.isBt _ _)) ?_ ?_ ?_
   ·exact (Below.refl _ wr).drew
   ·simp only [List.pop_toArray,List.dropLast,Jl];refine ⟨?_,?_,?_,?_,?_,?_,?_,?_,?_,?_,?_,?_,?_,?_,?_,trivial⟩
    ·intro bb u su dp kp K hK;have e7:gT bb 7 = .slice (some ⟨bx,ox,none⟩) n cx:=kp 7 (by kernel_rfl);go_simp;exact hK _ _ su bR rfl
    ·intro bb u su dp kp K hK;have e10:gT bb 10 = .int .i64 (k:Int):=kp 10 (by kernel_rfl);go_simp;exact hK _ _ su bR rfl
    ·intro bb u su dp kp K hK;have e27:gT bb 27 = .slice (some ⟨bx,ox,none⟩) n cx:=dp 0 _ rfl (by kernel_rfl);have e28:gT bb 28 = .int .i64 (k:Int):=dp 1 _ rfl (by kernel_rfl);go_simp;exact hK _ _ su bR rfl
    ·intro bb u su dp kp K hK;have e29:gT bb 29 = .pointer (some ⟨bx,ox + k,none⟩):=dp 2 _ rfl (by kernel_rfl);obtain ⟨cc0,cc1⟩:=HC.out u su;go_simp;exact hK _ _ su bR rfl
    ·intro bb u su dp kp K hK;have e6:gT bb 6 = .int .i64 (M.length:Int):=kp 6 (by kernel_rfl);go_simp;exact hK _ _ su bR rfl
    ·intro bb u su dp kp K hK;have e30:gT bb 30 = .int .i64 x:=dp 3 _ rfl (by kernel_rfl);have e31:gT bb 31 = .int .i64 (M.length:Int):=dp 4 _ rfl (by kernel_rfl);go_simp;exact hK _ _ su bR rfl
    ·intro bb u su dp kp K hK;have e8:gT bb 8 = .slice (some ⟨bY,oY,none⟩) n cy:=kp 8 (by kernel_rfl);go_simp;exact hK _ _ su bR rfl
    ·intro bb u su dp kp K hK;have e10:gT bb 10 = .int .i64 (k:Int):=kp 10 (by kernel_rfl);go_simp;exact hK _ _ su bR rfl
    ·intro bb u su dp kp K hK;have e33:gT bb 33 = .slice (some ⟨bY,oY,none⟩) n cy:=dp 6 _ rfl (by kernel_rfl);have e34:gT bb 34 = .int .i64 (k:Int):=dp 7 _ rfl (by kernel_rfl);go_simp;exact hK _ _ su bR rfl
    ·intro bb u su dp kp K hK;have e35:gT bb 35 = .pointer (some ⟨bY,oY + k,none⟩):=dp 8 _ rfl (by kernel_rfl);obtain ⟨cc0,cc1⟩:=HC.out u su;go_simp;exact hK _ _ su bR rfl
    ·intro bb u su dp kp K hK;have e5:gT bb 5 = .int .i64 (L.length:Int):=kp 5 (by kernel_rfl);go_simp;exact hK _ _ su bR rfl
    ·intro bb u su dp kp K hK;have e36:gT bb 36 = .int .i64 y:=dp 9 _ rfl (by kernel_rfl);have e37:gT bb 37 = .int .i64 (L.length:Int):=dp 10 _ rfl (by kernel_rfl);go_simp;exact hK _ _ su bR rfl
    ·intro bb u su dp kp K hK;have e32:gT bb 32 = .int .i64 (x * (M.length:Int)):=dp 5 _ rfl (by kernel_rfl);have e38:gT bb 38 = .int .i64 (y * (L.length:Int)):=dp 11 _ rfl (by kernel_rfl);go_simp;exact hK _ _ su bR rfl
    ·intro bb u su dp kp K hK;have e39:gT bb 39 = .int .i64 dd:=dp 12 _ rfl (by kernel_rfl);go_simp;refine (C3.out u).mono ?_;rintro e w' ⟨r,rfl,hr,h4⟩;go_simp;exact hK _ _ (su.trans (h4.mono su.size)) h4 ⟨r,rfl,zH hr⟩
    ·intro bb u su dp kp K hK;go_simp;exact hK _ _ (su.alloc su.size _) (bR.alloc nR _) ⟨u.heap.size,rfl,zH (Bt.new _ _),su.size⟩
   ·intro bb u hN hdf su hG sm;obtain ⟨k11,e11,D11,L11⟩:∃ k,gT bb 11 = .pointer (some ⟨k,0,none⟩) /\ Hid (Bt 28 u k) /\ wr.heap.size <= k:=hG 14 _ rfl;obtain ⟨r40,e40,D40⟩:∃ r:Fr,gT bb 40 = r.val /\ Hid (Fq u r ((dd:Int))):=hG 13 _ rfl;rw [JD bb _ [false,false,false,false,false,false,false,false,false,false,false,true,false,false,false,false,false,false,false,false,false,false,false,false,false,false,false,true,true,true,true,true,true,true,true,true,true,true,true,true,true,false,false,false,false,false,false,false,false,false,false,false,false,false,false,false,false,false,false,false,false] _ rfl hN rfl (by kernel_rfl) hdf sm];simp only [Z5,Nat.reduceAdd,e11,e40];clear e11 e40 hG sm hN hdf;generalize gT bb 27 = z27,gT bb 28 = z28,gT bb 29 = z29,gT bb 30 = z30,gT bb 31 = z31,gT bb 32 = z32,gT bb 33 = z33,gT bb 34 = z34,gT bb 35 = z35,gT bb 36 = z36,gT bb 37 = z37,gT bb 38 = z38,gT bb 39 = z39;have hne0:w.heap.size ≠ k11:=(by omega);have hne2:w2.heap.size ≠ k11:=(by omega);obtain ⟨V2,hV2⟩:∃ V2:World,V2 = (((u.setCell ⟨k11,0,none⟩ (.bool r40.neg)).setCell ⟨k11,1,none⟩ (.slice r40.A r40.N.length r40.c)).setCell ⟨k11,2,none⟩ (.slice r40.B r40.D.length r40.d)):=⟨_,rfl⟩;have HN2:Hid (Fq V2 a ((gI (Jx L) (Jx M) k:Int):Rat)):=zH (by rw [hV2];exact J2 (HN.out.below su) D11.out _ _ _);have HR2:Hid (Fq V2 r40 (dd:Rat)):=zH (by rw [hV2];exact J2 D40.out D11.out _ _ _);have HFb2:Hid (Fb V2 w2.heap.size a):=zH (by rw [hV2];exact (HFb.out.below su).rowed hne2 _ _ _);have HRb2:Hid (Fb V2 k11 r40):=zH (by rw [hV2];exact D11.out.put);have HBt2:Hid (Bt 28 V2 w.heap.size):=zH (by rw [hV2];exact (HBt.out.below su).rowed hne0 _ _ _);have HS2:Hid (Below wr.heap.size wr V2):=zH (by rw [hV2];exact Ji su L11 _ _ _);obtain ⟨c0,c1,c2,f0,f1,f2⟩:=D11.out.facts;clear su D40 HN HFb HBt C3 D11;refine PopQ.last rfl rfl (fun K hK=>?_);go_simp;refine hK _ _ ?_;clear hK K;rw [<- hV2];clear hV2 c0 c1 c2 f0 f1 f2;have HC2:Hid (∀ u,Below V2.heap.size V2 u -> u.cell? ⟨w2.heap.size,0,none⟩ = some (.bool a.neg) /\ u.cell? ⟨w2.heap.size,1,none⟩ = some (.slice a.A a.N.length a.c) /\ u.cell? ⟨w2.heap.size,2,none⟩ = some (.slice a.B a.D.length a.d) /\ u.cell? ⟨k11,0,none⟩ = some (.bool r40.neg) /\ u.cell? ⟨k11,1,none⟩ = some (.slice r40.A r40.N.length r40.c) /\ u.cell? ⟨k11,2,none⟩ = some (.slice r40.B r40.D.length r40.d)):=zH (fun u hu=>by
     obtain ⟨a0,a1,a2,-,-,-⟩:=(HFb2.out.below hu).facts;obtain ⟨b0,b1,b2,-,-,-⟩:=(HRb2.out.below hu).facts;exact ⟨a0,a1,a2,b0,b1,b2⟩)
    go_wp2_with fail;refine Je 5 61 rfl (by kernel_rfl) (by kernel_rfl) (by kernel_rfl) (by kernel_rfl) (fun u=>Below V2.heap.size V2 u) (fun u u'=>Below u.heap.size u u') (Gl [isV (a.val),isV (r40.val),isV (r40.val),isFq ((dd:Rat) * (dd:Rat)),isFq (((gI (Jx L) (Jx M) k:Int):Rat) + (dd:Rat) * (dd:Rat))]) (Gl.keep (by
      intro p hp;simp only [List.mem_cons,List.not_mem_nil,or_false] at hp;rcases hp with rfl | rfl | rfl | rfl | rfl
      ·exact Keeps.isV _
      ·exact Keeps.isV _
      ·exact Keeps.isV _
      ·exact Keeps.isFq _
      ·exact Keeps.isFq _)) ?_ ?_ ?_
    ·exact (Below.refl _ V2).drew
    ·simp only [List.pop_toArray,List.dropLast,Jl];refine ⟨?_,?_,?_,?_,?_,trivial⟩
     ·intro bb u su dp kp K hK;have e9:gT bb 9 = .pointer (some ⟨w2.heap.size,0,none⟩):=kp 9 (by kernel_rfl);obtain ⟨cc0,cc1,cc2,cc3,cc4,cc5⟩:=HC2.out u su;go_simp;exact hK _ _ su bR rfl
     ·intro bb u su dp kp K hK;have e11:gT bb 11 = .pointer (some ⟨k11,0,none⟩):=kp 11 (by kernel_rfl);obtain ⟨cc0,cc1,cc2,cc3,cc4,cc5⟩:=HC2.out u su;go_simp;exact hK _ _ su bR rfl
     ·intro bb u su dp kp K hK;have e11:gT bb 11 = .pointer (some ⟨k11,0,none⟩):=kp 11 (by kernel_rfl);obtain ⟨cc0,cc1,cc2,cc3,cc4,cc5⟩:=HC2.out u su;go_simp;exact hK _ _ su bR rfl
     ·intro bb u su dp kp K hK;have e42:gT bb 42 = r40.val:=dp 1 _ rfl (by kernel_rfl);have e43:gT bb 43 = r40.val:=dp 2 _ rfl (by kernel_rfl);go_simp;refine (Zal r40 r40 ((dd:Rat)) ((dd:Rat)) u (HR2.out.below su).fv (HR2.out.below su).fv ((HR2.out.below su).few (SD.out.mono (by decide))) ((HR2.out.below su).few (SD.out.mono (by decide)))).mono ?_;rintro e w' ⟨r,rfl,hr,h4⟩;go_simp;exact hK _ _ (su.trans (h4.mono su.size)) h4 ⟨r,rfl,zH hr⟩
     ·intro bb u su dp kp K hK;have e41:gT bb 41 = a.val:=dp 0 _ rfl (by kernel_rfl);obtain ⟨r44,e44,D44⟩:∃ r:Fr,gT bb 44 = r.val /\ Hid (Fq u r ((dd:Rat) * (dd:Rat))):=dp 3 _ rfl (by kernel_rfl);go_simp;refine (Zam a r44 (((gI (Jx L) (Jx M) k:Int):Rat)) ((dd:Rat) * (dd:Rat)) u (HN2.out.below su).fv D44.out.fv ((HN2.out.below su).few SA.out) (D44.out.few ((SD.out.mul SD.out).mono (by decide)))).mono ?_;rintro e w' ⟨r,rfl,hr,h4⟩;go_simp;exact hK _ _ (su.trans (h4.mono su.size)) h4 ⟨r,rfl,zH hr⟩
    ·intro bb u hN hdf su hG sm;obtain ⟨r45,e45,D45⟩:∃ r:Fr,gT bb 45 = r.val /\ Hid (Fq u r (((gI (Jx L) (Jx M) k:Int):Rat) + (dd:Rat) * (dd:Rat))):=hG 4 _ rfl;rw [JD bb _ [false,false,false,false,false,false,false,false,false,false,false,false,false,false,false,false,false,false,false,false,false,false,false,false,false,false,false,false,false,false,false,false,false,false,false,false,false,false,false,false,false,true,true,true,true,true,false,false,false,false,false,false,false,false,false,false,false,false,false,false,false] _ rfl hN rfl (by kernel_rfl) hdf sm];simp only [Z5,Nat.reduceAdd,e45];clear e45 hG sm hN hdf;generalize gT bb 41 = z41,gT bb 42 = z42,gT bb 43 = z43,gT bb 44 = z44;obtain ⟨V3,hV3⟩:∃ V3:World,V3 = (((u.setCell ⟨w2.heap.size,0,none⟩ (.bool r45.neg)).setCell ⟨w2.heap.size,1,none⟩ (.slice r45.A r45.N.length r45.c)).setCell ⟨w2.heap.size,2,none⟩ (.slice r45.B r45.D.length r45.d)):=⟨_,rfl⟩;have HN3:Hid (Fq V3 r45 ((gI (Jx L) (Jx M) (k + 1):Int):Rat)):=zH (by rw [hV3,HGN.out];exact D45.out.rowed (HFb2.out.below su) _ _ _);have HFb3:Hid (Fb V3 w2.heap.size r45):=zH (by rw [hV3];exact (HFb2.out.below su).put);have HBt3:Hid (Bt 28 V3 w.heap.size):=zH (by rw [hV3];exact (HBt2.out.below su).rowed (Nat.ne_of_lt hlt0) _ _ _);have HL3:Hid (Below w.heap.size w V3):=zH (by rw [hV3];exact Ji ((HBw.out.trans (HS2.out.mono HBw.out.size)).trans (su.mono (HBw.out.trans (HS2.out.mono HBw.out.size)).size)) (by omega) _ _ _);have HX3:Hid (Lies V3 (some ⟨bx,ox,none⟩) (ics (QH (Jx L) n L.length))):=zH (by rw [hV3];exact Zbl ((LXr.out.below HS2.out).below su) (HFb2.out.below su) _ _ _);have HY3:Hid (Lies V3 (some ⟨bY,oY,none⟩) (ics (QH (Jx M) n M.length))):=zH (by rw [hV3];exact Zbl ((LYr.out.below HS2.out).below su) (HFb2.out.below su) _ _ _);obtain ⟨c0,c1,c2,f0,f1,f2⟩:=(HFb2.out.below su).facts;clear su D45 HN2 HFb2 HBt2 HR2 HRb2 HC2 HS2 HBw LXr LYr;refine PopQ.last rfl rfl (fun K hK=>?_);go_simp;refine hK _ _ ?_;clear hK K;rw [<- hV3];clear hV3 c0 c1 c2 f0 f1 f2;go_wp2_with fail;exact ⟨⟨k + 1,by omega,by go_num,r45,HN3,HFb3,HBt3,HL3,HX3,HY3⟩,by simp [intOf];omega⟩
  ·obtain rfl:k = n:=by omega
   obtain ⟨N2,hN2⟩:∃ N2:Nat,N2 = L.length * M.length:=⟨_,rfl⟩;have hN3:N2 <= 10000 * 10000:=(by rw [hN2];exact Nat.mul_le_mul hn hm);have hN4 : 0 < N2:=(by rw [hN2];exact Nat.mul_pos h0 m0);obtain ⟨P2,hP2⟩:∃ P2:Nat,P2 = N2 * (L.length + M.length):=⟨_,rfl⟩;have hP3:P2 <= 100000000 * 20000:=(by rw [hP2];exact Nat.mul_le_mul hN3 (by omega));have hP4 : 0 < P2:=(by rw [hP2];exact Nat.mul_pos hN4 (by omega));have p1:IntKind.i64.wrap ((L.length:Int) * (M.length:Int)) = (N2:Int):=(by rw [hN2,Int.natCast_mul];exact IntWalk.i64_in _ (by rw [<- Int.natCast_mul,<- hN2];omega));have p2:IntKind.i64.wrap ((L.length:Int) + (M.length:Int)) = (L.length:Int) + (M.length:Int):=IntWalk.i64_in _ (by omega);have p3:IntKind.i64.wrap ((N2:Int) * ((L.length:Int) + (M.length:Int))) = (P2:Int):=(by rw [hP2,Int.natCast_mul,Int.natCast_add];exact IntWalk.i64_in _ (by rw [<- Int.natCast_add,<- Int.natCast_mul,<- hP2];omega));have HQ:Hid (Zg9 (Jx L) (Jx M) = ((gI (Jx L) (Jx M) k:Int):Rat) * (((P2:Nat):Int):Rat)⁻¹):=zH (by unfold Zg9;rw [HLN.out,HVL.out,HVM.out,hP2,hN2]);have C3:=zH (fun u=>Zo (P2:Int) u (by omega) (by omega));have SP:Hid (Sz (((P2:Nat):Int):Rat) 2):=zH (Sz.i64 (by omega) (by omega));have P0:Hid ((((P2:Nat):Int):Rat) ≠ 0):=zH (by
    have:((P2:Nat):Int) ≠ 0:=by omega
    exact_mod_cast this)
   have SA:=zH ((HGS.out k (by omega)).mono (show 4 <= 90000 by decide));have hw0:w.heap.size < wr.heap.size:=HBt.out.lt;have HC2:Hid (∀ u,Below wr.heap.size wr u -> u.cell? ⟨w2.heap.size,0,none⟩ = some (.bool a.neg) /\ u.cell? ⟨w2.heap.size,1,none⟩ = some (.slice a.A a.N.length a.c) /\ u.cell? ⟨w2.heap.size,2,none⟩ = some (.slice a.B a.D.length a.d)):=zH (fun u hu=>by
    obtain ⟨a0,a1,a2,-,-,-⟩:=(HFb.out.below hu).facts;exact ⟨a0,a1,a2⟩)
   clear hN2 hP2 LXr LYr HGB HGS HCB HCU HLN HVL HVM;go_wp2_with fail;refine Ys 61 14 [12] rfl (by kernel_rfl) (by kernel_rfl) (by kernel_rfl) (by kernel_rfl) (by kernel_rfl) (fun u=>Below wr.heap.size wr u) (fun u u'=>Below u.heap.size u u') TSt (Gl [isV (a.val),isV (.int .i64 (L.length:Int)),isV (.int .i64 (M.length:Int)),isV (.int .i64 (N2:Int)),isV (.int .i64 (L.length:Int)),isV (.int .i64 (M.length:Int)),isV (.int .i64 ((L.length:Int) + (M.length:Int))),isV (.int .i64 (P2:Int)),isFq ((((P2:Nat):Int):Rat)),isTq (((gI (Jx L) (Jx M) k:Int):Rat) * ((((P2:Nat):Int):Rat))⁻¹),isTq (((gI (Jx L) (Jx M) k:Int):Rat) * ((((P2:Nat):Int):Rat))⁻¹),isFq (((gI (Jx L) (Jx M) k:Int):Rat) * ((((P2:Nat):Int):Rat))⁻¹),isV (.int .i64 0),isFb wr.heap.size,isT,isV (.int .i64 0)]) (HoldsQ 12 wr.heap.size (((gI (Jx L) (Jx M) k:Int):Rat) * (((P2:Nat):Int):Rat)⁻¹)) (Gl.keep (by
     intro p hp;simp only [List.mem_cons,List.not_mem_nil,or_false] at hp;rcases hp with rfl | rfl | rfl | rfl | rfl | rfl | rfl | rfl | rfl | rfl | rfl | rfl | rfl | rfl | rfl | rfl
     ·exact Keeps.isV _
     ·exact Keeps.isV _
     ·exact Keeps.isV _
     ·exact Keeps.isV _
     ·exact Keeps.isV _
     ·exact Keeps.isV _
     ·exact Keeps.isV _
     ·exact Keeps.isV _
     ·exact Keeps.isFq _
     ·exact Keeps.isTq _
     ·exact Keeps.isTq _
     ·exact Keeps.isFq _
     ·exact Keeps.isV _
     ·exact Keeps.isFb _
     ·exact Keeps.isT
     ·exact Keeps.isV _)) (fun j v w w' _=>Gl.keepS (by
     intro p hp;simp only [List.mem_cons,List.not_mem_nil,or_false] at hp;rcases hp with rfl | rfl | rfl | rfl | rfl | rfl | rfl | rfl | rfl | rfl | rfl | rfl | rfl | rfl | rfl | rfl
     ·exact KeepS.isV _
     ·exact KeepS.isV _
     ·exact KeepS.isV _
     ·exact KeepS.isV _
     ·exact KeepS.isV _
     ·exact KeepS.isV _
     ·exact KeepS.isV _
     ·exact KeepS.isV _
     ·exact KeepS.isFq _
     ·exact KeepS.isTq _
     ·exact KeepS.isTq _
     ·exact KeepS.isFq _
     ·exact KeepS.isV _
     ·exact KeepS.isFb _
     ·exact KeepS.isT
     ·exact KeepS.isV _) j v w w') HoldsQ.keep ?_ ?_ (fun _ _=>trivial) ?_
   ·exact (Below.refl _ wr).drew
   ·simp only [Y7,Jl];refine ⟨?_,?_,?_,?_,?_,?_,?_,?_,?_,?_,?_,?_,?_,?_,?_,?_,trivial⟩
    ·intro bb u su dp kp K hK;have e9:gT bb 9 = .pointer (some ⟨w2.heap.size,0,none⟩):=kp 9 (by kernel_rfl);obtain ⟨cc0,cc1,cc2⟩:=HC2.out u su;go_simp;exact hK _ _ su bR rfl
    ·intro bb u su dp kp K hK;have e5:gT bb 5 = .int .i64 (L.length:Int):=kp 5 (by kernel_rfl);go_simp;exact hK _ _ su bR rfl
    ·intro bb u su dp kp K hK;have e6:gT bb 6 = .int .i64 (M.length:Int):=kp 6 (by kernel_rfl);go_simp;exact hK _ _ su bR rfl
    ·intro bb u su dp kp K hK;have e49:gT bb 49 = .int .i64 (L.length:Int):=dp 1 _ rfl (by kernel_rfl);have e50:gT bb 50 = .int .i64 (M.length:Int):=dp 2 _ rfl (by kernel_rfl);go_simp;exact hK _ _ su bR rfl
    ·intro bb u su dp kp K hK;have e5:gT bb 5 = .int .i64 (L.length:Int):=kp 5 (by kernel_rfl);go_simp;exact hK _ _ su bR rfl
    ·intro bb u su dp kp K hK;have e6:gT bb 6 = .int .i64 (M.length:Int):=kp 6 (by kernel_rfl);go_simp;exact hK _ _ su bR rfl
    ·intro bb u su dp kp K hK;have e52:gT bb 52 = .int .i64 (L.length:Int):=dp 4 _ rfl (by kernel_rfl);have e53:gT bb 53 = .int .i64 (M.length:Int):=dp 5 _ rfl (by kernel_rfl);go_simp;exact hK _ _ su bR rfl
    ·intro bb u su dp kp K hK;have e51:gT bb 51 = .int .i64 (N2:Int):=dp 3 _ rfl (by kernel_rfl);have e54:gT bb 54 = .int .i64 ((L.length:Int) + (M.length:Int)):=dp 6 _ rfl (by kernel_rfl);go_simp;exact hK _ _ su bR rfl
    ·intro bb u su dp kp K hK;have e55:gT bb 55 = .int .i64 (P2:Int):=dp 7 _ rfl (by kernel_rfl);go_simp;refine (C3.out u).mono ?_;rintro e w' ⟨r,rfl,hr,h4⟩;go_simp;exact hK _ _ (su.trans (h4.mono su.size)) h4 ⟨r,rfl,zH hr⟩
    ·intro bb u su dp kp K hK;have e48:gT bb 48 = a.val:=dp 0 _ rfl (by kernel_rfl);obtain ⟨r56,e56,D56⟩:∃ r:Fr,gT bb 56 = r.val /\ Hid (Fq u r ((((P2:Nat):Int):Rat))):=dp 8 _ rfl (by kernel_rfl);go_simp;refine (ZcX a r56 (((gI (Jx L) (Jx M) k:Int):Rat)) ((((P2:Nat):Int):Rat)) u (HN.out.below su).fv D56.out.fv ((HN.out.below su).few SA.out) (D56.out.few (SP.out.mono (by decide))) P0.out).mono ?_;rintro e w' ⟨r,rfl,hr,h4⟩;go_simp;exact hK _ _ (su.trans (h4.mono su.size)) h4 ⟨r,rfl,zH hr⟩
    ·intro bb u su dp kp K hK;obtain ⟨r57,e57,D57⟩:∃ r:Fr,gT bb 57 = .tuple #[r.val,.int .i64 0] /\ Hid (Fq u r (((gI (Jx L) (Jx M) k:Int):Rat) * ((((P2:Nat):Int):Rat))⁻¹)):=dp 9 _ rfl (by kernel_rfl);go_simp;exact hK _ _ su bR ⟨r57,rfl,D57⟩
    ·intro bb u su dp kp K hK;obtain ⟨r47,e47,D47⟩:∃ r:Fr,gT bb 47 = .tuple #[r.val,.int .i64 0] /\ Hid (Fq u r (((gI (Jx L) (Jx M) k:Int):Rat) * ((((P2:Nat):Int):Rat))⁻¹)):=dp 10 _ rfl (by kernel_rfl);go_simp;exact hK _ _ su bR ⟨r47,rfl,D47⟩
    ·intro bb u su dp kp K hK;obtain ⟨r47,e47,D47⟩:∃ r:Fr,gT bb 47 = .tuple #[r.val,.int .i64 0] /\ Hid (Fq u r (((gI (Jx L) (Jx M) k:Int):Rat) * ((((P2:Nat):Int):Rat))⁻¹)):=dp 10 _ rfl (by kernel_rfl);go_simp;exact hK _ _ su bR rfl
    ·intro bb u su dp kp K hK;go_simp;exact hK _ _ (su.alloc su.size _) (bR.alloc nR _) ⟨u.heap.size,rfl,su.size,zH ⟨J1,(Bt.new _ _).zero⟩⟩
    ·intro bb u su dp kp K hK;obtain ⟨k12,e12,L12,X12⟩:∃ k,gT bb 12 = .pointer (some ⟨k,0,none⟩) /\ wr.heap.size <= k /\ Hid (∃ x,Fb u k x):=dp 13 _ rfl (by kernel_rfl);obtain ⟨r58,e58,D58⟩:∃ r:Fr,gT bb 58 = r.val /\ Hid (Fq u r (((gI (Jx L) (Jx M) k:Int):Rat) * ((((P2:Nat):Int):Rat))⁻¹)):=dp 11 _ rfl (by kernel_rfl);obtain ⟨x9,X9⟩:=X12.out;obtain ⟨c0,c1,c2,f0,f1,f2⟩:=X9.facts;go_simp;exact hK undef _ (Ji su L12 _ _ _) (TSt.put X9 _) ⟨k12,r58,e12,L12,zH X9.put,zH (D58.out.rowed X9 _ _ _)⟩
    ·intro bb u su dp kp K hK;have e59:gT bb 59 = .int .i64 0:=dp 12 _ rfl (by kernel_rfl);go_simp;exact hK _ _ su bR rfl
   ·intro bb u hN hdf su hG hE sm;obtain ⟨k12,r12,e12,L12,X12,D12⟩:=hE;have e13:gT bb 13 = .int .i64 0:=hG 15 _ rfl;rw [JD bb _ [false,false,false,false,false,false,false,false,false,false,false,false,true,true,false,false,false,false,false,false,false,false,false,false,false,false,false,false,false,false,false,false,false,false,false,false,false,false,false,false,false,false,false,false,false,false,false,true,true,true,true,true,true,true,true,true,true,true,true,true,false] _ rfl hN rfl (by kernel_rfl) hdf sm];simp only [Z5,Nat.reduceAdd,e12,e13];clear e12 e13 hG sm hN hdf;generalize gT bb 47 = z47,gT bb 48 = z48,gT bb 49 = z49,gT bb 50 = z50,gT bb 51 = z51,gT bb 52 = z52,gT bb 53 = z53,gT bb 54 = z54,gT bb 55 = z55,gT bb 56 = z56,gT bb 57 = z57,gT bb 58 = z58,gT bb 59 = z59;have hne0:w.heap.size ≠ k12:=(by omega);have HR3:Hid (Fq u r12 (Zg9 (Jx L) (Jx M))):=zH (by rw [HQ.out];exact D12.out);have HBt3:=zH (HBt.out.below su);have HS3:=zH (HBw.out.trans (su.mono HBw.out.size));clear su D12 HN HFb HBt C3 HBw;obtain ⟨V3,rfl⟩:∃ X,X = u:=⟨_,rfl⟩;have HRb3:=X12;obtain ⟨a0,a1,a2,-,-,-⟩:=HRb3.out.facts;obtain ⟨c0,c1,c2,f0,f1,f2⟩:=HBt3.out.facts;go_wp2_with fail;obtain ⟨g0,g1,g2⟩:=Z7 (.bool r12.neg) (.slice r12.A r12.N.length r12.c) (.slice r12.B r12.D.length r12.d) c0 c1 c2;refine bodyPost_ret (v:=r12.val) (by simp [results,Tryz.results56,go_sem,g0,g1,g2]) rfl ?_;exact ⟨r12,rfl,J2 HR3.out HBt3.out _ _ _,Ji HS3.out nR _ _ _⟩
theorem ZdV:(Tryz.prog.info? 253).map (fun i=>(i.zero,i.size,i.bytes)) = some (some (.map none),1,8):=by kernel_rfl
theorem Zci (w:World) (n:Nat) (hn:n <= 1000000) (base:Nat) (hb:base <= w.heap.size) :
  ∃ w',(Instr.makeSlice 230 (.int .i64 (n:Int)) (.int .i64 (n:Int))).run Tryz.prog w = .ok (.slice (some ⟨w.heap.size,0,none⟩) n n) w' /\
   w'.ownsRow base 253 1 (.slice (some ⟨w.heap.size,0,none⟩) n n) n (List.replicate n (.map none)) /\ Below w.heap.size w w':=by
 obtain ⟨i0,hi0,hz0,hz1,hz2⟩:=info_parts ZdV;obtain ⟨w',h1,h2,h3⟩:=run_make_full (P:=Tryz.prog) w base 230 253 i0 _ 1 Tryz.underlying230 hi0 hz0 hz1 .i64 .i64 n (by rw [hz2];omega) (by unfold maxLen;omega) hb;have e:(madeCells (Value.map none).cells (n * 1)).toList = List.replicate n (.map none):=by
  apply List.ext_getElem (by simp [madeCells]);intro k h1 h2;simp [madeCells,Value.cells,Nat.mod_one]
 rw [e] at h2;exact ⟨w',h1,h2,Xf h3⟩
theorem Zhh (k:K4) (n:Nat) (hn : 1 <= n /\ n <= 4) (u:World) (bb kb:Nat) (hbb:u.heap[bb]? = some (.cells (kc (0,0,0,0)) 203 (0,0))) (hk:u.heap[kb]? = some (.cells (kc k) 203 (0,0))) (ty:TypeId) :
  ∃ x u',(Builtin.copy_ #[40,40] ty #[.slice (some ⟨bb,0,none⟩) 4 4,.slice (some ⟨kb,1,none⟩) (n - 1) 3]).run Tryz.prog u = .ok x u' /\ u'.heap[bb]? = some (.cells (kc (ZjI k n)) 203 (0,0)) /\ Below bb u u':=by
 have hsz:(Tryz.prog.info? 3).map (·.size) = some 1:=by kernel_rfl
 by_cases h1:n = 1
 ·subst h1;have:=run_copy_none (P:=Tryz.prog) u 40 40 ty 3 (some ⟨bb,0,none⟩) (some ⟨kb,1,none⟩) 4 4 0 3 Tryz.underlying40 hsz (by simp);exact ⟨_,u,this,hbb,Below.refl _ _⟩
 ·obtain ⟨cs,hcs⟩:∃ cs:List Value,cs = (((kc k).toList.drop 1).take (n - 1)):=⟨_,rfl⟩;have hl:cs.length = n - 1:=by rw [hcs];simp [kc];omega
  have:=run_copy_row (P:=Tryz.prog) u 40 40 ty 3 bb 0 4 4 ⟨kb,1,none⟩ (n - 1) 3 (kc (0,0,0,0)) 203 cs Tryz.underlying40 hsz hbb (by rw [hl];simp [Nat.min_def];omega) (fun j v hj=>by
   have ea:(⟨kb,1,none⟩:Addr).add j = ⟨kb,1 + j,none⟩:=(by simp [Addr.add]);rw [ea];rw [cell_of_row u kb (1 + j) _ _ _ hk];rw [hcs,List.getElem?_take] at hj;split at hj
   ·rw [List.getElem?_drop] at hj;simpa using hj
   ·cases hj) (by rw [hl];simp [kc];omega) (fun v hv=>by
   rw [hcs] at hv;have:=List.mem_of_mem_drop (List.mem_of_mem_take hv);simp [kc] at this;rcases this with rfl | rfl | rfl | rfl <;> rfl)
  refine ⟨_,_,this,?_,below_setRow bR nR _⟩;rw [setRow_heap u bb _ _ _ _ hbb,hcs];obtain ⟨k0,k1,k2,k3⟩:=k;rcases (show n = 2 ∨ n = 3 ∨ n = 4 by omega) with rfl | rfl | rfl <;> simp [kc,ZjI]
def ctL (o:Nat) (T:Tbl) (h:K4) (z:Int):Int:=(lv (o - 1) (Ym [] T) h z).getD 0
def Zj8 (o:Nat) (T:Tbl) (w:World) (e:Ending) (w':World):Prop:=∃ lb b,e = .returned (.slice (some ⟨lb,0,none⟩) (o + 1) (o + 1)) /\ w'.cell? ⟨lb,0 + o,none⟩ = some (.map (some b)) /\ Lvl w' b (ctL o T) /\ Below w.heap.size w w'
theorem ZfF {o:Nat} {v:Int} {T:Tbl} (h:Yb o v T = 0):∀ p ∈ Ym [] T,kOk p.1 /\ 1 <= kat p.1 (o - 1) /\ kat p.1 (o - 1) <= 2001 /\ 0 <= p.2 /\ p.2 <= 1073741824:=by
 have hs:=JB.1 (JO.1 h).2.1;refine Qa T [] (by simp) (fun g hg=>?_);obtain ⟨h1,h2,h3,h4⟩:=XW h g hg;have h5:=VN h g hg;refine ⟨U9 h5,?_⟩;have h6 : 0 <= g.1[o - 1]?.getD 0 /\ g.1[o - 1]?.getD 0 <= 2000:=by
  have hlt:o - 1 < g.1.length:=by omega
  rw [gE hlt,Option.getD_some];have:=ZaI h2 hlt;omega
 have e:kat (kOf g.1) (o - 1) = g.1[o - 1]?.getD 0 + 1:=by
  have hl:g.1.length = o:=by omega
  unfold kOf kat;rcases (show o = 1 ∨ o = 2 ∨ o = 3 ∨ o = 4 by omega) with rfl | rfl | rfl | rfl <;> simp [kx,hl]
 show 1 <= kat (kOf g.1) (o - 1) /\ kat (kOf g.1) (o - 1) <= 2001 /\ 0 <= g.2 /\ g.2 <= 1073741824;rw [e];omega
theorem Zfx {S:List (K4 × Int)} {d:K4 × Int} (hn:(S.map (·.1)).Nodup) {idx:List Nat} (hl:∀ i ∈ idx,i < S.length) {i:Nat} (hi:i < S.length) (hni:i ∉ idx):JG (ZO S d idx) (S[i]?.getD d).1 = none:=by
 refine XZ.2 fun q hq e=>?_;obtain ⟨i',hi',rfl⟩:=List.mem_map.1 hq;have h1:=hl i' hi';rw [gE h1,gE hi] at e;simp only [Option.getD_some] at e;rw [List.Nodup,List.pairwise_iff_getElem] at hn;rcases Nat.lt_trichotomy i i' with h | h | h
 ·exact hn i i' (by simpa using hi) (by simpa using h1) h (by simpa using e.symm)
 ·exact hni (h ▸ hi')
 ·exact hn i' i (by simpa using h1) (by simpa using hi) h (by simpa using e)
theorem Zdo (w:World) (o p:Obj):((w.alloc o).alloc p).heap[w.heap.size]? = (w.alloc o).heap[w.heap.size]?:=Below.heap_alloc _ _ _ (by simp)
theorem ZbG (w:World) (o:Obj) (cs:Array Value) (t:TypeId):((w.alloc o).alloc (.cells cs t)).heap[w.heap.size + 1]? = some (.cells cs t (0,0)):=by
 have:=heap_alloc_new (w.alloc o) (.cells cs t)
 rwa [show (w.alloc o).heap.size = w.heap.size + 1 by simp] at this
theorem LvX.perm {w:World} {base b j:Nat} {S T:List (K4 × Int)} {ls:List (K4 × Nat)} (h:LvX w base b j S ls) (hn:(T.map (·.1)).Nodup) (hp:S.Perm T):LvX w base b j T ls:=
 ⟨h.map,h.inj,fun p hp'=>by obtain ⟨h1,mm,h2,h3⟩:=h.inn p hp';exact ⟨h1,mm,h2,fun z=>by rw [h3,Ze7 hn hp]⟩,fun k hk z=>by rw [<- Ze7 hn hp];exact h.non k hk z⟩
theorem Lvl.maps {w w':World} {b:Nat} {ct:K4 -> Int -> Int} (h:Lvl w b ct) (hk:∀ (x:Nat) (es:Array MapEntry) (c:Nat),w.heap[x]? = some (Obj.map es c) -> w'.heap[x]? = w.heap[x]?):Lvl w' b ct:=by
 obtain ⟨ls,h1,h2,h3⟩:=h.ex;refine ⟨⟨ls,h1.same ?_,fun p hp=>?_,h3⟩⟩
 ·obtain ⟨es,c,e,_⟩:=h1.block;exact hk _ _ _ e
 ·obtain ⟨mm,q1,q2,q3⟩:=h2 p hp;obtain ⟨es,c,e,_⟩:=q1.block;exact ⟨mm,q1.same (hk _ _ _ e),q2,q3⟩
def isMp (base:Nat):Value -> World -> Prop:=fun v u=>∃ k,v = .map (some k) /\ base <= k /\ Hid (Zeb u k [])
theorem Keeps.isMp (base:Nat):Keeps (isMp base):=fun _ _ _ ⟨k,h1,h2,h3⟩ hb=>⟨k,h1,h2,zH (h3.out.below hb)⟩
def NxG (bm st:Nat) (key:K4) (n x s:Int) (o1:Obj):Nat -> Value -> World -> Prop
 | 0,v,_=>v = .map (some bm)
 | 1,v,_=>v = ek key
 | 2,v,_=>v = .int .i64 n
 | 3,v,_=>v = .int .i64 x
 | 4,v,_=>v = .int .i64 s
 | 5,v,u=>v = .tuple #[.int .i64 n,goInt st] /\ u.heap[bm]? = some o1
 | 6,v,_=>v = goInt st
 | _,_,_=>True
theorem NxG.keeps {bm st:Nat} {key:K4} {n x s:Int} {o1:Obj} (j:Nat) (v:Value) (u u':World) (h:NxG bm st key n x s o1 j v u) (ht:CrT bm o1 u u'):NxG bm st key n x s o1 j v u':=by
 unfold NxG at h ⊢;split <;> simp_all;exact ht h.2
end Go.Proofs.YtcjicjfbippmnaaGreat
