/- a part of TalkGrows -/
import Derived.Test.YtcjicjfbippmnaaGreatMTGrow44
import Derived.Test.YtcjicjfbippmnaaGreatMTGrow43
import Derived.Test.YtcjicjfbippmnaaGreatMTGrow20
import Derived.Test.YtcjicjfbippmnaaGreatMTGrow17
import Derived.Test.YtcjicjfbippmnaaGreatMTGrow2
import Derived.ChangeArms
import Derived.Carry
import Derived.OpenShut
import Derived.ProofKit
set_option maxRecDepth 100000
set_option maxHeartbeats 32000000
namespace Go.Proofs.YtcjicjfbippmnaaGreat
open Go.RowKit Ear

theorem dst_lim {v u:List Int} (hv:allR (-1048576) 1048576 v = true) (hu:allR (-1048576) 1048576 u = true) (hl:u.length <= 64) : 0 <= dst v u /\ dst v u <= 281474976710656:=by
 refine ⟨dsK_nn _ _ _,?_⟩
 have:=dsK_bd hv hu u.length
 unfold dst
 omega
theorem rowP_bd {vs:List (List Int)} (h:∀ i j:Nat,0 <= dst (vs[i]?.getD []) (vs[j]?.getD []) /\ dst (vs[i]?.getD []) (vs[j]?.getD []) <= 281474976710656) (i j:Nat) : 0 <= rowP vs i j /\ rowP vs i j <= j * 281474976710656:=by
 induction j with
 | zero=>simp [rowP]
 | succ j ih=>
  have:=h i j
  simp only [rowP]
  omega
theorem spS_bd {vs:List (List Int)} (h:∀ i j:Nat,0 <= dst (vs[i]?.getD []) (vs[j]?.getD []) /\ dst (vs[i]?.getD []) (vs[j]?.getD []) <= 281474976710656) (i:Nat) (hi:i <= 16) : 0 <= spS vs i /\ spS vs i <= i * 4503599627370496:=by
 induction i with
 | zero=>simp [spS]
 | succ i ih=>
  have h1:=ih (by omega)
  have h2:=rowP_bd h i i
  have h3:(i:Int) * 281474976710656 <= 4503599627370496:=by omega
  simp only [spS]
  omega

theorem spread_any (A:Option Addr) (c:Nat) (L:List Inn) (w:World) (hA:LL w A L) (h1 : 0 < L.length) (h2:L.length <= 16) (n:Nat) (hn:n <= 64) (hl:Hid (∀ x ∈ L,x.2.2.length = n)) (ha:Hid (∀ x ∈ vsOf L,allR (-1048576) 1048576 x = true)) :
  Calls Tryz.prog 22 #[.slice A L.length c] w (RetFq (spQ (vsOf L)) w):=by
 have HVL:Hid ((vsOf L).length = L.length):=zH (by simp)
 have HD:Hid (∀ i j:Nat,0 <= dst ((vsOf L)[i]?.getD []) ((vsOf L)[j]?.getD []) /\ dst ((vsOf L)[i]?.getD []) ((vsOf L)[j]?.getD []) <= 281474976710656):=zH (fun i j=>by
  have key:∀ i,allR (-1048576) 1048576 ((vsOf L)[i]?.getD []) = true /\ ((vsOf L)[i]?.getD []).length <= 64:=fun i=>by
   by_cases hi:i < (vsOf L).length
   ·rw [List.getElem?_eq_getElem hi,Option.getD_some]
    refine ⟨ha.out _ (List.getElem_mem hi),?_⟩
    have hi2:i < L.length:=by simpa using hi
    have:=hl.out _ (List.getElem_mem hi2)
    simp;omega
   ·rw [List.getElem?_eq_none (by omega)];exact ⟨rfl,by simp⟩
  exact dst_lim (key i).1 (key j).1 (key j).2)
 have HGET:Hid (∀ i (hi:i < L.length),(vsOf L)[i]?.getD [] = L[i].2.2):=zH (fun i hi=>by simp [List.getElem?_eq_getElem hi])
 have HA:=zH hA
 clear hA
 obtain ⟨W,hW⟩:∃ W:World,W = w.alloc (.cells #[.bool false,.slice none 0 0,.slice none 0 0] 28):=⟨_,rfl⟩
 have HB0:Hid (Below w.heap.size w W):=zH (by rw [hW];exact (Below.refl _ _).alloc (Nat.le_refl _) _)
 have HBX:Hid (Bt 28 W w.heap.size):=zH (by rw [hW];exact Bt.new _ w)
 have HAW:=zH (HA.out.below HB0.out)
 clear HA
 go_enter Tryz.func22,Tryz.ntmps22
 go_wp2_with fail
 rw [<- hW]
 clear hW
 go_loopw [3,4] (fun s i wr=>∃ k:Nat,k <= L.length /\ i = .int .i64 k /\ s = .int .i64 (spS (vsOf L) k) /\ ∃ m,Hid (wr = W.drewN m)) (fun _ i _=>L.length - (intOf i).toNat)
 case atStart=>exact ⟨0,by omega,rfl,rfl,0,zH rfl⟩
 case round=>
  obtain ⟨k,hk,rfl,rfl,m,HWR⟩:=hrel
  by_cases hlt:k < L.length
  ·have hbk:=spS_bd HD.out k (by omega)
   have HS:Hid (spS (vsOf L) (k + 1) = spS (vsOf L) k + rowP (vsOf L) k k):=zH rfl
   generalize spS (vsOf L) k = s at *
   go_wp2_with fail
   go_loopw [3,5] (fun s' i wr'=>∃ j:Nat,j <= k /\ i = .int .i64 j /\ s' = .int .i64 (s + rowP (vsOf L) k j) /\ ∃ m,Hid (wr' = W.drewN m)) (fun _ i _=>k - (intOf i).toNat)
   case atStart=>exact ⟨0,by omega,rfl,by simp [rowP],m,HWR⟩
   case round=>
    obtain ⟨j,hj,rfl,rfl,m,HWR'⟩:=hrel
    by_cases hjl:j < k
    ·have HBV:Hid (Below W.heap.size W wr):=zH (by rw [HWR'.out];exact below_dN (Below.refl _ _) m)
     have hLV:=HAW.out.below HBV.out
     obtain ⟨b1,o1,rfl,hb1,hc1⟩:=hLV.lies.lat hlt
     obtain ⟨b2,o2,e,hb2,hc2⟩:=hLV.lies.lat (k:=j) (by omega)
     cases e
     have x1:=hLV.inn _ (List.getElem_mem hlt)
     have x2:=hLV.inn _ (List.getElem_mem (show j < L.length by omega))
     have y1:=hl.out _ (List.getElem_mem hlt)
     have y2:=hl.out _ (List.getElem_mem (show j < L.length by omega))
     have z1:=ha.out _ (List.mem_map_of_mem (f:=fun x:Inn=>x.2.2) (List.getElem_mem hlt))
     have z2:=ha.out _ (List.mem_map_of_mem (f:=fun x:Inn=>x.2.2) (List.getElem_mem (show j < L.length by omega)))
     have hd:=HD.out k j
     have hr:=rowP_bd HD.out k j
     have HR:Hid (rowP (vsOf L) k (j + 1) = rowP (vsOf L) k j + dst ((vsOf L)[k]?.getD []) ((vsOf L)[j]?.getD [])):=zH rfl
     rw [HGET.out k hlt,HGET.out j (by omega)] at HR hd
     generalize L[k] = X at *
     generalize L[j] = Y at *
     obtain ⟨XA,Xc,xl⟩:=X
     obtain ⟨YA,Yc,yl⟩:=Y
     simp only at *
     have HQ:Hid (∀ q,Calls Tryz.prog 68 #[.slice XA xl.length Xc,.slice YA yl.length Yc] (wr.drewN q) fun e w'=>e = .returned (.int .i64 (dst xl yl)) /\ ∃ q',w' = (wr.drewN q).drewN q'):=zH (fun q=>rDist_any XA YA Xc Yc xl yl (wr.drewN q) (x1.1.drewN q) (x2.1.drewN q) (zH (by rw [y1,y2])) (zH z1) (zH z2) (by omega))
     clear hLV x1 x2 y1 y2 z1 z2
     generalize rowP (vsOf L) k j = t at *
     generalize dst xl yl = z at *
     have p1:IntKind.i64.wrap (s + t + z) = s + t + z:=IntWalk.i64_in _ (by omega)
     go_wp2_with fail
     go_quiet ((go_at_call 68;exact Calls.quiet_of (HQ.out _)))
     go_wp2_with fail
     exact ⟨⟨j + 1,by omega,by go_num,by rw [HR.out];congr 1;omega,by rw [HWR'.out];exact drewN_ex _ _ _⟩,by simp [intOf];omega⟩
    ·obtain rfl:j = k:=by omega
     go_wp2_with fail
     exact ⟨⟨j + 1,by omega,by go_num,by rw [HS.out],m,HWR'⟩,by simp [intOf];omega⟩
  ·obtain rfl:k = L.length:=by omega
   have hbk:=spS_bd HD.out L.length h2
   have HB2:Hid (Below W.heap.size W wr):=zH (by rw [HWR.out];exact below_dN (Below.refl _ _) m)
   have HE:Hid (spQ (vsOf L) = (spS (vsOf L) L.length:Rat) * ((L.length:Int):Rat)⁻¹):=zH (by unfold spQ;rw [HVL.out])
   generalize spS (vsOf L) L.length = s at *
   have C1:=zH (rqMake_any s L.length wr (by omega) (by omega) (by omega) (by omega))
   rw [fq_mk (by omega),<- HE.out] at C1
   have HX2:=zH (HBX.out.below HB2.out)
   have HW2:=zH (HB0.out.trans (HB2.out.mono HB0.out.size))
   clear HBX HB0 HB2 HWR HAW
   go_wp2_with fail
   refine C1.out.mono ?_
   rintro e w' ⟨r,rfl,hr,hb⟩
   have RX:=zH (HX2.out.below hb)
   have RW:=zH (HW2.out.trans (hb.mono HW2.out.size))
   have HR:=zH hr
   obtain ⟨c0,c1,c2,f0,f1,f2⟩:=RX.out.facts
   obtain ⟨sn,sA,sc,sN,sB,sd,sD⟩:=r
   clear hr hb HX2 HW2 C1
   go_wp2_with fail
   obtain ⟨g0,g1,g2⟩:=box3 (.bool sn) (.slice sA sN.length sc) (.slice sB sD.length sd) c0 c1 c2
   refine bodyPost_ret (v:=.agg #[.bool sn,.slice sA sN.length sc,.slice sB sD.length sd]) (by simp [results,Tryz.results22,go_sem,g0,g1,g2]) rfl ?_
   exact ⟨⟨sn,sA,sc,sN,sB,sd,sD⟩,rfl,fq_boxed HR.out RX.out _ _ _,below_boxed RW.out (by omega) _ _ _⟩
theorem gapQ_sz2 {va vb:List (List Int)} (h:grpR [va,vb] = 0):Sz (gapQ va vb) 2000:=by
 obtain ⟨h1,h2,h3,h4,h5,h6,h7⟩:=grp_two h
 rw [<- gap_means (va:=va) (vb:=vb) (by omega) (by omega)]
 have hr:=(gR_sz (va:=va) (vb:=vb) (fun x hx=>(h6 x hx).2) (fun x hx=>(h7 x hx).2) h1 h3 h2 h4 (len0 va)).mono (show 2 + 11 * len0 va <= 1000 by omega)
 have hq:va.length * vb.length <= 100000000:=Nat.mul_le_mul h3 h4
 have s1:Sz (((va.length * vb.length:Nat):Int):Rat) 2:=Sz.i64 (by omega) (by omega)
 have s2:Sz (((va.length + vb.length:Nat):Int):Rat) 2:=Sz.i64 (by omega) (by omega)
 have n2:(((va.length + vb.length:Nat):Int):Rat) ≠ 0:=by
  have:((va.length + vb.length:Nat):Int) ≠ 0:=by omega
  exact_mod_cast this
 exact (hr.mul (s1.mul (sz_inv s2 n2))).mono (by omega)
theorem spQ_sz {vs:List (List Int)} (h1 : 0 < vs.length) (h2:vs.length <= 16) (h:∀ i j:Nat,0 <= dst (vs[i]?.getD []) (vs[j]?.getD []) /\ dst (vs[i]?.getD []) (vs[j]?.getD []) <= 281474976710656):Sz (spQ vs) 2:=by
 have:=spS_bd h vs.length h2
 exact sz_mk (by omega) (by omega) (by omega) (by omega)
theorem vcs_dst {n:Nat} {vs:List (List Int)} (h:Vcs n vs) (hn:n <= 64) (i j:Nat) : 0 <= dst (vs[i]?.getD []) (vs[j]?.getD []) /\ dst (vs[i]?.getD []) (vs[j]?.getD []) <= 281474976710656:=by
 have key:∀ i,allR (-1048576) 1048576 (vs[i]?.getD []) = true /\ (vs[i]?.getD []).length <= 64:=fun i=>by
  by_cases hi:i < vs.length
  ·rw [List.getElem?_eq_getElem hi,Option.getD_some]
   have:=h _ (List.getElem_mem hi)
   exact ⟨this.2,by omega⟩
  ·rw [List.getElem?_eq_none (by omega)];exact ⟨rfl,by simp⟩
 exact dst_lim (key i).1 (key j).1 (key j).2
theorem few2_le {g:List (List Int)} (h:few2 g = true):g.length <= 8:=by
 unfold few2 at h
 rw [Bool.and_eq_true] at h
 exact of_decide_eq_true h.1

theorem TalkGrows_any (A B:Option Addr) (c d:Nat) (L M:List Inn) (w:World) (hA:LL w A L) (hB:LL w B M) (hAn:A = none -> c = 0) (hBn:B = none -> d = 0) (hn:L.length <= 9223372036854775807) (hm:M.length <= 9223372036854775807) :
  Calls Tryz.prog 4 #[.slice A L.length c,.slice B M.length d] w (RetB true w):=by
 obtain ⟨W1,hW1⟩:∃ W1:World,W1 = w.alloc (.cells #[.slice A L.length c,.slice B M.length d] 22):=⟨_,rfl⟩
 have HB1:Hid (Below w.heap.size w W1):=zH (by rw [hW1];exact (Below.refl _ _).alloc (Nat.le_refl _) _)
 have HG1:Hid (GG W1 (some ⟨w.heap.size,0,none⟩) [(A,c,L),(B,d,M)]):=zH (by rw [hW1];exact gg_two hA hB _)
 have HA1:=zH (hA.below HB1.out)
 have HBB1:=zH (hB.below HB1.out)
 have hs1:W1.heap.size = w.heap.size + 1:=by rw [hW1];simp
 clear hA hB
 have HLEN:Hid (∀ g ∈ [(A,c,L),(B,d,M)],g.2.2.length <= 9223372036854775807):=zH (by intro g hg;simp at hg;rcases hg with rfl | rfl <;> assumption)
 have CF:=zH (few10_any (some ⟨w.heap.size,0,none⟩) 2 2 [(A,c,L),(B,d,M)] W1 HG1.out (by simp) (by decide) HLEN _ (zH rfl))
 have e2:(gvs [(A,c,L),(B,d,M)]:List (List (List Int))) = [vsOf L,vsOf M]:=rfl
 rw [e2] at CF
 cases hf:fewG 2 [vsOf L,vsOf M] with
 | false=>
  rw [hf] at CF
  clear hf e2 HLEN HG1 HA1 HBB1 hs1
  go_enter Tryz.func4,Tryz.ntmps4
  go_wp2_with fail
  rw [<- hW1]
  clear hW1
  refine CF.out.mono ?_
  rintro e w' ⟨rfl,rfl⟩
  clear CF
  go_wp2_with fail
  refine (known10_any _).mono ?_
  rintro e w2 ⟨rfl,hb2⟩
  go_wp2_with fail
  go_ret
  exact ⟨rfl,HB1.out.trans (hb2.mono HB1.out.size)⟩
 | true=>
  rw [hf] at CF
  have hl8:L.length <= 8:=by
   have h2:few2 (vsOf L) = true:=by
    unfold fewG at hf;rw [Bool.and_eq_true] at hf;exact List.all_eq_true.1 hf.2 _ (by simp)
   simpa using few2_le h2
  have hm8:M.length <= 8:=by
   have h2:few2 (vsOf M) = true:=by
    unfold fewG at hf;rw [Bool.and_eq_true] at hf;exact List.all_eq_true.1 hf.2 _ (by simp)
   simpa using few2_le h2
  clear hf HLEN hn hm HG1
  have HVL:Hid ((vsOf L).length = L.length):=zH (by simp)
  have HVM:Hid ((vsOf M).length = M.length):=zH (by simp)
  obtain ⟨r,hr⟩:∃ r,r = grpR [vsOf L,vsOf M]:=⟨_,rfl⟩
  have HR:=zH hr.symm
  clear hr
  obtain ⟨W2,hW2⟩:∃ W2:World,W2 = W1.alloc (.cells #[.slice A L.length c,.slice B M.length d] 22):=⟨_,rfl⟩
  have HB2':Hid (Below W1.heap.size W1 W2):=zH (by rw [hW2];exact (Below.refl _ _).alloc (Nat.le_refl _) _)
  have HG2:Hid (GG W2 (some ⟨W1.heap.size,0,none⟩) [(A,c,L),(B,d,M)]):=zH (by rw [hW2];exact gg_two HA1.out HBB1.out _)
  have C3:=zH (rGroups_any (some ⟨W1.heap.size,0,none⟩) 2 [(A,c,L),(B,d,M)] W2 HG2.out (by simp) (zH (by intro g hg;simp at hg;rcases hg with rfl | rfl;exact (show L.length <= 10000 by omega);exact (show M.length <= 10000 by omega))) (zH (by intro g hg;simp at hg;rcases hg with rfl | rfl <;> assumption)) r HR)
  clear e2 hs1
  go_enter Tryz.func4,Tryz.ntmps4
  go_wp2_with fail
  rw [<- hW1]
  clear hW1
  refine CF.out.mono ?_
  rintro e w' ⟨rfl,rfl⟩
  clear CF
  go_wp2_with fail
  rw [<- hW2]
  clear hW2
  refine C3.out.mono ?_
  rintro e w3 ⟨rfl,hb3⟩
  have HB3:Hid (Below W1.heap.size W1 w3):=zH (HB2'.out.trans (hb3.mono HB2'.out.size))
  have HA3:=zH (HA1.out.below HB3.out)
  have HBB3:=zH (HBB1.out.below HB3.out)
  have HW3:=zH (HB1.out.trans (HB3.out.mono HB1.out.size))
  clear hb3 HB2' HG2 C3 HA1 HBB1 HB1 HB3
  by_cases h0:r = 0
  ·subst h0
   obtain ⟨i0,hi0,hz0,hz1,hz2⟩:=info_parts info_ints
   have TI:=zH hi0;have TZ0:=zH hz0;have TZ1:=zH hz1;have TZ2:=zH hz2
   clear hi0 hz0 hz1 hz2
   have q0:((0:Int) != 0) = false:=rfl
   obtain ⟨g1,g2,g3,g4,g5,g6,g7⟩:=grp_two HR.out
   have G5:=zH g5
   have GL:Hid (∀ x ∈ L,x.2.2.length = len0 (vsOf L)):=zH (fun x hx=>(g6 _ (List.mem_map_of_mem hx)).1)
   have GM:Hid (∀ x ∈ M,x.2.2.length = len0 (vsOf L)):=zH (fun x hx=>(g7 _ (List.mem_map_of_mem hx)).1)
   have RL:Hid (∀ x ∈ vsOf L,allR (-1048576) 1048576 x = true):=zH (fun x hx=>(g6 x hx).2)
   have RM:Hid (∀ x ∈ vsOf M,allR (-1048576) 1048576 x = true):=zH (fun x hx=>(g7 x hx).2)
   have EJ:Hid (vsOf (L ++ M) = vsOf L ++ vsOf M):=zH (by simp [vsOf])
   have HV12:Hid (Vcs (len0 (vsOf L)) (vsOf L ++ vsOf M)):=zH (fun x hx=>by rcases List.mem_append.1 hx with h | h;exact g6 x h;exact g7 x h)
   have QJ:=zH (spQ_join g1 g2 (fun x hx=>(g6 x hx).1) (fun x hx=>(g7 x hx).1))
   have SL:=zH (spQ_sz g1 (by rw [HVL.out];omega) (vcs_dst g6 g5))
   have SM:=zH (spQ_sz g2 (by rw [HVM.out];omega) (vcs_dst g7 g5))
   have SJ:=zH (spQ_sz (vs:=vsOf L ++ vsOf M) (by rw [List.length_append];omega) (by rw [List.length_append,HVL.out,HVM.out];omega) (vcs_dst HV12.out g5))
   rw [HVL.out] at g1
   rw [HVM.out] at g2
   have SG:=zH (gapQ_sz2 HR.out)
   clear g3 g4 g5 g6 g7 HVL HVM
   have C1:=zH (tGap_any A B c d L M w3 HA3.out HBB3.out (by omega) (by omega) 0 HR)
   go_wp2_with fail
   refine C1.out.mono ?_
   rintro e w4 ⟨x,rfl,hx,hb4,-⟩
   obtain ⟨W5,hW5⟩:∃ W5:World,W5 = w4.alloc (.cells #[.bool x.neg,.slice x.A x.N.length x.c,.slice x.B x.D.length x.d] 28):=⟨_,rfl⟩
   have HB5':Hid (Below w4.heap.size w4 W5):=zH (by rw [hW5];exact (Below.refl _ _).alloc (Nat.le_refl _) _)
   have HB5:Hid (Below w3.heap.size w3 W5):=zH (hb4.trans (HB5'.out.mono hb4.size))
   have HX5:Hid (Fb W5 w4.heap.size x):=zH (by rw [hW5];exact Fb.new w4 x)
   have HQ5:Hid (Fq W5 x (gapQ (vsOf L) (vsOf M))):=zH (hx.below HB5'.out)
   have HA5:=zH (HA3.out.below HB5.out)
   have HBB5:=zH (HBB3.out.below HB5.out)
   have HW5:=zH (HW3.out.trans (HB5.out.mono HW3.out.size))
   clear hx hb4 HB5' HB5 C1 HA3 HBB3 HW3
   go_upto_region 4 with fail
   rw [<- hW5]
   clear hW5
   go_cut [5,6,7] from 7 to 31 (fun t5 t6 t7 wx=>t5 = .pointer (some ⟨w4.heap.size,0,none⟩) /\ t6 = .int .i64 0 /\ ∃ A7 c7,t7 = .slice A7 (L.length + M.length) c7 /\ Hid (wx.ownsRow W5.heap.size 40 1 (.slice A7 (L.length + M.length) c7) (L.length + M.length) (lcs (L ++ M))) /\ Hid (Below W5.heap.size W5 wx))
   case first=>
    go_wp2_with first | (at_builtin;refine wpList_append_srcG _ rfl (.const (.slice none 0 0)) (.tmp 27) _ rfl W5.heap.size 40 i0 _ 1 24 Tryz.underlying22 TI.out TZ0.out TZ1.out TZ2.out rfl (by omega) (.slice none 0 0) 0 [] rfl (World.ownsRow_nil _ _ _ _) A L.length c (lcs L) rfl hAn HA5.out.lies (by simp) (by intro u hu;simp only [lcs,List.mem_map] at hu;obtain ⟨x,_,rfl⟩:=hu;rfl) (by unfold maxLen;omega) (by omega) (Nat.le_refl _) L.length (by omega) ?_;intro A6 c6 w6 ho6 hg6 hy6;have HB6:Hid (Below W5.heap.size W5 w6):=zH ((Below.refl _ _).grown hg6 (Nat.le_refl _) (fun k hk=>by cases hk));have HO6:=zH ho6;clear ho6 hg6 hy6) | (at_builtin;refine wpList_append_srcG _ rfl (.tmp 28) (.tmp 29) _ rfl W5.heap.size 40 i0 _ 1 24 Tryz.underlying22 TI.out TZ0.out TZ1.out TZ2.out rfl (by omega) (.slice A6 L.length c6) L.length ([] ++ lcs L) rfl HO6.out B M.length d (lcs M) rfl hBn (HBB5.out.below HB6.out).lies (by simp) (by intro u hu;simp only [lcs,List.mem_map] at hu;obtain ⟨x,_,rfl⟩:=hu;rfl) (by unfold maxLen;omega) (by omega) HB6.out.size (L.length + M.length) rfl ?_;intro A7 c7 w7 ho7 hg7 hy7;have HB7:Hid (Below W5.heap.size W5 w7):=zH (HB6.out.grown hg7 HB6.out.size (fun k hk=>(HO6.out.lt k (by simpa [Value.ownBlock] using hk)).1));have HO7:=zH ho7;clear ho7 hg7 hy7)
    go_meet
    exact ⟨rfl,rfl,A7,c7,rfl,zH (by have:=HO7.out;rw [List.nil_append] at this;rw [lcs,List.map_append];exact this),HB7⟩
   case rest=>
    obtain ⟨rfl,rfl,A7,c7,rfl,HO7,HB7⟩:=hcut
    have HXc:=zH (HX5.out.below HB7.out)
    have HQc:=zH (HQ5.out.below HB7.out)
    have HAc:=zH (HA5.out.below HB7.out)
    have HBc:=zH (HBB5.out.below HB7.out)
    have HWc:=zH (HW5.out.trans (HB7.out.mono HW5.out.size))
    have HJc:Hid (LL wc A7 (L ++ M)):=zH ⟨Lies.of_own HO7.out,fun x hx=>by rcases List.mem_append.1 hx with h | h;exact HAc.out.inn x h;exact HBc.out.inn x h⟩
    have CJ:Hid (∀ u,Below wc.heap.size wc u -> Calls Tryz.prog 22 #[.slice A7 (L.length + M.length) c7] u (RetFq (spQ (vsOf L ++ vsOf M)) u)):=zH (fun u hu=>by
     have h:=spread_any A7 c7 (L ++ M) u (HJc.out.below hu) (by rw [List.length_append];omega) (by rw [List.length_append];omega) (len0 (vsOf L)) G5.out (zH (fun x hx=>by rcases List.mem_append.1 hx with h | h;exact GL.out x h;exact GM.out x h)) (zH (fun x hx=>by rw [EJ.out] at hx;rcases List.mem_append.1 hx with h | h;exact RL.out x h;exact RM.out x h))
     rw [List.length_append,EJ.out] at h
     exact h)
    have HBX:Hid (∀ u,Below wc.heap.size wc u -> u.cell? ⟨w4.heap.size,0,none⟩ = some (.bool x.neg) /\ u.cell? ⟨w4.heap.size,1,none⟩ = some (.slice x.A x.N.length x.c) /\ u.cell? ⟨w4.heap.size,2,none⟩ = some (.slice x.B x.D.length x.d)):=zH (fun u hu=>by
     obtain ⟨a0,a1,a2,-,-,-⟩:=(HXc.out.below hu).facts
     exact ⟨a0,a1,a2⟩)
    clear HX5 HQ5 HA5 HBB5 HW5 HO7 HB7 HXc TI TZ0 TZ1 TZ2 HJc
    go_upto_region 5 with fail
    refine wp_region_held0 (S:=fun w'=>w'.cell? ⟨w4.heap.size,0,none⟩ = some (.bool x.neg) /\ w'.cell? ⟨w4.heap.size,1,none⟩ = some (.slice x.A x.N.length x.c) /\ w'.cell? ⟨w4.heap.size,2,none⟩ = some (.slice x.B x.D.length x.d)) 19 rfl (by kernel_rfl) (HBX.out _ (Below.refl _ _).drew) (fun hHeld=>?_)
    iterate 4 (((refine wpAnyH_takeN (v:=?_) rfl (by kernel_rfl) (fun _ _ _ h=>h) ⟨by rfl,?_⟩ hHeld ?_;rotate_left;· intro w' hSw;obtain ⟨s1,s2,s3⟩:=hSw;go_simp;try with_reducible rfl);simp only [List.setIfInBounds_toArray,List.set_cons_zero,List.set_cons_succ]))
    refine wpAnyH_takeD (i:=5) 36 (v:=?_) rfl rfl (by kernel_rfl) (by kernel_rfl) (by kernel_rfl) (fun _ _ _ h=>h) ⟨by rfl,?_⟩ hHeld ?_
    rotate_left
    ·intro w' hSw;obtain ⟨s1,s2,s3⟩:=hSw;go_simp;try with_reducible rfl
    simp only [List.setIfInBounds_toArray,List.set_cons_zero,List.set_cons_succ]
    refine wpAnyH_takeD (i:=8) 39 (v:=?_) rfl rfl (by kernel_rfl) (by kernel_rfl) (by kernel_rfl) (fun _ _ _ h=>h) ⟨by rfl,?_⟩ hHeld ?_
    rotate_left
    ·intro w' hSw;obtain ⟨s1,s2,s3⟩:=hSw;go_simp;try with_reducible rfl
    simp only [List.setIfInBounds_toArray,List.set_cons_zero,List.set_cons_succ]
    refine wpAnyH_takeD (i:=10) 41 (v:=?_) rfl rfl (by kernel_rfl) (by kernel_rfl) (by kernel_rfl) (fun _ _ _ h=>h) ⟨by rfl,?_⟩ hHeld ?_
    rotate_left
    ·intro w' hSw;obtain ⟨s1,s2,s3⟩:=hSw;go_simp;try with_reducible rfl
    simp only [List.setIfInBounds_toArray,List.set_cons_zero,List.set_cons_succ]
    refine wpAnyH_oneW 4 rfl (by kernel_rfl) (by rfl) (fun K hK=>?_)
    go_simp
    refine (spread_any A c L wc.drew (HAc.out.below (Below.refl _ _).drew) g1 (by omega) (len0 (vsOf L)) G5.out GL RL).mono ?_
    rintro e u1 ⟨s1,rfl,hs1,hb1⟩
    have HC1:Hid (Below wc.heap.size wc u1):=zH (below_undrew hb1)
    have HS1:=zH hs1
    clear hs1 hb1
    go_simp
    refine hK _ _ (HBX.out u1 HC1.out) (fun hHeld=>?_)
    clear hK K
    refine wpAnyH_oneW 6 rfl (by kernel_rfl) (by rfl) (fun K hK=>?_)
    go_simp
    refine (spread_any B d M u1 (HBc.out.below HC1.out) g2 (by omega) (len0 (vsOf L)) G5.out GM RM).mono ?_
    rintro e u2 ⟨s2,rfl,hs2,hb2⟩
    have HC2:=zH (HC1.out.trans (hb2.mono HC1.out.size))
    have HS2:=zH hs2
    have HS1':=zH (HS1.out.below hb2)
    clear hs2 hb2 HS1 HC1
    go_simp
    refine hK _ _ (HBX.out u2 HC2.out) (fun hHeld=>?_)
    clear hK K
    refine wpAnyH_oneW 7 rfl (by kernel_rfl) (by rfl) (fun K hK=>?_)
    go_simp
    refine (qAdd_any s1 s2 (spQ (vsOf L)) (spQ (vsOf M)) u2 HS1'.out.fv HS2.out.fv (HS1'.out.few (SL.out.mono (by decide))) (HS2.out.few (SM.out.mono (by decide)))).mono ?_
    rintro e u3 ⟨a1,rfl,ha1,hb3⟩
    have HC3:=zH (HC2.out.trans (hb3.mono HC2.out.size))
    have HS3:=zH ha1
    clear ha1 hb3 HS1' HS2 HC2
    go_simp
    refine hK _ _ (HBX.out u3 HC3.out) (fun hHeld=>?_)
    clear hK K
    refine wpAnyH_oneW 9 rfl (by kernel_rfl) (by rfl) (fun K hK=>?_)
    go_simp
    refine (qAdd_any a1 x ((spQ (vsOf L)) + (spQ (vsOf M))) (gapQ (vsOf L) (vsOf M)) u3 HS3.out.fv (HQc.out.below HC3.out).fv (HS3.out.few ((SL.out.add SM.out).mono (by decide))) ((HQc.out.below HC3.out).few (SG.out.mono (by decide)))).mono ?_
    rintro e u4 ⟨a2,rfl,ha2,hb4⟩
    rw [QJ.out] at ha2
    have HC4:=zH (HC3.out.trans (hb4.mono HC3.out.size))
    have HS4:=zH ha2
    clear ha2 hb4 HS3 HC3
    go_simp
    refine hK _ _ (HBX.out u4 HC4.out) (fun hHeld=>?_)
    clear hK K
    refine wpAnyH_oneW 11 rfl (by kernel_rfl) (by rfl) (fun K hK=>?_)
    go_simp
    refine (CJ.out u4 HC4.out).mono ?_
    rintro e u5 ⟨s3,rfl,hs3,hb5⟩
    have HC5:=zH (HC4.out.trans (hb5.mono HC4.out.size))
    have HS5:=zH hs3
    have HS4':=zH (HS4.out.below hb5)
    clear hs3 hb5 HS4 HC4
    go_simp
    refine hK _ _ (HBX.out u5 HC5.out) (fun hHeld=>?_)
    clear hK K
    refine wpAnyH_oneW 12 rfl (by kernel_rfl) (by rfl) (fun K hK=>?_)
    go_simp
    refine (qCmp_any a2 s3 (spQ (vsOf L ++ vsOf M)) (spQ (vsOf L ++ vsOf M)) u5 HS4'.out.fv HS5.out.fv (HS4'.out.few (SJ.out.mono (by decide))) (HS5.out.few (SJ.out.mono (by decide))) 0 (zH (by rw [Rat.add_neg_cancel];decide))).mono ?_
    rintro e u6 ⟨rfl,hb6⟩
    have HC6:=zH (HC5.out.trans (hb6.mono HC5.out.size))
    clear hb6 HS4' HS5 HC5
    go_simp
    refine hK _ _ (HBX.out u6 HC6.out) (fun hHeld=>?_)
    clear hK K
    iterate 3 (((refine wpAnyH_takeN (v:=?_) rfl (by kernel_rfl) (fun _ _ _ h=>h) ⟨by rfl,?_⟩ hHeld ?_;rotate_left;· intro w' hSw;obtain ⟨s1,s2,s3⟩:=hSw;go_simp;try with_reducible rfl);simp only [List.setIfInBounds_toArray,List.set_cons_zero,List.set_cons_succ]))
    refine wpAnyH_oneW 16 rfl (by kernel_rfl) (by rfl) (fun K hK=>?_)
    go_simp
    refine (known10_any u6).mono ?_
    rintro e u7 ⟨rfl,hb7⟩
    have HC7:=zH (HC6.out.trans (hb7.mono HC6.out.size))
    clear hb7 HC6
    go_simp
    refine hK _ _ (HBX.out u7 HC7.out) (fun hHeld=>?_)
    clear hK K
    iterate 2 (((refine wpAnyH_takeN (v:=?_) rfl (by kernel_rfl) (fun _ _ _ h=>h) ⟨by rfl,?_⟩ hHeld ?_;rotate_left;· intro w' hSw;obtain ⟨s1,s2,s3⟩:=hSw;go_simp;try with_reducible rfl);simp only [List.setIfInBounds_toArray,List.set_cons_zero,List.set_cons_succ]))
    refine wpAnyH_done (by kernel_rfl) ?_ _
    go_wp2_with fail
    go_ret
    exact ⟨rfl,HWc.out.trans (HC7.out.mono HWc.out.size)⟩
  ·have q0:(r != 0) = true:=by simpa using h0
   clear h0 HR HA3 HBB3 HVL HVM
   go_wp2_with fail
   refine (known10_any w3).mono ?_
   rintro e w4 ⟨rfl,hb4⟩
   go_wp2_with fail
   go_ret
   exact ⟨rfl,HW3.out.trans (hb4.mono HW3.out.size)⟩
end Go.Proofs.YtcjicjfbippmnaaGreat
namespace Go.Proofs.YtcjicjfbippmnaaGreat
open Go.RowKit Go.WideShapes

def Rd {H:Type} (enc:TypeId × Value -> H) (P:Program) (w:World) (t:TypeId) (cs:List Value):Prop:=
 ∃ fuel x,DataW.trod enc P w 0 (fun _=>true) true fuel t cs = some x

section
variable {α:Type} {H:Type} {enc:TypeId × Value -> H} {P:Program} {w:World} {t e:TypeId} {cs:List Value}

theorem Rd.of {v:Value} {d:DataW H} {p:List MemPlace} (h:DataW.Trod enc P w 0 (fun _=>true) true t v d p):Rd enc P w t v.cells.toList:=by
 obtain ⟨fuel,hf⟩:=h
 exact ⟨fuel,_,hf⟩
theorem Rd.int {k:IntKind} (ht:P.underlying t = some (.int k)) (h:Rd enc P w t cs):∃ n,cs = [.int k n] /\ k.min <= n /\ n <= k.max:=by
 obtain ⟨fuel,x,hf⟩:=h
 cases fuel with
 | zero=>simp [DataW.trod] at hf
 | succ f=>
  unfold DataW.trod at hf
  rw [ht] at hf
  split at hf <;> simp_all
  rename_i h1
  obtain ⟨⟨rfl,hw⟩,_⟩:=hf
  subst h1
  simpa [Lit.wf] using hw
theorem chunk {elem : α -> List Value} {S:Nat}:∀ (l:List α) (a:Addr),(∀ i x,l[i]? = some x -> (elem x).length = S /\ ∀ j,j < S -> w.cell? (a.add (i * S + j)) = (elem x)[j]?) ->
  ∀ k u,(l.flatMap elem)[k]? = some u -> w.cell? (a.add k) = some u:=by
 intro l
 induction l with
 | nil=>intro a _ k u h;simp at h
 | cons x xs ih=>
  intro a h k u hk
  obtain ⟨h1,h2⟩:=h 0 x rfl
  rw [List.flatMap_cons,List.getElem?_append] at hk
  split at hk <;> rename_i hlt
  ·rw [h1] at hlt
   have:=h2 k hlt
   rw [Nat.zero_mul,Nat.zero_add,hk] at this
   exact this
  ·rw [h1] at hk hlt
   have h3:=ih (a.add S) (fun i y hy=>by
    obtain ⟨g1,g2⟩:=h (i + 1) y (by simpa using hy)
    refine ⟨g1,fun j hj=>?_⟩
    rw [Addr.add_add,<- g2 j hj]
    congr 2
    rw [Nat.succ_mul];omega) (k - S) u hk
   rw [Addr.add_add] at h3
   rwa [show S + (k - S) = k by omega] at h3

theorem Rd.slice {α:Type} {S:Nat} (ht:P.underlying t = some (.slice e)) (hS:P.cellsOf e = S) (elem : α -> List Value) (Pr : α -> Prop)
  (he:∀ cs,Rd enc P w e cs -> ∃ a,cs = elem a /\ Pr a) (h:Rd enc P w t cs) :
  ∃ A c,∃ l:List α,cs = [.slice A l.length c] /\ Lies w A (l.flatMap elem) /\ (A = none -> c = 0 /\ l = []) /\ l.length <= 9223372036854775807 /\ l.length <= c /\ (∀ a ∈ l,Pr a):=by
 obtain ⟨fuel,x,hf⟩:=h
 rcases DataW.trod_slice ht hf with ⟨rfl,_⟩ | ⟨a,len,cap,elems,rest,n,_,rfl,_,_,hl,hm,hlen,hel,_,_⟩
 ·exact ⟨none,0,[],rfl,Lies.nil _ _,fun _=>⟨rfl,rfl⟩,by simp,by simp,by simp⟩
 ·have key:∀ i,i < len -> ∃ y,Pr y /\ (elem y).length = S /\ ∀ j,j < S -> w.cell? (a.add (i * S + j)) = (elem y)[j]?:=by
   intro i hi
   have h1:=hel i hi
   rw [List.getElem?_eq_getElem (by omega)] at h1
   obtain ⟨es,h2,h3⟩:=Option.bind_eq_some_iff.1 h1
   obtain ⟨y,rfl,hy⟩:=he es ⟨n,_,h3⟩
   obtain ⟨_,h4,h5⟩:=World.cells?_some h2
   rw [hS] at h4 h5
   refine ⟨y,hy,h4,fun j hj=>?_⟩
   rw [<- h5 j hj,Addr.add_add]
  have pick:∀ m,m <= len -> ∃ l:List α,l.length = m /\ ∀ i y,l[i]? = some y -> Pr y /\ (elem y).length = S /\ ∀ j,j < S -> w.cell? (a.add (i * S + j)) = (elem y)[j]?:=by
   intro m
   induction m with
   | zero=>intro _;exact ⟨[],rfl,fun i y hy=>by simp at hy⟩
   | succ m ih=>
    intro hm'
    obtain ⟨l,hl1,hl2⟩:=ih (by omega)
    obtain ⟨y,hy⟩:=key m (by omega)
    refine ⟨l ++ [y],by simp [hl1],fun i z hz=>?_⟩
    rw [List.getElem?_append] at hz
    split at hz
    ·exact hl2 i z hz
    ·rename_i hge
     have hi:i = m:=by
      have:=(List.getElem?_eq_some_iff.1 hz).1
      simp at this;omega
     subst hi
     rw [hl1,Nat.sub_self] at hz
     simp at hz
     subst hz
     exact hy
  obtain ⟨l,hll,hg⟩:=pick len (Nat.le_refl _)
  refine ⟨some a,cap,l,by rw [hll],fun h0=>?_,fun h=>by simp at h,?_,by omega,fun y hy=>?_⟩
  ·have hc:=chunk (w:=w) l a (fun i x hx=>(hg i x hx).2)
   obtain ⟨u,hu⟩:∃ u,(l.flatMap elem)[0]? = some u:=⟨_,List.getElem?_eq_getElem h0⟩
   have h1:=hc 0 u hu
   obtain ⟨b,off,sp⟩:=a
   have hsp:sp = none:=by
    cases sp with
    | none=>rfl
    | some q=>
     exfalso
     simp [Addr.add,World.cell?] at h1
     split at h1 <;> simp_all
   subst hsp
   refine ⟨b,off,rfl,?_,fun k u hk=>?_⟩
   ·apply Decidable.byContradiction
    intro hb
    simp [Addr.add,World.cell?,hb] at h1
   ·have:=hc k u hk
    rwa [Addr.add_lit] at this
  ·rw [hll];unfold maxLen at hm;omega
  ·obtain ⟨i,hi,rfl⟩:=List.getElem_of_mem hy
   exact (hg i _ (List.getElem?_eq_getElem hi)).1
theorem Rd.ints (ht:P.underlying t = some (.slice e)) (he:P.underlying e = some (.int .i64)) (hc:P.cellsOf e = 1) (h:Rd enc P w t cs) :
  ∃ A c l,cs = [.slice A l.length c] /\ Lies w A (ics l) /\ (A = none -> c = 0 /\ l = []) /\ l.length <= 9223372036854775807 /\ l.length <= c /\ (∀ x ∈ l,-9223372036854775808 <= x /\ x <= 9223372036854775807):=by
 obtain ⟨A,c,l,h1,h2,h3⟩:=h.slice ht hc (fun n=>[Value.int .i64 n]) (fun n=>-9223372036854775808 <= n /\ n <= 9223372036854775807) (fun cs hcs=>hcs.int he)
 refine ⟨A,c,l,h1,?_,h3⟩
 have:(l.flatMap fun n=>[Value.int .i64 n]) = ics l:=by
  clear h1 h2 h3
  induction l with
  | nil=>rfl
  | cons x xs ih=>rw [List.flatMap_cons,ih];rfl
 rwa [this] at h2
variable {v:Value} {d:DataW H} {p:List MemPlace} {r:Reach} {b0:Nat}
theorem op_intss {e':TypeId} (ht:P.underlying t = some (.slice e)) (he:P.underlying e = some (.slice e')) (he':P.underlying e' = some (.int .i64)) (hc:P.cellsOf e = 1) (hc':P.cellsOf e' = 1) (hv:Value.okWide P w r b0 t v) (h:DataW.Trod enc P w 0 (fun _=>true) true t v d p) :
  ∃ A c l,v = .slice A l.length c /\ Lies w A (lcs l) /\ (A = none -> c = 0 /\ l = []) /\ l.length <= 9223372036854775807 /\ l.length <= c /\ (∀ x ∈ l,InOk w x):=by
 obtain ⟨A',n',c',rfl⟩:=okWide_slice ht hv
 obtain ⟨A,c,l,h1,h2,h3⟩:=(Rd.of h).slice ht hc (fun x:Option Addr × Nat × List Int=>[Value.slice x.1 x.2.2.length x.2.1]) (InOk w) (fun cs hcs=>by
  obtain ⟨A,c,l,rfl,q⟩:=hcs.ints he he' hc'
  exact ⟨(A,c,l),rfl,q⟩)
 have:(l.flatMap fun x:Option Addr × Nat × List Int=>[Value.slice x.1 x.2.2.length x.2.1]) = lcs l:=by
  clear h1 h2 h3
  induction l with
  | nil=>rfl
  | cons x xs ih=>rw [List.flatMap_cons,ih];rfl
 rw [this] at h2
 simp [Value.cells] at h1
 obtain ⟨rfl,rfl,rfl⟩:=h1
 exact ⟨A',c',l,rfl,h2,h3⟩
end
end Go.Proofs.YtcjicjfbippmnaaGreat
