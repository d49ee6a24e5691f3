/- a part of TalkApart -/
import Derived.Test.YtcjicjfbippmnaaGreatMTApar43
import Derived.Test.YtcjicjfbippmnaaGreatMTApar44
import Derived.Test.YtcjicjfbippmnaaGreatMTApar45
import Derived.Test.YtcjicjfbippmnaaGreatMTApar20
import Derived.Test.YtcjicjfbippmnaaGreatMTApar21
import Derived.Test.YtcjicjfbippmnaaGreatMTApar2
set_option maxRecDepth 100000
set_option maxHeartbeats 32000000
namespace Go.Proofs.YtcjicjfbippmnaaGreat
open Go.RowKit Ear

theorem gapQ_sz3 {va vb:List (List Int)} (h:grpR [va,vb] = 0):Sz (gapQ va vb) 2000:=by
 obtain ⟨h1,h2,h3,h4,h5,h6,h7⟩:=grp_two h
 rw [<- gap_means (va:=va) (vb:=vb) (by omega) (by omega)]
 have hr:=(gR_sz (va:=va) (vb:=vb) (fun x hx=>(h6 x hx).2) (fun x hx=>(h7 x hx).2) h1 h3 h2 h4 (len0 va)).mono (show 2 + 11 * len0 va <= 1000 by omega)
 have hq:va.length * vb.length <= 100000000:=Nat.mul_le_mul h3 h4
 have s1:Sz (((va.length * vb.length:Nat):Int):Rat) 2:=Sz.i64 (by omega) (by omega)
 have s2:Sz (((va.length + vb.length:Nat):Int):Rat) 2:=Sz.i64 (by omega) (by omega)
 have n2:(((va.length + vb.length:Nat):Int):Rat) ≠ 0:=by
  have:((va.length + vb.length:Nat):Int) ≠ 0:=by omega
  exact_mod_cast this
 exact (hr.mul (s1.mul (sz_inv s2 n2))).mono (by omega)
theorem few2_l8 {g:List (List Int)} (h:few2 g = true):g.length <= 8:=by
 unfold few2 at h
 rw [Bool.and_eq_true] at h
 exact of_decide_eq_true h.1
def jExt (J:List (List (List Int))) (l:Nat):List (List (List Int)):=if l = J.length then J ++ [[]] else J
theorem info_grps:(Tryz.prog.info? 22).map (fun i=>(i.zero,i.size,i.bytes)) = some (some (.slice none 0 0),1,24):=by kernel_rfl
theorem jn_ent {out:List Int} {gs:List (List (List Int))} (h:∀ g ∈ gs,g.length <= 8):∀ i k:Nat,((jn out gs i)[k]?.getD []).length <= 8 * i:=by
 intro i
 induction i with
 | zero=>intro k;simp [jn]
 | succ i ih=>
  intro k
  have hg:(gs[i]?.getD []).length <= 8:=by
   by_cases hi:i < gs.length
   ·rw [List.getElem?_eq_getElem hi,Option.getD_some];exact h _ (List.getElem_mem hi)
   ·rw [List.getElem?_eq_none (by omega)];simp
  have key:∀ k:Nat,((jExt (jn out gs i) (out[i]?.getD 0).toNat)[k]?.getD []).length <= 8 * i:=by
   intro k
   unfold jExt
   split
   ·by_cases hk:k < (jn out gs i).length
    ·rw [List.getElem?_append_left hk];exact ih k
    ·rw [List.getElem?_append_right (by omega)]
     cases k - (jn out gs i).length <;> simp
   ·exact ih k
  simp only [jn]
  show (((jExt (jn out gs i) (out[i]?.getD 0).toNat).set (out[i]?.getD 0).toNat (((jExt (jn out gs i) (out[i]?.getD 0).toNat)[(out[i]?.getD 0).toNat]?.getD []) ++ (gs[i]?.getD [])))[k]?.getD []).length <= _
  generalize (out[i]?.getD 0).toNat = l at *
  by_cases hkl:l = k
  ·subst hkl
   by_cases hl:l < (jExt (jn out gs i) l).length
   ·rw [List.getElem?_set_self hl,Option.getD_some,List.length_append]
    have:=key l
    omega
   ·rw [List.getElem?_eq_none (by simpa using hl)];simp
  ·rw [List.getElem?_set_ne hkl]
   have:=key k
   omega
theorem jExt_ent {J:List (List (List Int))} {k l b:Nat} (h:∀ k:Nat,(J[k]?.getD []).length <= b):((jExt J l)[k]?.getD []).length <= b:=by
 unfold jExt
 split
 ·by_cases hk:k < J.length
  ·rw [List.getElem?_append_left hk];exact h k
  ·rw [List.getElem?_append_right (by omega)]
   cases k - J.length <;> simp
 ·exact h k
theorem jn_le (out:List Int) (gs:List (List (List Int))) (i:Nat):(jn out gs i).length <= i:=by
 induction i with
 | zero=>simp [jn]
 | succ i ih=>
  simp only [jn,jStep,List.length_set]
  split
  ·simp;exact ih
  ·omega
def aptOk (gs:List (List (List Int))) (most sg:Int) (a b:Nat):Bool:=fewG 7 gs && (decide (gs.length <= 7) && (grpR gs == 0 && (decide (1 <= most) && (decide (0 <= sg) && (decide (a <= 4) && decide (b <= 4))))))

theorem TalkApart_any (A:Option Addr) (c:Nat) (G:List Grp) (most:Int) (x:Fr) (w:World) (hA:GG w A G) (hn:G.length <= 9223372036854775807) (hnil:∀ g ∈ G,g.1 = none -> g.2.1 = 0) (hlen:∀ g ∈ G,g.2.2.length <= 9223372036854775807) (hx:FrOk w x) (hxN:x.N.length <= 9223372036854775807) (hxD:x.D.length <= 9223372036854775807) :
  Calls Tryz.prog 6 #[.slice A G.length c,.int .i64 most,x.val] w (RetB true w):=by
 obtain ⟨W0,hW0⟩:∃ W0:World,W0 = w.alloc (.cells #[.bool x.neg,.slice x.A x.N.length x.c,.slice x.B x.D.length x.d] 28):=⟨_,rfl⟩
 have HB0:Hid (Below w.heap.size w W0):=zH (by rw [hW0];exact (Below.refl _ _).alloc (Nat.le_refl _) _)
 have HX0:Hid (Fb W0 w.heap.size x):=zH (by rw [hW0];exact Fb.new w x)
 have HA0:=zH (hA.below HB0.out)
 obtain ⟨q,hq⟩:∃ q,q = fq x.neg (vl x.N).toNat (vl x.D).toNat:=⟨_,rfl⟩
 have HV0:Hid (Fv W0 x q):=zH ⟨(hx.below HB0.out).n,(hx.below HB0.out).d,hq.symm⟩
 have HGL:Hid ((gvs G).length = G.length):=zH (by simp)
 have HLEN:=zH hlen
 have HNIL:=zH hnil
 clear hA hx hq hlen hnil
 obtain ⟨ok,hok⟩:∃ ok,ok = aptOk (gvs G) most (qsgn q) x.N.length x.D.length:=⟨_,rfl⟩
 go_enter Tryz.func6,Tryz.ntmps6
 go_upto_region 1 with fail
 rw [<- hW0]
 clear hW0
 go_cut [5,6,48] from 15 to 49 (fun t5 t6 t48 wx=>t5 = .pointer (some ⟨w.heap.size,0,none⟩) /\ t6 = .bool false /\ t48 = .bool (!ok) /\ Hid (Below W0.heap.size W0 wx))
 case first=>
  have CF:=zH (few10_any A c 7 G W0 HA0.out hn (by decide) HLEN _ (zH rfl))
  cases hf:fewG 7 (gvs G) with
  | false=>
   rw [hf] at CF
   have hz:ok = false:=by rw [hok];unfold aptOk;rw [hf];rfl
   subst hz
   clear hok hf
   go_wp2_with fail
   refine CF.out.mono ?_
   rintro e w' ⟨rfl,rfl⟩
   clear CF
   go_wp2_with fail
   go_meet
   exact ⟨rfl,rfl,rfl,zH (Below.refl _ _)⟩
  | true=>
   rw [hf] at CF
   by_cases h7:G.length <= 7
   ·have H8:Hid (∀ g ∈ G,g.2.2.length <= 10000):=zH (fun g hg=>by
     have h2:few2 (vsOf g.2.2) = true:=by
      unfold fewG at hf;rw [Bool.and_eq_true] at hf;exact List.all_eq_true.1 hf.2 _ (List.mem_map_of_mem hg)
     have:=few2_l8 h2
     simp at this
     omega)
    obtain ⟨r,hr⟩:∃ r,r = grpR (gvs G):=⟨_,rfl⟩
    have C3:=zH (rGroups_any A c G W0 HA0.out (by omega) H8 HNIL r (zH hr.symm))
    by_cases h0:r = 0
    ·by_cases h1 : 1 <= most
     ·obtain ⟨sg,hsg⟩:∃ sg,sg = qsgn q:=⟨_,rfl⟩
      have CS:=zH (fun u (hu:Below W0.heap.size W0 u)=>rqSignG_any x q u (HV0.out.below hu) hxN sg (zH hsg.symm))
      have HOK:Hid (ok = (decide (0 <= sg) && (decide (x.N.length <= 4) && decide (x.D.length <= 4)))):=zH (by
       rw [hok];unfold aptOk;rw [hf,<- hr,h0,<- hsg,HGL.out,decide_eq_true h7,decide_eq_true h1];rfl)
      have HXC:=zH (fun u (hu:Below W0.heap.size W0 u)=>(HX0.out.below hu).facts)
      subst h0
      have hm1:¬ most < 1:=by omega
      clear hf hr hsg hok H8
      by_cases h2 : 0 <= sg
      ·have hs1:¬ sg < 0:=by omega
       rw [decide_eq_true h2,Bool.true_and] at HOK
       by_cases h3:x.N.length <= 4
       ·have hs2:¬ 4 < x.N.length:=by omega
        rw [decide_eq_true h3,Bool.true_and] at HOK
        by_cases h4:x.D.length <= 4
        ·have hs3:¬ 4 < x.D.length:=by omega
         rw [decide_eq_true h4] at HOK
         obtain rfl:=HOK.out
         go_wp2_with fail
         refine CF.out.mono ?_
         rintro e w' ⟨rfl,rfl⟩
         go_wp2_with fail
         refine C3.out.mono ?_
         rintro e w1 ⟨rfl,hb1⟩
         obtain ⟨x0,x1,x2,-,-,-⟩:=HXC.out w1 hb1
         go_wp2_with fail
         refine (CS.out w1 hb1).mono ?_
         rintro e w2 ⟨rfl,hb2⟩
         have hb3:=hb1.trans (hb2.mono hb1.size)
         obtain ⟨y0,y1,y2,-,-,-⟩:=HXC.out w2 hb3
         go_wp2_with fail
         go_meet
         exact ⟨rfl,rfl,by simp <;> omega,zH hb3⟩
        ·rw [decide_eq_false h4] at HOK
         obtain rfl:=HOK.out
         go_wp2_with fail
         refine CF.out.mono ?_
         rintro e w' ⟨rfl,rfl⟩
         go_wp2_with fail
         refine C3.out.mono ?_
         rintro e w1 ⟨rfl,hb1⟩
         obtain ⟨x0,x1,x2,-,-,-⟩:=HXC.out w1 hb1
         go_wp2_with fail
         refine (CS.out w1 hb1).mono ?_
         rintro e w2 ⟨rfl,hb2⟩
         have hb3:=hb1.trans (hb2.mono hb1.size)
         obtain ⟨y0,y1,y2,-,-,-⟩:=HXC.out w2 hb3
         go_wp2_with fail
         go_meet
         exact ⟨rfl,rfl,by simp <;> omega,zH hb3⟩
       ·have hs2 : 4 < x.N.length:=by omega
        rw [decide_eq_false h3,Bool.false_and] at HOK
        obtain rfl:=HOK.out
        go_wp2_with fail
        refine CF.out.mono ?_
        rintro e w' ⟨rfl,rfl⟩
        go_wp2_with fail
        refine C3.out.mono ?_
        rintro e w1 ⟨rfl,hb1⟩
        obtain ⟨x0,x1,x2,-,-,-⟩:=HXC.out w1 hb1
        go_wp2_with fail
        refine (CS.out w1 hb1).mono ?_
        rintro e w2 ⟨rfl,hb2⟩
        have hb3:=hb1.trans (hb2.mono hb1.size)
        obtain ⟨y0,y1,y2,-,-,-⟩:=HXC.out w2 hb3
        go_wp2_with fail
        go_meet
        exact ⟨rfl,rfl,by simp <;> omega,zH hb3⟩
      ·have hs1:sg < 0:=by omega
       rw [decide_eq_false h2,Bool.false_and] at HOK
       obtain rfl:=HOK.out
       go_wp2_with fail
       refine CF.out.mono ?_
       rintro e w' ⟨rfl,rfl⟩
       go_wp2_with fail
       refine C3.out.mono ?_
       rintro e w1 ⟨rfl,hb1⟩
       obtain ⟨x0,x1,x2,-,-,-⟩:=HXC.out w1 hb1
       go_wp2_with fail
       refine (CS.out w1 hb1).mono ?_
       rintro e w2 ⟨rfl,hb2⟩
       have hb3:=hb1.trans (hb2.mono hb1.size)
       go_wp2_with fail
       go_meet
       exact ⟨rfl,rfl,by simp <;> omega,zH hb3⟩
     ·have hm1:most < 1:=by omega
      have hz:ok = false:=by rw [hok];unfold aptOk;rw [decide_eq_false h1];simp
      subst hz
      subst h0
      clear hok hf hr H8
      go_wp2_with fail
      refine CF.out.mono ?_
      rintro e w' ⟨rfl,rfl⟩
      go_wp2_with fail
      refine C3.out.mono ?_
      rintro e w1 ⟨rfl,hb1⟩
      go_wp2_with fail
      go_meet
      exact ⟨rfl,rfl,by simp <;> omega,zH hb1⟩
    ·have hz:ok = false:=by rw [hok];unfold aptOk;rw [<- hr,show (r == 0) = false by simpa using h0];simp
     subst hz
     have q0:(r != 0) = true:=by simpa using h0
     clear hok hf hr H8 h0
     go_wp2_with fail
     refine CF.out.mono ?_
     rintro e w' ⟨rfl,rfl⟩
     go_wp2_with fail
     refine C3.out.mono ?_
     rintro e w1 ⟨rfl,hb1⟩
     go_wp2_with fail
     go_meet
     exact ⟨rfl,rfl,by simp <;> omega,zH hb1⟩
   ·have hz:ok = false:=by rw [hok];unfold aptOk;rw [HGL.out,decide_eq_false h7];simp
    subst hz
    have h8 : 7 < G.length:=by omega
    clear hok hf
    go_wp2_with fail
    refine CF.out.mono ?_
    rintro e w' ⟨rfl,rfl⟩
    go_wp2_with fail
    go_meet
    exact ⟨rfl,rfl,by simp <;> omega,zH (Below.refl _ _)⟩
 case rest=>
  obtain ⟨rfl,rfl,rfl,HBc⟩:=hcut
  have HWc:=zH (HB0.out.trans (HBc.out.mono HB0.out.size))
  cases ok with
  | false=>
   clear hok
   go_wp2_with fail
   refine (known10_any wc).mono ?_
   rintro e w2 ⟨rfl,hb2⟩
   go_wp2_with fail
   go_ret
   exact ⟨rfl,HWc.out.trans (hb2.mono HWc.out.size)⟩
  | true=>
   have hk:=hok.symm
   unfold aptOk at hk
   simp only [Bool.and_eq_true,decide_eq_true_eq,beq_iff_eq] at hk
   obtain ⟨k1,k2,k3,k4,k5,k6,k7⟩:=hk
   rw [HGL.out] at k2
   have H8:Hid (∀ g ∈ G,g.2.2.length <= 8):=zH (fun g hg=>by
    have h2:few2 (vsOf g.2.2) = true:=by
     unfold fewG at k1;rw [Bool.and_eq_true] at k1;exact List.all_eq_true.1 k1.2 _ (List.mem_map_of_mem hg)
    have:=few2_l8 h2
    simpa using this)
   have HXc:=zH (HX0.out.below HBc.out)
   have HAc:=zH (HA0.out.below HBc.out)
   have HVc:=zH (HV0.out.below HBc.out)
   have HFX:Hid (Few x 90000):=zH ⟨Nat.le_trans k6 (by decide),Nat.le_trans k7 (by decide)⟩
   have CC:=zH (Cluster_ok A c G most x q wc HAc.out (zH k3) k4 HVc.out HFX.out (by omega))
   have hgl:=HGL.out
   have HCA:CluA (gvs G) (clu most q G.length (startS (gvs G))):=CluA.clu _ _ (CluA.start _)
   have P1:Hid (∀ i,i < G.length -> 0 <= (outS (clu most q G.length (startS (gvs G))) G.length)[i]?.getD 0 /\ (outS (clu most q G.length (startS (gvs G))) G.length)[i]?.getD 0 <= ((jn (outS (clu most q G.length (startS (gvs G))) G.length) (gvs G) i).length:Int)):=zH (fun i hi=>by
    have h:=jn_label HCA (i:=i) (by rw [hgl];exact hi)
    rw [hgl] at h
    exact h)
   have hap:=apart (gs:=gvs G) (most:=most) (lim:=q) k3 k4
   rw [hgl] at hap
   have P2:=zH hap.1
   have P3:=zH hap.2
   have HOL:Hid ((outS (clu most q G.length (startS (gvs G))) G.length).length = G.length):=zH (outK_length _ _ _)
   clear hok k1 k3 k5 HCA hap hgl HBc HA0 HX0 HV0
   generalize outS (clu most q G.length (startS (gvs G))) G.length = out at *
   obtain ⟨x0,x1,x2,-,-,-⟩:=HXc.out.facts
   go_wp2_with fail
   refine CC.out.mono ?_
   rintro e w2 ⟨OA,oc,rfl,ho2,hb2⟩
   have HO2:Hid (Lies w2 OA (ics out)):=zH (Lies.of_own ho2)
   have HX2:=zH (HXc.out.below hb2)
   have HA2:=zH (HAc.out.below hb2)
   have HV2:=zH (HVc.out.below hb2)
   have HW2:=zH (HWc.out.trans (hb2.mono HWc.out.size))
   clear ho2 hb2 HXc HAc HVc HWc CC x0 x1 x2
   obtain ⟨l0,gi0,gz0,gz1,gz2⟩:=info_parts info_ints
   have LI:=zH gi0;have LZ0:=zH gz0;have LZ1:=zH gz1;have LZ2:=zH gz2
   clear gi0 gz0 gz1 gz2
   obtain ⟨i0,hi0,hz0,hz1,hz2⟩:=info_parts info_grps
   have TI:=zH hi0;have TZ0:=zH hz0;have TZ1:=zH hz1;have TZ2:=zH hz2
   clear hi0 hz0 hz1 hz2
   rw [HOL.out]
   have hg60:G.length <= 7:=k2
   go_wp2_with fail
   go_loopw [9,10] (fun v i wr=>∃ k:Nat,k <= G.length /\ i = .int .i64 k /\ ∃ JA Jc,∃ Js:List Grp,v = .slice JA Js.length Jc /\ Hid (JG w2 wr w2.heap.size JA Jc Js) /\ Hid (gvs Js = jn out (gvs G) k) /\ Hid (Below w2.heap.size w2 wr)) (fun _ i _=>G.length - (intOf i).toNat)
   case atStart=>exact ⟨0,by omega,rfl,none,0,[],rfl,zH (JG.nil _ _ _),zH rfl,zH (Below.refl _ _)⟩
   case round=>
    obtain ⟨k,hk,rfl,JA,Jc,Js,rfl,HJ,HG,HB⟩:=hrel
    by_cases hlt:k < G.length
    ·have hb0:=P1.out k hlt
     have HJL:Hid ((jn out (gvs G) k).length = Js.length):=zH (by rw [<- HG.out];simp)
     rw [HJL.out] at hb0
     have HNX:Hid (jn out (gvs G) (k + 1) = jStep (gvs Js) (out[k]?.getD 0).toNat ((gvs G)[k]?.getD [])):=zH (by rw [HG.out];rfl)
     obtain ⟨bo,oo,rfl,hbo,hco⟩:=(HO2.out.below HB.out).at_ (k:=k) (by rw [HOL.out];exact hlt)
     obtain ⟨ln,hln⟩:∃ ln:Nat,out[k]?.getD 0 = (ln:Int):=⟨(out[k]?.getD 0).toNat,by omega⟩
     rw [hln,Int.toNat_natCast] at HNX
     rw [hln] at hco hb0
     have hl2:ln <= Js.length:=by omega
     have HJK:Hid (Js.length <= k):=zH (by rw [<- HJL.out];exact jn_le _ _ _)
     have hjk:=HJK.out
     have HLN0:=zH hln
     clear hb0 hln
     go_upto_if 92 with fail
     go_cut [9] from 66 to 114 (fun t9 wx=>∃ JA2 Jc2,∃ Js2:List Grp,t9 = .slice JA2 Js2.length Jc2 /\ Hid (JG w2 wx w2.heap.size JA2 Jc2 Js2) /\ Hid (gvs Js2 = jExt (gvs Js) ln) /\ ln < Js2.length /\ Js2.length <= k + 1 /\ Hid (Below w2.heap.size w2 wx))
     case first=>
      by_cases hE:ln = Js.length
      ·subst hE
       go_wp2_with (at_builtin;refine wpList_append_srcG _ rfl (.tmp 93) (.tmp 94) _ rfl w2.heap.size 22 i0 _ 1 24 Tryz.underlying24 TI.out TZ0.out TZ1.out TZ2.out rfl (by omega) (.slice JA Js.length Jc) Js.length (gcs Js) rfl (HJ.out.row.alloc _) (some ⟨wr.heap.size,0,none⟩) 1 1 [Value.slice none 0 0] rfl (fun e=>by cases e) (lies_new _ _ _) (by simp) (by simp [Value.oneCell']) (by unfold maxLen;omega) (by omega) (by have:=HB.out.size;simp;omega) (Js.length + 1) rfl ?_;intro A4 c4 w4 ho4 hg4 _)
       have hba:Below wr.heap.size wr (wr.alloc (.cells #[Value.slice none 0 0] 22)):=(Below.refl _ _).alloc (Nat.le_refl _) _
       have hsn:=(HJ.out.below hba).snoc hg4 ho4
       have hbw:Below w2.heap.size w2 w4:=((HB.out.trans (hba.mono HB.out.size))).grown hg4 (by have:=HB.out.size;simp;omega) (fun k hk=>((HJ.out.below hba).row.lt k hk).1)
       go_meet
       exact ⟨A4,c4,Js ++ [(none,0,[])],by simp,zH hsn,zH (by unfold jExt;rw [if_pos (by simp)];simp),by simp,by simp;omega,zH hbw⟩
      ·have q1:((ln:Int) == (Js.length:Int)) = false:=by rw [beq_eq_false_iff_ne];omega
       go_wp2_with fail
       go_meet
       exact ⟨JA,Jc,Js,rfl,HJ,zH (by unfold jExt;rw [if_neg (by simpa using hE)]),by omega,by omega,HB⟩
     case rest=>
      obtain ⟨JA2,Jc2,Js2,rfl,HJ2,HG2,hln,hj8,HBB⟩:=hcut
      clear HJ HB HJL hl2 hjk HJK
      have hkG:k < G.length:=hlt
      obtain ⟨g9,rfl,hg9,hg9b⟩:∃ g,JA2 = some ⟨g,0,none⟩ /\ g < wc.heap.size /\ w2.heap.size <= g:=by
       rcases HJ2.out.row.2 with ⟨e,e2⟩ | ⟨g,cap,cur,e,hb,hgg,_⟩
       ·exfalso;injection e with _ e3 _;omega
       ·injection e with e1 _ _
        exact ⟨g,e1,(Array.getElem?_eq_some_iff.1 hgg).1,hb⟩
      obtain ⟨bk,off,rfl,hbk,hcg⟩:=(HA2.out.below HBB.out).lies.gat hkG
      have hce:=HJ2.out.row.cellAt ln (by omega)
      rw [show (gcs Js2)[ln]? = some (.slice Js2[ln].1 Js2[ln].2.2.length Js2[ln].2.1) by simp [List.getElem?_eq_getElem hln]] at hce
      have HFZ:=zH (HJ2.out.row.frozenAt ln)
      obtain ⟨bo2,oo2,e2,hbo2,hco2⟩:=(HO2.out.below HBB.out).at_ (k:=k) (by rw [HOL.out];exact hkG)
      cases e2
      rw [HLN0.out] at hco2
      have HXE:=zH (HJ2.out.ent _ (List.getElem_mem hln))
      have HXL:Hid (Lies wc Js2[ln].1 (lcs Js2[ln].2.2)):=zH (Lies.of_own HXE.out)
      have HXN:Hid (Js2[ln].1 = none -> Js2[ln].2.1 = 0):=zH (own_nilC HXE.out)
      have HXV:=zH (HJ2.out.vec _ (List.getElem_mem hln))
      have HYL:=zH (((HA2.out.below HBB.out).grp _ (List.getElem_mem hkG)).lies)
      have HYN:=zH (HNIL.out _ (List.getElem_mem hkG))
      have HYV:=zH ((HA2.out.grp _ (List.getElem_mem hkG)).inn)
      have h8y:=H8.out _ (List.getElem_mem hkG)
      have h8x:Js2[ln].2.2.length <= 56:=by
       have h:=jExt_ent (k:=ln) (l:=ln) (b:=8 * k) (fun j=>jn_ent (out:=out) (gs:=gvs G) (fun g hg=>by obtain ⟨y,hy,rfl⟩:=List.mem_map.1 hg;simpa using H8.out y hy) k j)
       rw [<- HG.out,<- HG2.out] at h
       simp [List.getElem?_eq_getElem hln] at h
       omega
      have HXG:Hid ((gvs Js2)[ln]?.getD [] = vsOf Js2[ln].2.2):=zH (by simp [List.getElem?_eq_getElem hln])
      have HYG:Hid ((gvs G)[k]?.getD [] = vsOf G[k].2.2):=zH (by simp [List.getElem?_eq_getElem hkG])
      have HCL:Hid (∀ u,Below wc.heap.size wc u -> u.cell? ⟨bo,oo + k,none⟩ = some (.int .i64 (ln:Int)) /\ u.cell? ⟨g9,ln,none⟩ = some (.slice Js2[ln].1 Js2[ln].2.2.length Js2[ln].2.1) /\ u.cell? ⟨bk,off + k,none⟩ = some (.slice G[k].1 G[k].2.2.length G[k].2.1)):=zH (fun u hu=>
       ⟨(hu.cell (p:=⟨bo,oo + k,none⟩) hbo2).trans hco2,(hu.cell (p:=⟨g9,ln,none⟩) hg9).trans hce,(hu.cell (p:=⟨bk,off + k,none⟩) hbk).trans hcg⟩)
      generalize hXe:Js2[ln] = X at *
      generalize hYe:G[k] = Y at *
      clear hXe hYe hco2 hce hcg
      go_upto_region 14 with fail
      refine wp_region_pop (S:=fun w'=>w'.cell? ⟨bo,oo + k,none⟩ = some (.int .i64 (ln:Int)) /\ w'.cell? ⟨g9,ln,none⟩ = some (.slice X.1 X.2.2.length X.2.1) /\ w'.cell? ⟨bk,off + k,none⟩ = some (.slice Y.1 Y.2.2.length Y.2.1)) 19 (by kernel_rfl) (by kernel_rfl) (HCL.out _ (Below.refl _ _).drew) (fun hHeld=>?_)
      simp only [List.pop_toArray,List.dropLast_cons_cons,List.dropLast_singleton]
      iterate 12 (((refine wpAnyH_takeN (v:=?_) rfl (by kernel_rfl) (fun _ _ _ h=>h) ⟨by rfl,?_⟩ hHeld ?_;rotate_left;· intro w' hSw;obtain ⟨hS1,hS2,hS3⟩:=hSw;go_simp;try with_reducible rfl);simp only [List.setIfInBounds_toArray,List.set_cons_zero,List.set_cons_succ]))
      refine wpAnyH_takeD (i:=13) 109 (v:=?_) rfl rfl (by kernel_rfl) (by kernel_rfl) (by kernel_rfl) (fun _ _ _ h=>h) ⟨by rfl,?_⟩ hHeld ?_
      rotate_left
      ·intro w' hSw;obtain ⟨hS1,hS2,hS3⟩:=hSw;go_simp;try with_reducible rfl
      simp only [List.setIfInBounds_toArray,List.set_cons_zero,List.set_cons_succ]
      refine wpAnyH_takeD (i:=14) 110 (v:=?_) rfl rfl (by kernel_rfl) (by kernel_rfl) (by kernel_rfl) (fun _ _ _ h=>h) ⟨by rfl,?_⟩ hHeld ?_
      rotate_left
      ·intro w' hSw;obtain ⟨hS1,hS2,hS3⟩:=hSw;go_simp;try with_reducible rfl
      simp only [List.setIfInBounds_toArray,List.set_cons_zero,List.set_cons_succ]
      refine wpAnyH_takeD (i:=15) 111 (v:=?_) rfl rfl (by kernel_rfl) (by kernel_rfl) (by kernel_rfl) (fun _ _ _ h=>h) ⟨by rfl,?_⟩ hHeld ?_
      rotate_left
      ·intro w' hSw;obtain ⟨hS1,hS2,hS3⟩:=hSw;go_simp;try with_reducible rfl
      simp only [List.setIfInBounds_toArray,List.set_cons_zero,List.set_cons_succ]
      refine wpAnyH_takeD (i:=16) 112 (v:=?_) rfl rfl (by kernel_rfl) (by kernel_rfl) (by kernel_rfl) (fun _ _ _ h=>h) ⟨by rfl,?_⟩ hHeld ?_
      rotate_left
      ·intro w' hSw;obtain ⟨hS1,hS2,hS3⟩:=hSw;go_simp;try with_reducible rfl
      simp only [List.setIfInBounds_toArray,List.set_cons_zero,List.set_cons_succ]
      refine wpAnyH_oneD 12 rfl (by kernel_rfl) rfl (fun K hK=>?_)
      refine wp_append_srcD _ 108 rfl (.const (.slice none 0 0)) (.tmp 107) 22 rfl wc.heap.size 40 l0 _ 1 24 Tryz.underlying22 LI.out LZ0.out LZ1.out LZ2.out rfl (by omega) (.slice none 0 0) 0 [] rfl (World.ownsRow_nil _ _ _ _) X.1 X.2.2.length X.2.1 (lcs X.2.2) rfl HXN.out (HXL.out.below (Below.refl _ _).drew) (by simp) (lcs_one _) (by unfold maxLen;omega) (by omega) (Nat.le_refl _) X.2.2.length (by omega) ?_
      intro A5 c5 w5 ho5 hg5 _
      have HB5:Hid (Below wc.heap.size wc w5):=zH ((Below.refl _ _).drew.trans (grown_none hg5))
      have HO5:Hid (w5.ownsRow wc.heap.size 40 1 (.slice A5 X.2.2.length c5) X.2.2.length (lcs X.2.2)):=zH (by simpa using ho5)
      clear ho5 hg5
      refine hK.out _ _ (HCL.out w5 HB5.out) (fun hHeld=>?_)
      clear hK K
      simp only [List.setIfInBounds_toArray,List.set_cons_zero,List.set_cons_succ]
      refine wpAnyH_oneD 17 rfl (by kernel_rfl) rfl (fun K hK=>?_)
      refine wp_append_srcD _ 113 rfl (.tmp 108) (.tmp 112) 22 rfl wc.heap.size 40 l0 _ 1 24 Tryz.underlying22 LI.out LZ0.out LZ1.out LZ2.out rfl (by omega) (.slice A5 X.2.2.length c5) X.2.2.length (lcs X.2.2) rfl HO5.out Y.1 Y.2.2.length Y.2.1 (lcs Y.2.2) rfl HYN.out (HYL.out.below HB5.out) (by simp) (lcs_one _) (by unfold maxLen;omega) (by omega) HB5.out.size (X.2.2.length + Y.2.2.length) rfl ?_
      intro A6 c6 w6 ho6 hg6 _
      have HB6:Hid (Below wc.heap.size wc w6):=zH (HB5.out.grown hg6 HB5.out.size (fun k hk=>(HO5.out.lt k hk).1))
      have HO6:Hid (w6.ownsRow wc.heap.size 40 1 (.slice A6 (X.2.2.length + Y.2.2.length) c6) (X.2.2.length + Y.2.2.length) (lcs (X.2.2 ++ Y.2.2))):=zH (by rw [lcs,List.map_append];exact ho6)
      clear ho6 hg6
      refine hK.out _ _ (HCL.out w6 HB6.out) (fun hHeld=>?_)
      clear hK K
      simp only [List.setIfInBounds_toArray,List.set_cons_zero,List.set_cons_succ]
      ((refine wpAnyH_takeN (v:=?_) rfl (by kernel_rfl) (fun _ _ _ h=>h) ⟨by rfl,?_⟩ hHeld ?_;rotate_left;· intro w' hSw;obtain ⟨hS1,hS2,hS3⟩:=hSw;go_simp;try with_reducible rfl);simp only [List.setIfInBounds_toArray,List.set_cons_zero,List.set_cons_succ])
      have hfz:w6.frozen? ⟨g9,ln,none⟩ = false:=(HB6.out.frozen (p:=⟨g9,ln,none⟩) hg9).trans HFZ.out
      have hcz:=(HCL.out w6 HB6.out).2.1
      refine wpAnyH_done (by kernel_rfl) ?_ _
      refine PopQ.last rfl rfl (fun K hK=>?_)
      go_simp
      refine hK _ _ ?_
      clear hK K
      have hput:=(HJ2.out.below HB6.out).put (k:=ln) (A1:=A6) (c1:=c6) (m:=X.2.2 ++ Y.2.2) (by rw [List.length_append];exact ownsRow_le HO6.out HBB.out.size) (fun z hz=>by rcases List.mem_append.1 hz with h | h;exact HXV.out z h;exact HYV.out z h)
      rw [List.length_append] at hput
      have hbel:=(HBB.out.trans (HB6.out.mono HBB.out.size)).setCell (p:=⟨g9,ln,none⟩) hg9b (.slice A6 (X.2.2.length + Y.2.2.length) c6)
      have hgv:gvs (Js2.set ln (A6,c6,X.2.2 ++ Y.2.2)) = jn out (gvs G) (k + 1):=by
       rw [HNX.out,HYG.out]
       show _ = (jExt (gvs Js) ln).set ln (((jExt (gvs Js) ln)[ln]?.getD []) ++ vsOf Y.2.2)
       rw [<- HG2.out,HXG.out]
       simp [gvs,vsOf,List.map_set]
      have HPUT:=zH hput
      have HBEL:=zH hbel
      have HGV:=zH hgv
      clear hput hbel hgv hfz hcz HB5 HO5 HB6 HO6 HJ2 HCL HFZ
      go_wp2_with fail
      exact ⟨⟨k + 1,by omega,by go_num,_,_,Js2.set ln (A6,c6,X.2.2 ++ Y.2.2),by rw [List.length_set],HPUT,HGV,HBEL⟩,by simp [intOf];omega⟩
    ·obtain rfl:k = G.length:=by omega
     have P2':=P2.out
     have P3':=P3.out
     rw [<- HG.out] at P2' P3'
     have hgl:(gvs Js).length = Js.length:=by simp
     rw [hgl] at P2' P3'
     have hjm:¬ most < (Js.length:Int):=by omega
     have PQ:Hid (∀ (b a:Nat) (hb:b < Js.length) (ha:a < Js.length),b < a -> grpR [vsOf Js[b].2.2,vsOf Js[a].2.2] = 0 /\ q < gapQ (vsOf Js[b].2.2) (vsOf Js[a].2.2)):=zH (fun b a hb ha hab=>by
      have h:=P3' b a hab ha
      simpa [List.getElem?_eq_getElem hb,List.getElem?_eq_getElem ha] using h)
     have hJ7:Js.length <= 7:=by have h:=jn_le out (gvs G) G.length;rw [<- HG.out,hgl] at h;omega
     have HX3:=zH (HX2.out.below HB.out)
     have HV3:=zH (HV2.out.below HB.out)
     have HW3:=zH (HW2.out.trans (HB.out.mono HW2.out.size))
     have HBw:=HB
     obtain ⟨W5,hW5⟩:∃ x,x = wr:=⟨_,rfl⟩
     rw [<- hW5] at HJ HX3 HV3 HW3 HBw ⊢
     have hw5:=HBw.out.size
     clear hW5 hgl P2' P3' P2 P3 P1 HG HB HX2 HV2 HA2 HO2 HW2 HOL HGL H8 HNIL HLEN hlt
     go_wp2_with fail
     go_loopw [11,12,13,14] (fun i _ _ _ wr=>∃ a:Nat,a <= Js.length /\ i = .int .i64 a /\ Hid (Below W5.heap.size W5 wr)) (fun i _ _ _ _=>Js.length - (intOf i).toNat)
     case atStart=>exact ⟨0,by omega,rfl,zH (Below.refl _ _)⟩
     case round=>
      obtain ⟨a,ha,rfl,HBa⟩:=hrel
      by_cases hla:a < Js.length
      ·go_wp2_with fail
       go_loopw [12,13,14] (fun i _ _ wr=>∃ b:Nat,b <= a /\ i = .int .i64 b /\ Hid (Below W5.heap.size W5 wr)) (fun i _ _ _=>a - (intOf i).toNat)
       case atStart=>exact ⟨0,by omega,rfl,HBa⟩
       case round=>
        obtain ⟨b,hb,rfl,HBb⟩:=hrel
        by_cases hlb:b < a
        ·have hbJ:b < Js.length:=by omega
         obtain ⟨hG0,hGq⟩:=PQ.out b a hbJ hla hlb
         obtain ⟨g1,g2,g3,g4,-,-,-⟩:=grp_two hG0
         have SG:=zH (gapQ_sz3 hG0)
         obtain ⟨g9,rfl,hg9⟩:∃ g,JA = some ⟨g,0,none⟩ /\ g < W5.heap.size:=by
          rcases HJ.out.row.2 with ⟨e,e2⟩ | ⟨g,cap,cur,e,hb,hgg,_⟩
          ·exfalso;injection e with _ e3 _;omega
          ·injection e with e1 _ _
           exact ⟨g,e1,(Array.getElem?_eq_some_iff.1 hgg).1⟩
         have hcb:=HJ.out.row.cellAt b (by omega)
         rw [show (gcs Js)[b]? = some (.slice Js[b].1 Js[b].2.2.length Js[b].2.1) by simp [List.getElem?_eq_getElem hbJ]] at hcb
         have hca:=HJ.out.row.cellAt a (by omega)
         rw [show (gcs Js)[a]? = some (.slice Js[a].1 Js[a].2.2.length Js[a].2.1) by simp [List.getElem?_eq_getElem hla]] at hca
         have HXC:=zH (HX3.out.below HBb.out)
         have HCL:Hid (∀ u,Below wr.heap.size wr u -> u.cell? ⟨g9,b,none⟩ = some (.slice Js[b].1 Js[b].2.2.length Js[b].2.1) /\ u.cell? ⟨g9,a,none⟩ = some (.slice Js[a].1 Js[a].2.2.length Js[a].2.1)):=zH (fun u hu=>
          ⟨((HBb.out.trans (hu.mono HBb.out.size)).cell (p:=⟨g9,b,none⟩) hg9).trans hcb,((HBb.out.trans (hu.mono HBb.out.size)).cell (p:=⟨g9,a,none⟩) hg9).trans hca⟩)
         have hLb:=zH ((HJ.out.below HBb.out).ll (HBw.out.trans (HBb.out.mono HBw.out.size)) (List.getElem_mem hbJ))
         have hLa:=zH ((HJ.out.below HBb.out).ll (HBw.out.trans (HBb.out.mono HBw.out.size)) (List.getElem_mem hla))
         have HG0:=zH hG0
         have HGQ:=zH hGq
         have n1:Js[b].2.2.length <= 10000:=by simpa using g3
         have n2:Js[a].2.2.length <= 10000:=by simpa using g4
         clear hcb hca hG0 hGq g1 g2 g3 g4
         generalize Js[b] = X at *
         generalize Js[a] = Y at *
         go_upto_region 23 with fail
         go_cut [13,14] from 125 to 149 (fun t13 t14 wx=>∃ kb,∃ x9:Fr,t13 = .pointer (some ⟨kb,0,none⟩) /\ t14 = .int .i64 0 /\ Hid (Fb wx kb x9) /\ Hid (Fq wx x9 (gapE 0 (vsOf X.2.2) (vsOf Y.2.2))) /\ Hid (Below wr.heap.size wr wx))
         case first=>
          have HS0:=zH (HCL.out wr.drew (Below.refl _ _).drew)
          have HSA:=zH (HCL.out (wr.drew.alloc (.cells #[.bool false,.slice none 0 0,.slice none 0 0] 28)) ((Below.refl _ _).drew.alloc (Nat.le_refl _) _))
          go_region_held3 (fun w'=>w'.cell? ⟨g9,b,none⟩ = some (.slice X.1 X.2.2.length X.2.1) /\ w'.cell? ⟨g9,a,none⟩ = some (.slice Y.1 Y.2.2.length Y.2.1))
           (first | exact HS0.out | exact HSA.out | exact HSC.out | exact HSD.out | exact HSE.out)
           (first
            | (refine (tGap_any X.1 Y.1 X.2.1 Y.2.1 X.2.2 Y.2.2 wr.drew (hLb.out.below (Below.refl _ _).drew) (hLa.out.below (Below.refl _ _).drew) n1 n2 0 HG0).mono ?_;rintro e w7 ⟨x9,rfl,hx9,hb7,-⟩;have HB7:Hid (Below wr.heap.size wr w7):=zH (below_undrew hb7);have HX9:=zH hx9;have HSC:=zH (HCL.out w7 HB7.out);have HSD:=zH (HCL.out (w7.alloc (.cells #[.bool false,.slice none 0 0,.slice none 0 0] 28)) (HB7.out.alloc HB7.out.size _));have HSE:=zH (HCL.out (w7.alloc (.cells #[.bool x9.neg,.slice x9.A x9.N.length x9.c,.slice x9.B x9.D.length x9.d] 28)) (HB7.out.alloc HB7.out.size _));clear hx9 hb7)
            | (refine (tGap_any X.1 Y.1 X.2.1 Y.2.1 X.2.2 Y.2.2 (wr.drew.alloc (.cells #[.bool false,.slice none 0 0,.slice none 0 0] 28)) (hLb.out.below ((Below.refl _ _).drew.alloc (Nat.le_refl _) _)) (hLa.out.below ((Below.refl _ _).drew.alloc (Nat.le_refl _) _)) n1 n2 0 HG0).mono ?_;rintro e w7 ⟨x9,rfl,hx9,hb7,-⟩;have HX9:=zH hx9;have HB7:Hid (Below wr.heap.size wr w7):=zH (((Below.refl _ _).drew.alloc (Nat.le_refl _) _).trans (hb7.mono (by simp)));have HSC:=zH (HCL.out w7 HB7.out);have HZ7:Hid (Fb w7 wr.heap.size zeroFr):=zH ((Fb.new wr.drew zeroFr).below hb7);obtain ⟨z0,z1,z2,z3,z4,z5⟩:=HZ7.out.facts;have HSE:=zH (HCL.out (((w7.setCell ⟨wr.heap.size,0,none⟩ (.bool x9.neg)).setCell ⟨wr.heap.size,1,none⟩ (.slice x9.A x9.N.length x9.c)).setCell ⟨wr.heap.size,2,none⟩ (.slice x9.B x9.D.length x9.d)) (((HB7.out.setCell (p:=⟨wr.heap.size,0,none⟩) (Nat.le_refl _) _).setCell (p:=⟨wr.heap.size,1,none⟩) (Nat.le_refl _) _).setCell (p:=⟨wr.heap.size,2,none⟩) (Nat.le_refl _) _));clear hx9 hb7))
          ·go_wp2_with fail
           go_meet
           exact ⟨w7.heap.size,x9,rfl,rfl,zH (Fb.new w7 x9),zH (HX9.out.below ((Below.refl _ _).alloc (Nat.le_refl _) _)),zH (HB7.out.alloc HB7.out.size _)⟩
          ·go_wp2_with fail
           go_meet
           exact ⟨wr.heap.size,x9,rfl,rfl,zH HZ7.out.put,zH (HX9.out.rowed HZ7.out _ _ _),zH (((HB7.out.setCell (p:=⟨wr.heap.size,0,none⟩) (Nat.le_refl _) _).setCell (p:=⟨wr.heap.size,1,none⟩) (Nat.le_refl _) _).setCell (p:=⟨wr.heap.size,2,none⟩) (Nat.le_refl _) _)⟩
         case rest=>
          obtain ⟨kb,x9,rfl,rfl,HY8,HQ8,HB8⟩:=hcut
          obtain ⟨W8,rfl⟩:∃ x,x = wc:=⟨_,rfl⟩
          have HX8:=zH (HXC.out.below HB8.out)
          have HV8:=zH (HV3.out.below (HBb.out.trans (HB8.out.mono HBb.out.size)))
          have HBX:=zH (HBb.out.trans (HB8.out.mono HBb.out.size))
          obtain ⟨d0,d1,d2,-,-,-⟩:=HX8.out.facts
          obtain ⟨f0,f1,f2,-,-,-⟩:=HY8.out.facts
          have e9:gapE 0 (vsOf X.2.2) (vsOf Y.2.2) = gapQ (vsOf X.2.2) (vsOf Y.2.2):=rfl
          rw [e9] at HQ8
          obtain ⟨R,hR⟩:∃ R,qsgn (gapQ (vsOf X.2.2) (vsOf Y.2.2) + -q) = R:=⟨_,rfl⟩
          have hR0:¬ R <= 0:=by have:=(qsgn_gt _ _).2 HGQ.out;omega
          have CM:=zH (qCmp_any x9 x (gapQ (vsOf X.2.2) (vsOf Y.2.2)) q W8 HQ8.out.fv HV8.out (HQ8.out.few (SG.out.mono (by decide))) HFX.out R (zH hR))
          clear hR e9 HXC HB8 hLb hLa HCL
          go_wp2_with fail
          refine CM.out.mono ?_
          rintro e W9 ⟨rfl,hb9⟩
          have HB9:=zH (HBX.out.trans (hb9.mono HBX.out.size))
          clear hb9 CM d0 d1 d2 f0 f1 f2
          go_wp2_with fail
          exact ⟨⟨b + 1,by omega,by go_num,HB9⟩,by simp [intOf];omega⟩
        ·obtain rfl:b = a:=by omega
         go_wp2_with fail
         exact ⟨⟨b + 1,by omega,by go_num,HBb⟩,by simp [intOf];omega⟩
      ·have HWa:=zH (HW3.out.trans (HBa.out.mono HW3.out.size))
       go_wp2_with fail
       refine (known10_any wr).mono ?_
       rintro e w9 ⟨rfl,hb9⟩
       go_wp2_with fail
       go_ret
       exact ⟨rfl,HWa.out.trans (hb9.mono HWa.out.size)⟩
end Go.Proofs.YtcjicjfbippmnaaGreat
