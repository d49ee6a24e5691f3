/- a part of TalkSettles -/
import Derived.Test.YtcjicjfbippmnaaGreatMTSett49
import Derived.Test.YtcjicjfbippmnaaGreatMTSett50
set_option maxRecDepth 100000
set_option maxHeartbeats 32000000
namespace Ear
open Go.Proofs.YtcjicjfbippmnaaGreat
theorem SetI.congr {S:List PSl} {M M':Nat -> Prop} {i:Nat} {D:PDl} (h:SetI S M i D) (hm:∀ j,j < S.length -> (M j ↔ M' j)):SetI S M' i D:=
 ⟨h.hS,h.len,fun k f hf hM=>h.on k f hf ((hm k (by have:=(List.getElem?_eq_some_iff.1 hf).1;rw [h.len] at this;exact this)).2 hM),
  fun k f hf hM=>h.off k f hf (fun e=>hM ((hm k (by have:=(List.getElem?_eq_some_iff.1 hf).1;rw [h.len] at this;exact this)).1 e)),
  fun ⟨k,hk,hM⟩=>h.stand ⟨k,hk,fun e=>hM ((hm k hk).1 e)⟩,fun hall=>h.done fun k hk=>(hm k hk).2 (hall k hk),h.last⟩
def mrk (n:Nat) (back:Bool) (i:Nat) (j:Nat):Prop:=if back then n <= j + i else j < i
def slotAt (n:Nat) (back:Bool) (i:Nat):Nat:=if back then n - 1 - i else i
theorem mrk_next {n i j:Nat} {back:Bool} (hi:i < n):(mrk n back i j ∨ j = slotAt n back i) ↔ mrk n back (i + 1) j:=by
 unfold mrk slotAt
 cases back <;> simp <;> omega
theorem mrk_not {n i:Nat} {back:Bool} (hi:i < n):¬ mrk n back i (slotAt n back i):=by
 unfold mrk slotAt
 cases back <;> simp <;> omega
theorem slotAt_lt {n i:Nat} {back:Bool} (hi:i < n):slotAt n back i < n:=by
 unfold slotAt
 cases back <;> simp <;> omega
theorem mrk_all {n j:Nat} {back:Bool} (hj:j < n):mrk n back n j:=by
 unfold mrk
 cases back <;> simp <;> omega
end Ear
namespace Go.Proofs.YtcjicjfbippmnaaGreat
open Go.RowKit Ear

theorem row8 {t:TypeId} {w:World} {k:Nat} {u0 u1 u2 u3 u4 u5 u6 u7:Value} (h:w.heap[k]? = some (.cells #[u0,u1,u2,u3,u4,u5,u6,u7] t (0,0))) (v0 v1 v2 v3 v4 v5 v6 v7:Value):((((((((w.setCell ⟨k,0,none⟩ v0).setCell ⟨k,1,none⟩ v1).setCell ⟨k,2,none⟩ v2).setCell ⟨k,3,none⟩ v3).setCell ⟨k,4,none⟩ v4).setCell ⟨k,5,none⟩ v5).setCell ⟨k,6,none⟩ v6).setCell ⟨k,7,none⟩ v7).heap[k]? = some (.cells #[v0,v1,v2,v3,v4,v5,v6,v7] t (0,0)):=by
 have h0:(w.setCell ⟨k,0,none⟩ v0).heap[k]? = some (.cells #[v0,u1,u2,u3,u4,u5,u6,u7] t (0,0)):=(rowSet h 0 _).trans rfl
 have h1:((w.setCell ⟨k,0,none⟩ v0).setCell ⟨k,1,none⟩ v1).heap[k]? = some (.cells #[v0,v1,u2,u3,u4,u5,u6,u7] t (0,0)):=(rowSet h0 1 _).trans rfl
 have h2:(((w.setCell ⟨k,0,none⟩ v0).setCell ⟨k,1,none⟩ v1).setCell ⟨k,2,none⟩ v2).heap[k]? = some (.cells #[v0,v1,v2,u3,u4,u5,u6,u7] t (0,0)):=(rowSet h1 2 _).trans rfl
 have h3:((((w.setCell ⟨k,0,none⟩ v0).setCell ⟨k,1,none⟩ v1).setCell ⟨k,2,none⟩ v2).setCell ⟨k,3,none⟩ v3).heap[k]? = some (.cells #[v0,v1,v2,v3,u4,u5,u6,u7] t (0,0)):=(rowSet h2 3 _).trans rfl
 have h4:(((((w.setCell ⟨k,0,none⟩ v0).setCell ⟨k,1,none⟩ v1).setCell ⟨k,2,none⟩ v2).setCell ⟨k,3,none⟩ v3).setCell ⟨k,4,none⟩ v4).heap[k]? = some (.cells #[v0,v1,v2,v3,v4,u5,u6,u7] t (0,0)):=(rowSet h3 4 _).trans rfl
 have h5:((((((w.setCell ⟨k,0,none⟩ v0).setCell ⟨k,1,none⟩ v1).setCell ⟨k,2,none⟩ v2).setCell ⟨k,3,none⟩ v3).setCell ⟨k,4,none⟩ v4).setCell ⟨k,5,none⟩ v5).heap[k]? = some (.cells #[v0,v1,v2,v3,v4,v5,u6,u7] t (0,0)):=(rowSet h4 5 _).trans rfl
 have h6:(((((((w.setCell ⟨k,0,none⟩ v0).setCell ⟨k,1,none⟩ v1).setCell ⟨k,2,none⟩ v2).setCell ⟨k,3,none⟩ v3).setCell ⟨k,4,none⟩ v4).setCell ⟨k,5,none⟩ v5).setCell ⟨k,6,none⟩ v6).heap[k]? = some (.cells #[v0,v1,v2,v3,v4,v5,v6,u7] t (0,0)):=(rowSet h5 6 _).trans rfl
 have h7:((((((((w.setCell ⟨k,0,none⟩ v0).setCell ⟨k,1,none⟩ v1).setCell ⟨k,2,none⟩ v2).setCell ⟨k,3,none⟩ v3).setCell ⟨k,4,none⟩ v4).setCell ⟨k,5,none⟩ v5).setCell ⟨k,6,none⟩ v6).setCell ⟨k,7,none⟩ v7).heap[k]? = some (.cells #[v0,v1,v2,v3,v4,v5,v6,v7] t (0,0)):=(rowSet h6 7 _).trans rfl
 exact h7
theorem bel8 {b k:Nat} {w0 w:World} (h:Below b w0 w) (hk:b <= k) (v0 v1 v2 v3 v4 v5 v6 v7:Value):Below b w0 ((((((((w.setCell ⟨k,0,none⟩ v0).setCell ⟨k,1,none⟩ v1).setCell ⟨k,2,none⟩ v2).setCell ⟨k,3,none⟩ v3).setCell ⟨k,4,none⟩ v4).setCell ⟨k,5,none⟩ v5).setCell ⟨k,6,none⟩ v6).setCell ⟨k,7,none⟩ v7):=
 ((((((((h).setCell (p:=⟨k,0,none⟩) hk _).setCell (p:=⟨k,1,none⟩) hk _).setCell (p:=⟨k,2,none⟩) hk _).setCell (p:=⟨k,3,none⟩) hk _).setCell (p:=⟨k,4,none⟩) hk _).setCell (p:=⟨k,5,none⟩) hk _).setCell (p:=⟨k,6,none⟩) hk _).setCell (p:=⟨k,7,none⟩) hk _
theorem refs_none {n:Nat}:∀ f ∈ List.replicate n emptyF,blk f.A = none:=fun f hf=>by rw [List.eq_of_mem_replicate hf];rfl
theorem TalkSettles_any (A:Option Addr) (c:Nat) (Ss:List SlM) (pat prm need which:Int) (bk:Bool) (w:World) (h:PlR w A Ss) (hn:Ss.length <= 9223372036854775807) (hwh : -9223372036854775808 <= which /\ which <= 9223372036854775807) :
  Calls Tryz.prog 9 #[.agg #[.slice A Ss.length c,.int .i64 pat,.int .i64 prm,.int .i64 need],.int .i64 which,.bool bk] w (RetB true w):=by
 obtain ⟨W0,hW0⟩:∃ W0:World,W0 = w.alloc (.cells #[.slice A Ss.length c,.int .i64 pat,.int .i64 prm,.int .i64 need] 48):=⟨_,rfl⟩
 have HB0:Hid (Below w.heap.size w W0):=zH (by rw [hW0];exact bR.alloc nR _)
 have HX0:Hid (W0.heap[w.heap.size]? = some (.cells #[.slice A Ss.length c,.int .i64 pat,.int .i64 prm,.int .i64 need] 48 (0,0))):=zH (by rw [hW0];exact heap_alloc_new w _)
 have hws:w.heap.size < W0.heap.size:=(aE HX0.out).1
 have HPR:=zH (h.below HB0.out)
 have HCP:Hid (∀ u,Below W0.heap.size W0 u -> u.cell? ⟨w.heap.size,0,none⟩ = some (.slice A Ss.length c) /\ u.cell? ⟨w.heap.size,1,none⟩ = some (.int .i64 pat) /\ u.cell? ⟨w.heap.size,2,none⟩ = some (.int .i64 prm) /\ u.cell? ⟨w.heap.size,3,none⟩ = some (.int .i64 need)):=zH (fun u hu=>by
  have hh:=(hu.block _ hws).trans HX0.out
  exact ⟨(cR 0 hh).trans rfl,(cR 1 hh).trans rfl,(cR 2 hh).trans rfl,(cR 3 hh).trans rfl⟩)
 have CT:=zH (fun r hr=>tidy_any A c Ss pat prm need W0 HPR.out hn r hr)
 obtain ⟨c0,c1,c2,c3⟩:=HCP.out W0 bR
 clear h
 go_enter Tryz.func9,Tryz.ntmps9
 go_upto_region 1 with fail
 rw [<- hW0]
 clear hW0
 cases ht:tidyB Ss with
 | false=>
  have C1:=zH (CT.out false (zH ht))
  clear ht CT
  go_wp2_with fail
  refine C1.out.mono ?_
  rintro e w1 ⟨rfl,hb1⟩
  have HB1:=zH (HB0.out.trans (hb1.mono HB0.out.size))
  clear hb1 C1
  go_wp2_with fail
  refine (known10_any w1).mono ?_
  rintro e w9 ⟨rfl,hb9⟩
  go_wp2_with fail
  go_ret
  exact ⟨rfl,HB1.out.trans (hb9.mono HB1.out.size)⟩
 | true=>
  have C1:=zH (CT.out true (zH ht))
  have HT:=zH (tidyB_iff.1 ht)
  have HP:=zH (HPR.out.plm ht)
  obtain ⟨Ps,hPs⟩:∃ Ps,Ps = Ss.map SlM.pure:=⟨_,rfl⟩
  have HPS:=zH hPs
  rw [<- hPs] at HP
  have hS30:Ss.length <= 30:=HT.out.1
  have HSZ:Hid (∀ s ∈ Ss,s.nm.size <= 1000000 /\ ∀ v ∈ s.vs,v.size <= 1000000):=zH (fun s hs=>by
   obtain ⟨_,a2,_,_,a5⟩:=HT.out.2 s hs
   exact ⟨by omega,fun v hv=>by have:=a5 v hv;omega⟩)
  have HVL:Hid (∀ s ∈ Ss,s.vs.length <= 1000000):=zH (fun s hs=>by
   obtain ⟨a1,_⟩:=HT.out.2 s hs
   omega)
  have HFW:Hid (∀ s ∈ Ss,Few s.L 40000 /\ Few s.S 40000):=zH (fun s hs=>by
   obtain ⟨_,_,a3,a4,_⟩:=HT.out.2 s hs
   unfold lightB at a3 a4
   rw [Bool.and_eq_true,decide_eq_true_eq,decide_eq_true_eq] at a3 a4
   exact ⟨⟨Nat.le_trans a3.1 (by decide),Nat.le_trans a3.2 (by decide)⟩,⟨Nat.le_trans a4.1 (by decide),Nat.le_trans a4.2 (by decide)⟩⟩)
  have CP:=zH (fun u (hu:Below W0.heap.size W0 u) r hr=>uPlan_any A c Ss Ps pat prm need u (HP.out.below hu) HSZ HVL HFW (by omega) r hr)
  clear ht CT hPs
  cases hp:planB pat prm need Ps with
  | false=>
   have C2:=zH (fun u hu=>CP.out u hu false (zH hp))
   clear hp CP
   go_wp2_with fail
   refine C1.out.mono ?_
   rintro e w1 ⟨rfl,hb1⟩
   have HB1:=zH hb1
   obtain ⟨d0,d1,d2,d3⟩:=HCP.out w1 hb1
   clear hb1 C1 c0 c1 c2 c3
   go_wp2_with fail
   refine (C2.out w1 HB1.out).mono ?_
   rintro e w2 ⟨rfl,hb2⟩
   have HB2:=zH (HB0.out.trans ((HB1.out.trans (hb2.mono HB1.out.size)).mono HB0.out.size))
   clear hb2 C2
   go_wp2_with fail
   refine (known10_any w2).mono ?_
   rintro e w9 ⟨rfl,hb9⟩
   go_wp2_with fail
   go_ret
   exact ⟨rfl,HB2.out.trans (hb9.mono HB2.out.size)⟩
  | true=>
   have C2:=zH (fun u hu=>CP.out u hu true (zH hp))
   have HPB:=zH hp
   clear hp CP
   by_cases hw0:which < 0
   ·go_wp2_with fail
    refine C1.out.mono ?_
    rintro e w1 ⟨rfl,hb1⟩
    have HB1:=zH hb1
    obtain ⟨d0,d1,d2,d3⟩:=HCP.out w1 hb1
    clear hb1 C1 c0 c1 c2 c3
    go_wp2_with fail
    refine (C2.out w1 HB1.out).mono ?_
    rintro e w2 ⟨rfl,hb2⟩
    have HB2:=zH (HB0.out.trans ((HB1.out.trans (hb2.mono HB1.out.size)).mono HB0.out.size))
    clear hb2 C2
    go_wp2_with fail
    refine (known10_any w2).mono ?_
    rintro e w9 ⟨rfl,hb9⟩
    go_wp2_with fail
    go_ret
    exact ⟨rfl,HB2.out.trans (hb9.mono HB2.out.size)⟩
   ·go_wp2_with fail
    refine C1.out.mono ?_
    rintro e w1 ⟨rfl,hb1⟩
    have HB1:=zH hb1
    obtain ⟨d0,d1,d2,d3⟩:=HCP.out w1 hb1
    clear hb1 C1 c0 c1 c2 c3
    go_wp2_with fail
    refine (C2.out w1 HB1.out).mono ?_
    rintro e w2 ⟨rfl,hb2⟩
    have HB2:=zH (HB1.out.trans (hb2.mono HB1.out.size))
    obtain ⟨e0,e1,e2,e3⟩:=HCP.out w2 HB2.out
    clear hb2 C2 d0 d1 d2 d3
    go_wp2_with fail
    refine (Talk_new A c Ss Ps pat prm need w2 (HP.out.below HB2.out) HSZ HVL HPB).mono ?_
    rintro e w3 ⟨a1,rfl,hd1,hq1,hg1,hb3,hu1,hf1,-⟩
    have HB3:=zH (HB2.out.trans (hb3.mono HB2.out.size))
    have HD3:=zH hd1
    have HN1:=zH (show w2.heap.size <= a1.q /\ w2.heap.size <= a1.gF from ⟨hq1,hg1⟩)
    have HU3:=zH hu1
    have HF1:=zH hf1
    obtain ⟨f0,f1,f2,f3⟩:=HCP.out w3 HB3.out
    clear hd1 hq1 hg1 hb3 hu1 hf1 e0 e1 e2 e3
    go_wp2_with fail
    refine (Talk_new A c Ss Ps pat prm need w3 (HP.out.below HB3.out) HSZ HVL HPB).mono ?_
    rintro e w4 ⟨a2,rfl,hd2,hq2,hg2,hb4,hu2,hf2,hs2⟩
    have HB4:=zH (HB3.out.trans (hb4.mono HB3.out.size))
    have HD4:=zH (HD3.out.below hb4)
    have HQ3:=zH (show a1.q < w3.heap.size /\ a1.gF < w3.heap.size from ⟨HD3.out.lt.1,HD3.out.lt.2.1⟩)
    have HE4:=zH hd2
    have HN2:=zH (show w3.heap.size <= a2.q /\ w3.heap.size <= a2.gF from ⟨hq2,hg2⟩)
    have HU4:Hid (AllC notU w4 a1.gF):=zH (HU3.out.block (hb4.block _ HD3.out.lt.2.1))
    have HV4:=zH hu2
    have HF2:=zH hf2
    have HS4:=zH hs2
    clear hd2 hq2 hg2 hb4 hu2 hf2 hs2 f0 f1 f2 f3 HU3
    obtain ⟨-,HPV,HPW⟩:True /\ Hid (∀ s ∈ Ps,1 <= s.vs.length /\ partB s.le = true /\ partB s.su = true /\ ¬ 0 < qsgn (s.le + -s.su)) /\ Hid (Ps.Pairwise (fun s t=>∀ v ∈ s.vs,v ∉ t.vs)):=⟨trivial,zH (planB_all HPB.out).2.1,zH (planB_all HPB.out).2.2⟩
    have HPL:Hid (Ps.length = Ss.length):=zH (by rw [HPS.out];simp)
    have HH:=(planB_all HPB.out).1
    rw [HPL.out] at HH
    obtain ⟨g1,g2,g3,g4,g5,g6,g7,g8⟩:=HH
    have HSI:Hid (SetI Ps (mrk Ss.length bk 0) 0 (newD pat prm need Ps)):=zH ((SetI.new pat prm need Ps (by rw [HPL.out];exact g1)).congr (fun j hj=>by rw [HPL.out] at hj;unfold mrk;cases bk <;> simp <;> omega))
    have HK0:=zH (newD_K HPB.out)
    have HA0:Hid (Chg w4 w4 a1 a1):=zH (Chg.of_below bR)
    have HQ1:Hid (a1.q = a1.q /\ a1.gF = a1.gF):=zH ⟨rfl,rfl⟩
    go_wp2_with fail
    go_loopw [11,12] (fun i _ wr=>∃ k:Nat,k <= Ss.length /\ i = .int .i64 k /\ Hid (∃ a D,DlM wr w3.heap.size a D /\ DlK k D /\ SetI Ps (mrk Ss.length bk k) k D /\ Chg w4 wr a1 a)) (fun i _ _=>Ss.length - (intOf i).toNat)
    case atStart=>exact ⟨0,by omega,rfl,zH ⟨a1,_,HD4.out,HK0.out,HSI.out,HA0.out⟩⟩
    case round=>
     obtain ⟨k,hk,rfl,HR⟩:=hrel
     clear HSI HK0 HA0 HQ1
     obtain ⟨W5,rfl⟩:∃ x,x = wr:=⟨_,rfl⟩
     obtain ⟨a,D,hD,hK,hI,hC⟩:=HR.out
     have HD:=zH hD
     have HK:=zH hK
     have HI:=zH hI
     have HC:=zH hC
     have HBL:Hid (Below W0.heap.size W0 W5):=zH (HB4.out.trans (hC.bel HD4.out HB4.out.size (Nat.le_trans HB2.out.size HN1.out.1) (Nat.le_trans HB2.out.size HN1.out.2) HB3.out.size))
     have HAQ:Hid (a.q = a1.q):=zH hC.same.1
     clear hD hK hI hC HR
     obtain ⟨c0,c1,c2,c3⟩:=HCP.out W5 HBL.out
     by_cases hlt:k < Ss.length
     ·obtain ⟨o,ho⟩:∃ o,o = slotAt Ss.length bk k:=⟨_,rfl⟩
      have hol:o < Ss.length:=by rw [ho];exact slotAt_lt hlt
      have HOE:=zH ho
      obtain ⟨ba,off,rfl,hba,hcell⟩:=(HPR.out.below HBL.out).at_ hlt
      obtain ⟨ba',off',e2,-,hcelo⟩:=(HPR.out.below HBL.out).at_ hol
      cases e2
      have HSO:=zH (HPR.out.ok _ (List.getElem_mem hol))
      have HSP:Hid (Ss[o] ∈ Ss):=zH (List.getElem_mem hol)
      have HPO:Hid (∃ h:o < Ps.length,Ps[o] = Ss[o].pure):=zH ⟨by rw [HPL.out];exact hol,by simp [HPS.out]⟩
      have HCK:Hid (∀ (j:Nat) (v:Value),(slc Ss[k])[j]? = some v -> W5.cell? ⟨ba,off + k * 8 + j,none⟩ = some v):=zH hcell
      have HCO:Hid (∀ (j:Nat) (v:Value),(slc Ss[o])[j]? = some v -> W5.cell? ⟨ba,off + o * 8 + j,none⟩ = some v):=zH hcelo
      have HKO:Hid (bk = false -> Ss[o] = Ss[k]):=zH (fun e=>by
       subst e
       have:o = k:=by rw [ho];rfl
       subst this
       rfl)
      clear hcell hcelo ho
      generalize Ss[k] = sk at *
      generalize Ss[o] = so at *
      have k0:=HCK.out 0 _ rfl
      have k1:=HCK.out 1 _ rfl
      have k2:=HCK.out 2 _ rfl
      have k3:=HCK.out 3 _ rfl
      have k4:=HCK.out 4 _ rfl
      have k5:=HCK.out 5 _ rfl
      have k6:=HCK.out 6 _ rfl
      have k7:=HCK.out 7 _ rfl
      rw [Nat.add_zero] at k0
      obtain ⟨V,hV⟩:∃ V:World,V = W5.alloc (.cells #[.string sk.nm,.slice sk.A sk.vs.length sk.c,.bool sk.L.neg,.slice sk.L.A sk.L.N.length sk.L.c,.slice sk.L.B sk.L.D.length sk.L.d,.bool sk.S.neg,.slice sk.S.A sk.S.N.length sk.S.c,.slice sk.S.B sk.S.D.length sk.S.d] 79):=⟨_,rfl⟩
      have HBV:Hid (Below W5.heap.size W5 V):=zH (by rw [hV];exact bR.alloc nR _)
      have HXV:Hid (V.heap[W5.heap.size]? = some (.cells #[.string sk.nm,.slice sk.A sk.vs.length sk.c,.bool sk.L.neg,.slice sk.L.A sk.L.N.length sk.L.c,.slice sk.L.B sk.L.D.length sk.L.d,.bool sk.S.neg,.slice sk.S.A sk.S.N.length sk.S.c,.slice sk.S.B sk.S.D.length sk.S.d] 79 (0,0))):=zH (by rw [hV];exact heap_alloc_new W5 _)
      go_upto_if 69 with fail
      rw [<- hV]
      clear hV k0 k1 k2 k3 k4 k5 k6 k7
      go_cut [12] from 57 to 94 (fun t12 wx=>∃ kb,t12 = .pointer (some ⟨kb,0,none⟩) /\ Hid (wx.heap[kb]? = some (.cells #[.string so.nm,.slice so.A so.vs.length so.c,.bool so.L.neg,.slice so.L.A so.L.N.length so.L.c,.slice so.L.B so.L.D.length so.L.d,.bool so.S.neg,.slice so.S.A so.S.N.length so.S.c,.slice so.S.B so.S.D.length so.S.d] 79 (0,0))) /\ Hid (Below W5.heap.size W5 wx))
      case first=>
       cases bk with
       | false=>
        go_wp2_with fail
        go_meet
        exact ⟨W5.heap.size,rfl,zH (by first | (rw [HKO.out rfl];exact HXV.out) | (rw [HKO.out trivial];exact HXV.out) | (rw [HKO.out];exact HXV.out)),HBV⟩
       | true=>
        have hoe:(Ss.length:Int) - 1 - (k:Int) = (o:Int):=by rw [HOE.out];unfold slotAt;simp;omega
        obtain ⟨m0,m1,m2,m3⟩:=HCP.out V (HBL.out.trans (HBV.out.mono HBL.out.size))
        have hvo:∀ (j:Nat) (v:Value),(slc so)[j]? = some v -> V.cell? ⟨ba,off + o * 8 + j,none⟩ = some v:=fun j v hv=>(HBV.out.cell (p:=⟨ba,off + o * 8 + j,none⟩) hba).trans (HCO.out j v hv)
        have k0:=hvo 0 _ rfl
        have k1:=hvo 1 _ rfl
        have k2:=hvo 2 _ rfl
        have k3:=hvo 3 _ rfl
        have k4:=hvo 4 _ rfl
        have k5:=hvo 5 _ rfl
        have k6:=hvo 6 _ rfl
        have k7:=hvo 7 _ rfl
        rw [Nat.add_zero] at k0
        have hz:∀ j,V.frozen? ⟨W5.heap.size,j,none⟩ = false:=fun j=>rowfz HXV.out j
        have b0:V.cell? ⟨W5.heap.size,0,none⟩ = some (.string sk.nm):=(cR 0 HXV.out).trans rfl
        have b1:V.cell? ⟨W5.heap.size,1,none⟩ = some (.slice sk.A sk.vs.length sk.c):=(cR 1 HXV.out).trans rfl
        have b2:V.cell? ⟨W5.heap.size,2,none⟩ = some (.bool sk.L.neg):=(cR 2 HXV.out).trans rfl
        have b3:V.cell? ⟨W5.heap.size,3,none⟩ = some (.slice sk.L.A sk.L.N.length sk.L.c):=(cR 3 HXV.out).trans rfl
        have b4:V.cell? ⟨W5.heap.size,4,none⟩ = some (.slice sk.L.B sk.L.D.length sk.L.d):=(cR 4 HXV.out).trans rfl
        have b5:V.cell? ⟨W5.heap.size,5,none⟩ = some (.bool sk.S.neg):=(cR 5 HXV.out).trans rfl
        have b6:V.cell? ⟨W5.heap.size,6,none⟩ = some (.slice sk.S.A sk.S.N.length sk.S.c):=(cR 6 HXV.out).trans rfl
        have b7:V.cell? ⟨W5.heap.size,7,none⟩ = some (.slice sk.S.B sk.S.D.length sk.S.d):=(cR 7 HXV.out).trans rfl
        have z0:=hz 0
        have z1:=hz 1
        have z2:=hz 2
        have z3:=hz 3
        have z4:=hz 4
        have z5:=hz 5
        have z6:=hz 6
        have z7:=hz 7
        clear hvo hz
        go_wp2_with fail
        go_meet
        exact ⟨W5.heap.size,rfl,zH (row8 HXV.out _ _ _ _ _ _ _ _),zH (bel8 HBV.out nR _ _ _ _ _ _ _ _)⟩
      case rest=>
       obtain ⟨kb,rfl,HXB,HBW⟩:=hcut
       obtain ⟨W6,rfl⟩:∃ x,x = wc:=⟨_,rfl⟩
       clear HBV HXV HCK HCO HKO
       have hkb:kb < W6.heap.size:=(aE HXB.out).1
       obtain ⟨hop,hpo⟩:=HPO.out
       have HPV1:=zH (HPV.out _ (List.getElem_mem hop))
       have hv1 : 1 <= so.vs.length:=by have:=HPV1.out.1;rw [hpo] at this;exact this
       have hne:¬ so.vs = []:=fun e=>by rw [e] at hv1;simp at hv1
       have hv60:so.vs.length <= 60:=(HT.out.2 so HSP.out).1
       obtain ⟨m,hm⟩:∃ m:Nat,which.tmod (so.vs.length:Int) = (m:Int):=⟨(which.tmod so.vs.length).toNat,by have:=Int.tmod_nonneg (so.vs.length:Int) (show 0 <= which by omega);omega⟩
       have hml:m < so.vs.length:=by have:=Int.tmod_lt_of_pos which (show 0 < (so.vs.length:Int) by omega);omega
       obtain ⟨bv,ov,ev,hbv,hcv⟩:=HSO.out.lies (by simp;omega)
       have hcm:=hcv m (.string so.vs[m]) (by simp [gE hml])
       have HVM:Hid (so.vs[m] ∈ Ps[o].vs):=zH (by rw [hpo];exact List.getElem_mem hml)
       generalize so.vs[m] = vm at *
       have HB6:=zH (HBL.out.trans (HBW.out.mono HBL.out.size))
       have HCB:Hid (∀ u,u.heap[kb]? = W6.heap[kb]? -> Below W0.heap.size W0 u -> u.cell? ⟨kb,1,none⟩ = some (.slice so.A so.vs.length so.c) /\ u.cell? ⟨bv,ov + m,none⟩ = some (.string vm)):=zH (fun u hu hb=>
        ⟨(cR 1 (hu.trans HXB.out)).trans rfl,(hb.cell (p:=⟨bv,ov + m,none⟩) hbv).trans hcm⟩)
       rw [ev] at HCB
       have HD6:=zH (HD.out.below HBW.out)
       obtain ⟨D',hR,hI⟩:=HI.out.step HPW.out (fun s hs=>⟨(HPV.out s hs).2.1,(HPV.out s hs).2.2.1⟩) (by omega) hop (by rw [HOE.out];exact mrk_not hlt) HVM.out
       have HI2:Hid (SetI Ps (mrk Ss.length bk (k + 1)) (k + 1) D'):=zH (hI.congr (fun j _=>by rw [HOE.out];exact mrk_next hlt))
       have HK2:Hid (DlK ((k + 1:Nat):Int) D'):=zH (by have h9:=hearP_k HK.out ⟨4,vm,((1:Int):Rat),k⟩;rw [hR] at h9;simpa using h9)
       have HHR:=zH (fun u (y:Fr) (hu:Below W6.heap.size W6 u) (hy:Fq u y ((1:Int):Rat))=>Hear_any k w3.heap.size a D ⟨4,vm,y,k⟩ ((1:Int):Rat) u (HD6.out.below hu) HK.out (by omega) hy.fv (hy.few (sz_one (by decide +kernel) (by decide +kernel))) (show (Lit.int .i64 4).wf = true by decide) (0,D') (zH hR))
       simp only [HAQ.out] at HHR
       have HXK:=zH (show BT W6 kb 79 from ⟨_,_,HXB.out⟩)
       have HAW:=zH (show W0.heap.size <= a.q /\ W0.heap.size <= a.gF from ⟨by rw [HAQ.out];exact Nat.le_trans HB2.out.size HN1.out.1,by have h9:=HC.out.same.2;rw [h9];exact Nat.le_trans HB2.out.size HN1.out.2⟩)
       have hb31:=HB3.out.size
       clear hcv hcm ev HXB hpo HPV1 hR hI HI
       go_upto_region 13 with fail
       refine wp_region_held0 (S:=fun w'=>w'.cell? ⟨kb,1,none⟩ = some (.slice (some ⟨bv,ov,none⟩) so.vs.length so.c) /\ w'.cell? ⟨bv,ov + m,none⟩ = some (.string vm)) 15 rfl (by kernel_rfl) (HCB.out W6.drew rfl HB6.out.drew) (fun hd=>?_)
       iterate 10 (((refine wpAnyH_takeN (v:=?_) rfl (by kernel_rfl) (fun _ _ _ h=>h) ⟨by rfl,?_⟩ hd ?_;rotate_left;· intro w' sw;obtain ⟨s1,s2⟩:=sw;go_simp;try with_reducible rfl);simp only [zA,zB,zC]))
       refine wpAnyH_takeD (i:=11) 91 (v:=?_) rfl rfl (by kernel_rfl) (by kernel_rfl) (by kernel_rfl) (fun _ _ _ h=>h) ⟨by rfl,?_⟩ hd ?_
       rotate_left
       ·intro w' sw;obtain ⟨s1,s2⟩:=sw;go_simp;try with_reducible rfl
       simp only [zA,zB,zC]
       refine wpAnyH_oneD 10 rfl (by kernel_rfl) rfl (fun K hK=>?_)
       go_simp
       refine (rqOf_any 1 W6.drew (by decide) (by decide)).mono ?_
       rintro e w7 ⟨y,rfl,hy,hb7⟩
       have HB7:=zH (below_undrew hb7)
       have HY7:=zH hy
       clear hy hb7
       go_simp
       refine hK _ _ (HCB.out w7 (HB7.out.block _ HXK.out.lt) (HB6.out.trans (HB7.out.mono HB6.out.size))) (fun hd=>?_)
       clear hK K
       ((refine wpAnyH_takeN (v:=?_) rfl (by kernel_rfl) (fun _ _ _ h=>h) ⟨by rfl,?_⟩ hd ?_;rotate_left;· intro w' sw;obtain ⟨s1,s2⟩:=sw;go_simp;try with_reducible rfl);simp only [zA,zB,zC])
       refine wpAnyH_oneD 13 rfl (by kernel_rfl) rfl (fun K hK=>?_)
       go_simp
       refine (HHR.out w7 y HB7.out HY7.out).mono ?_
       rintro e w8 ⟨a',rfl,hd8,hc8⟩
       have HD8:=zH hd8
       have HC8:=zH hc8
       have HB8:Hid (Below W0.heap.size W0 w8):=zH ((HB6.out.trans (HB7.out.mono HB6.out.size)).trans (hc8.bel (HD6.out.below HB7.out) (Nat.le_trans HB6.out.size HB7.out.size) HAW.out.1 HAW.out.2 hb31))
       have HX8:Hid (w8.heap[kb]? = W6.heap[kb]?):=zH (by obtain ⟨n1,n2,n3⟩:=(HD6.out.below HB7.out).alien (HXK.out.below HB7.out) (by decide) (by decide) (by decide);exact (hc8.block kb (HXK.out.below HB7.out).lt n1 n2 n3).trans (HB7.out.block _ HXK.out.lt))
       clear hd8 hc8
       go_simp
       refine hK _ _ (HCB.out w8 HX8.out HB8.out) (fun hd=>?_)
       clear hK K
       ((refine wpAnyH_takeN (v:=?_) rfl (by kernel_rfl) (fun _ _ _ h=>h) ⟨by rfl,?_⟩ hd ?_;rotate_left;· intro w' sw;obtain ⟨s1,s2⟩:=sw;go_simp;try with_reducible rfl);simp only [zA,zB,zC])
       refine wpAnyH_done (by kernel_rfl) ?_ _
       have HCN:Hid (Chg w4 w8 a1 a'):=zH (HC.out.trans ((Chg.of_below (HBW.out.trans (HB7.out.mono HBW.out.size))).trans HC8.out))
       clear HB7 HY7 HX8 HB8 HC8 HHR HD6 HXK HCB HB6 HAW
       go_wp2_with fail
       exact ⟨⟨k + 1,by omega,by go_num,zH ⟨a',D',HD8.out,HK2.out,HI2.out,HCN.out⟩⟩,by simp [intOf];omega⟩
     ·obtain rfl:k = Ss.length:=by omega
      have HST:Hid (D.stand = 1):=zH (HI.out.done (fun j hj=>mrk_all (by rw [HPL.out] at hj;exact hj)))
      have HE5:=zH (HE4.out.younger (base:=w3.heap.size) HS4.out HV4.out HD4.out HU4.out HC.out (by rw [HF1.out];exact refs_none) HQ3.out.1 HQ3.out.2 HN2.out.1 HN2.out.2)
      have HNI:Hid (NotI pat Ps 0 (newD pat prm need Ps)):=zH (NotI.new pat prm need Ps g3)
      have HK0:=zH (newD_K HPB.out)
      have HPS1:Hid (1 <= Ps.length):=zH (by rw [HPL.out];exact g1)
      have HAE:=zH (show W0.heap.size <= a2.q /\ W0.heap.size <= a2.gF from ⟨Nat.le_trans HB3.out.size HN2.out.1,Nat.le_trans HB3.out.size HN2.out.2⟩)
      have h04:=HB4.out.size
      have HRF2:Hid (∀ f ∈ a2.Fm,blk f.A = none):=zH (by rw [HF2.out];exact refs_none)
      clear HI HE4 HD4 HU4 HS4 HV4 HD3 HPV HPW HC HPR HP HSZ HVL HFW HPS HT HF1 HF2 HN1 hlt
      go_wp2_with fail
      go_loopw [13] (fun i wr=>∃ j:Nat,i = .int .i64 j /\ (j:Int) <= pat + 1 /\ Hid (∃ e E,DlM wr w4.heap.size e E /\ DlK j E /\ NotI pat Ps j E /\ Chg W5 wr a2 e)) (fun i _=>(pat + 1 - intOf i).toNat)
      case atStart=>exact ⟨0,rfl,by omega,zH ⟨a2,_,HE5.out,HK0.out,HNI.out,Chg.of_below bR⟩⟩
      case round=>
       obtain ⟨j,rfl,hj,HR⟩:=hrel
       clear HNI HK0
       obtain ⟨W6,rfl⟩:∃ x,x = wr:=⟨_,rfl⟩
       obtain ⟨f,E,hE,hEK,hEI,hEC⟩:=HR.out
       have HE:=zH hE
       have HEK:=zH hEK
       have HEI:=zH hEI
       have HEC:=zH hEC
       have HB6:Hid (Below W0.heap.size W0 W6):=zH (HBL.out.trans (hEC.bel HE5.out HBL.out.size HAE.out.1 HAE.out.2 h04))
       have HFQ:Hid (f.q = a2.q):=zH hEC.same.1
       have HFG:Hid (f.gF = a2.gF):=zH hEC.same.2
       clear hE hEK hEI hEC HR c0 c1 c2 c3
       obtain ⟨c0,c1,c2,c3⟩:=HCP.out W6 HB6.out
       by_cases hjp:(j:Int) <= pat
       ·obtain ⟨E',hR,hI⟩:=HEI.out.step HPS1.out hjp g4
        have HI2:=zH hI
        have HK2:Hid (DlK ((j + 1:Nat):Int) E'):=zH (by have h9:=hearP_k HEK.out ⟨1,⟨#[]⟩,((1:Int):Rat),j⟩;rw [hR] at h9;simpa using h9)
        have HHR:=zH (fun u (y:Fr) (hu:Below W6.heap.size W6 u) (hy:Fq u y ((1:Int):Rat))=>Hear_any j w4.heap.size f E ⟨1,⟨#[]⟩,y,j⟩ ((1:Int):Rat) u (HE.out.below hu) HEK.out (by omega) hy.fv (hy.few (sz_one (by decide +kernel) (by decide +kernel))) (show (Lit.int .i64 1).wf = true by decide) (0,E') (zH hR))
        simp only [HFQ.out] at HHR
        clear hR hI HEI
        go_wp2_with fail
        refine (rqOf_any 1 W6 (by decide) (by decide)).mono ?_
        rintro e w7 ⟨y,rfl,hy,hb7⟩
        have HB7:=zH hb7
        have CH:=zH (HHR.out w7 y hb7 hy)
        clear hy hb7 HHR
        go_wp2_with fail
        refine CH.out.mono ?_
        rintro e w8 ⟨f',rfl,hd8,hc8⟩
        have HD8:=zH hd8
        have HCN:Hid (Chg W5 w8 a2 f'):=zH (HEC.out.trans ((Chg.of_below HB7.out).trans hc8))
        clear hd8 hc8 CH HB7
        go_wp2_with fail
        exact ⟨⟨j + 1,by go_num,by omega,zH ⟨f',E',HD8.out,HK2.out,HI2.out,HCN.out⟩⟩,by simp [intOf];omega⟩
       ·have HST2:Hid (E.stand = 2 /\ hearP E ⟨1,⟨#[]⟩,((0:Int):Rat),1000⟩ = (8,E)):=zH ⟨(HEI.out.end_ (by omega) (by omega)).2,(HEI.out.end_ (by omega) (by omega)).1⟩
        have HDl:=zH (HD.out.elder HE5.out HEC.out HRF2.out HN2.out.1 HN2.out.2)
        have HW6:=zH (HB0.out.trans (HB6.out.mono HB0.out.size))
        have hf1:=HDl.out.few HK.out (by omega)
        have hf2:=HE.out.few HEK.out (by omega)
        have CS1:Hid (Calls Tryz.prog 35 #[.pointer (some ⟨a1.q,0,none⟩)] W6 fun e w'=>∃ SA Sc,∃ sn:Nat,e = .returned (.tuple #[.agg #[.slice SA sn Sc,.int .i64 D.bad,.bool true,.bool false,.int .i64 D.cuts],.int .i64 0]) /\ RowKit.Below W6.heap.size W6 w'):=zH (by
         rw [<- HAQ.out];exact (Stand_any w3.heap.size a D W6 HDl.out hf1.1 (zH hf1.2)).mono (fun e w' ⟨SA,Sc,Fm,he,_,_,_,hb⟩=>⟨SA,Sc,Fm.length,by rw [he,HST.out];rfl,hb⟩))
        have CS2:Hid (∀ u,Below W6.heap.size W6 u -> Calls Tryz.prog 35 #[.pointer (some ⟨a2.q,0,none⟩)] u fun e w'=>∃ SA Sc,∃ sn:Nat,e = .returned (.tuple #[.agg #[.slice SA sn Sc,.int .i64 E.bad,.bool false,.bool true,.int .i64 E.cuts],.int .i64 0]) /\ RowKit.Below u.heap.size u w'):=zH (fun u hu=>by
         rw [<- HFQ.out];exact (Stand_any w4.heap.size f E u (HE.out.below hu) hf2.1 (zH hf2.2)).mono (fun e w' ⟨SA,Sc,Fm,he,_,_,_,hb⟩=>⟨SA,Sc,Fm.length,by rw [he,HST2.out.1];rfl,hb⟩))
        have CA:Hid (∀ u,Below W6.heap.size W6 u -> Calls Tryz.prog 36 #[.pointer (some ⟨a1.q,0,none⟩)] u fun e w'=>e = .returned (.tuple #[.agg #[.int .i64 0,.bool false,.string ⟨#[]⟩,.int .i64 0],.int .i64 7]) /\ RowKit.Below u.heap.size u w'):=zH (fun u hu=>by
         have h9:=Ask_none w3.heap.size a D u (HDl.out.below hu) (by rw [HST.out];decide)
         rw [HAQ.out] at h9
         exact h9)
        have CH:Hid (∀ u,Below W6.heap.size W6 u -> Calls Tryz.prog 33 #[.pointer (some ⟨a2.q,0,none⟩),EvM.v ⟨1,⟨#[]⟩,zeroFr,1000⟩] u fun e w'=>e = .returned (.int .i64 8) /\ Below w.heap.size w w'):=zH (fun u hu=>by
         rw [<- HFQ.out];exact (Hear_any j w4.heap.size f E ⟨1,⟨#[]⟩,zeroFr,1000⟩ ((0:Int):Rat) u (HE.out.below hu) HEK.out (by omega) (Fq.zero u).fv ⟨by decide,by decide⟩ (show (Lit.int .i64 1).wf = true by decide) (8,E) (zH HST2.out.2)).mono (fun e w' ⟨a',he,_,hc⟩=>⟨he,(HW6.out.trans (hu.mono HW6.out.size)).trans (hc.bel (HE.out.below hu) (Nat.le_trans HW6.out.size hu.size) (by rw [HFQ.out];exact Nat.le_trans HB0.out.size HAE.out.1) (by rw [HFG.out];exact Nat.le_trans HB0.out.size HAE.out.2) (Nat.le_trans HB0.out.size h04))⟩))
        clear HEI HB6 HEC HE5 HD HBL hf1 hf2
        go_wp2_with fail
        refine CS1.out.mono ?_
        rintro e w7 ⟨SA,Sc,sn,rfl,hb7⟩
        obtain ⟨V7,hV7⟩:∃ V7:World,V7 = w7.alloc (.cells #[.slice SA sn Sc,.int .i64 D.bad,.bool true,.bool false,.int .i64 D.cuts] 65):=⟨_,rfl⟩
        have HB7:Hid (Below W6.heap.size W6 V7):=zH (by rw [hV7];exact hb7.alloc hb7.size _)
        have HX7:Hid (V7.heap[w7.heap.size]? = some (.cells #[.slice SA sn Sc,.int .i64 D.bad,.bool true,.bool false,.int .i64 D.cuts] 65 (0,0))):=zH (by rw [hV7];exact heap_alloc_new w7 _)
        have h7l:w7.heap.size < V7.heap.size:=(aE HX7.out).1
        go_upto_region 21 with fail
        rw [<- hV7]
        clear hV7 hb7 CS1
        go_wp2_with fail
        refine (CS2.out V7 HB7.out).mono ?_
        rintro e w8 ⟨TA,Tc,tn,rfl,hb8⟩
        obtain ⟨V8,hV8⟩:∃ V8:World,V8 = w8.alloc (.cells #[.slice TA tn Tc,.int .i64 E.bad,.bool false,.bool true,.int .i64 E.cuts] 65):=⟨_,rfl⟩
        have h78:Below V7.heap.size V7 V8:=by rw [hV8];exact hb8.alloc hb8.size _
        have HB8:Hid (Below W6.heap.size W6 V8):=zH (HB7.out.trans (h78.mono HB7.out.size))
        have HX8:Hid (V8.heap[w8.heap.size]? = some (.cells #[.slice TA tn Tc,.int .i64 E.bad,.bool false,.bool true,.int .i64 E.cuts] 65 (0,0))):=zH (by rw [hV8];exact heap_alloc_new w8 _)
        have HX78:=zH ((h78.block _ h7l).trans HX7.out)
        go_upto_region 22 with fail
        rw [<- hV8]
        clear hV8 hb8 CS2 h78
        go_wp2_with fail
        refine (CA.out V8 HB8.out).mono ?_
        rintro e w9 ⟨rfl,hb9⟩
        obtain ⟨V9,hV9⟩:∃ V9:World,V9 = w9.alloc (.cells #[.int .i64 0,.bool false,.string ⟨#[]⟩,.int .i64 0] 69):=⟨_,rfl⟩
        have h89:Below V8.heap.size V8 V9:=by rw [hV9];exact hb9.alloc hb9.size _
        have HB9:Hid (Below W6.heap.size W6 V9):=zH (HB8.out.trans (h89.mono HB8.out.size))
        have hy:=(h89.block _ (aE HX78.out).1).trans HX78.out
        have hz:=(h89.block _ (aE HX8.out).1).trans HX8.out
        have y2:V9.cell? ⟨w7.heap.size,2,none⟩ = some (.bool true):=(cR 2 hy).trans rfl
        have y3:V9.cell? ⟨w7.heap.size,3,none⟩ = some (.bool false):=(cR 3 hy).trans rfl
        have z2:V9.cell? ⟨w8.heap.size,2,none⟩ = some (.bool false):=(cR 2 hz).trans rfl
        have z3:V9.cell? ⟨w8.heap.size,3,none⟩ = some (.bool true):=(cR 3 hz).trans rfl
        have CH9:=zH (CH.out V9 HB9.out)
        go_upto_region 23 with fail
        rw [<- hV9]
        clear hV9 hb9 CA h89 hy hz CH
        go_wp2_with fail
        refine CH9.out.mono ?_
        rintro e w10 ⟨rfl,hb10⟩
        have HW10:=zH hb10
        clear hb10 CH9 y2 y3 z2 z3
        go_wp2_with fail
        refine (known10_any w10).mono ?_
        rintro e w11 ⟨rfl,hb11⟩
        go_wp2_with fail
        go_ret
        exact ⟨rfl,HW10.out.trans (hb11.mono HW10.out.size)⟩
end Go.Proofs.YtcjicjfbippmnaaGreat
