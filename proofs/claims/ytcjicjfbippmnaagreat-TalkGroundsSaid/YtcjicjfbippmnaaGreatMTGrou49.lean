/- TalkGrounds -/
import Derived.Test.YtcjicjfbippmnaaGreatMTGrou47
import Derived.Test.YtcjicjfbippmnaaGreatMTGrou48
set_option maxRecDepth 100000
set_option maxHeartbeats 32000000
namespace Go.Proofs.YtcjicjfbippmnaaGreat
open Go.RowKit Ear

theorem Chg.young {wa w w':World} {bs:Nat} {a a':DlA} {D:PDl} (c:Chg w w' a a') (h:DlM wa bs a D) {b:Nat} (h1:wa.heap.size <= b) (h2:b < w.heap.size):w'.heap[b]? = w.heap[b]?:=
 c.block b h2 (by have:=h.lt;omega) (by have:=h.lt;omega) (fun f hf e=>by have:=((h.ref f hf).lt b (by rw [Jm];exact e)).2;omega)
theorem StM.young {wa w w':World} {bs:Nat} {a a':DlA} {D:PDl} {A:Option Addr} {c:Nat} {F:List FlM} (hc:Chg w w' a a') (h:DlM wa bs a D) (ho:w.ownsRow wa.heap.size 76 3 (.slice A F.length c) F.length (XP F))
  (hr:∀ f ∈ F,w.ownsRow wa.heap.size 9 1 (.slice f.A f.ref.length f.c) f.ref.length (sbs f.ref)):StM w' A F:=
 ⟨(Lies.of_own ho).same hc.size (fun b off e _ hb _=>hc.young h (ho.lt b (by rw [e];rfl)).1 hb),fun f hf=>(Lies.of_own (hr f hf)).same hc.size (fun b off e _ hb _=>hc.young h ((hr f hf).lt b (by rw [e];rfl)).1 hb)⟩
theorem ZeS {n:Int} {D:PDl} (hK:DlK n D):∃ (qs:Int) (qc:Bool) (qv:BA) (qf qe:Int),Zhq D = (.agg #[.int .i64 qs,.bool qc,.string qv,.int .i64 qf],qe) /\ (D.stand = 0 -> qe = 0 /\ qs = YB D.F /\ qf = D.prompt /\ ∀ f,D.F[YB D.F]? = some f -> qc = decide (f.st = 2) /\ qv = f.val):=by
 unfold Zhq
 by_cases hst:D.stand = 0
 ·rw [if_neg (by simpa using hst)]
  have hask:=hK.ask hst
  refine ⟨_,_,_,_,_,rfl,fun _=>⟨rfl,rfl,rfl,fun f hf=>?_⟩⟩
  rw [hf]
  exact ⟨rfl,rfl⟩
 ·rw [if_pos hst]
  exact ⟨_,_,_,_,_,rfl,fun e=>absurd e hst⟩
theorem Zg1 {n:Int} (h : -9223372036854775808 <= n /\ n <= 9223372036854775807):(Lit.int .i64 n).wf = true:=by
 simpa [Lit.wf] using (show IntKind.i64.min <= n /\ n <= IntKind.i64.max from h)
theorem Qa (A:Option Addr) (c:Nat) (Ss:List SlM) (pat prm need:Int) (B:Option Addr) (d:Nat) (L:List EvM) (w:World) (h:PlR w A Ss) (hn:Ss.length <= 9223372036854775807) (hL:EvL w B L) (hm:L.length <= 9223372036854775807) :
  Calls Tryz.prog 8 #[.agg #[.slice A Ss.length c,.int .i64 pat,.int .i64 prm,.int .i64 need],.slice B L.length d] w (Qx true w):=by
 obtain ⟨W0,hW0⟩:∃ W0:World,W0 = w.alloc (.cells #[.slice A Ss.length c,.int .i64 pat,.int .i64 prm,.int .i64 need] 48):=⟨_,rfl⟩
 have HB0:Hid (Below w.heap.size w W0):=zH (by rw [hW0];exact bR.alloc nR _)
 have HX0:Hid (W0.heap[w.heap.size]? = some (.cells #[.slice A Ss.length c,.int .i64 pat,.int .i64 prm,.int .i64 need] 48 (0,0))):=zH (by rw [hW0];exact heap_alloc_new w _)
 have hws:w.heap.size < W0.heap.size:=(aE HX0.out).1
 have HPR:=zH (h.below HB0.out)
 have HCP:Hid (∀ u,Below W0.heap.size W0 u -> u.cell? ⟨w.heap.size,0,none⟩ = some (.slice A Ss.length c) /\ u.cell? ⟨w.heap.size,1,none⟩ = some (.int .i64 pat) /\ u.cell? ⟨w.heap.size,2,none⟩ = some (.int .i64 prm) /\ u.cell? ⟨w.heap.size,3,none⟩ = some (.int .i64 need)):=zH (fun u hu=>by
  have hh:=(hu.block _ hws).trans HX0.out
  exact ⟨(cR 0 hh).trans rfl,(cR 1 hh).trans rfl,(cR 2 hh).trans rfl,(cR 3 hh).trans rfl⟩)
 have CT:=zH (fun r hr=>Zff A c Ss pat prm need W0 HPR.out hn r hr)
 obtain ⟨c0,c1,c2,c3⟩:=HCP.out W0 bR
 have HEL:=zH (hL.below HB0.out)
 have CE:=zH (fun u (hu:Below W0.heap.size W0 u) r hr=>Zes B d L u (HEL.out.below hu) hm r hr)
 clear h hL
 go_enter Tryz.func8,Tryz.ntmps8
 go_upto_region 1 with fail
 rw [<- hW0]
 clear hW0
 cases ht:ZaR Ss with
 | false=>
  as_aux_lemma=>
  have C1:=zH (CT.out false (zH ht))
  clear ht CT CE
  go_wp2_with fail
  refine C1.out.mono ?_
  rintro e w1 ⟨rfl,hb1⟩
  have HB1:=zH (HB0.out.trans (hb1.mono HB0.out.size))
  clear hb1 C1
  go_wp2_with fail
  refine (YW w1).mono ?_
  rintro e w9 ⟨rfl,hb9⟩
  go_wp2_with fail
  go_ret
  exact ⟨rfl,HB1.out.trans (hb9.mono HB1.out.size)⟩
 | true=>
  have C1:=zH (CT.out true (zH ht))
  have HT:=zH (ZaQ.1 ht)
  have HP:=zH (HPR.out.plm ht)
  obtain ⟨Ps,hPs⟩:∃ Ps,Ps = Ss.map SlM.pure:=⟨_,rfl⟩
  have HPS:=zH hPs
  rw [<- hPs] at HP
  have hS30:Ss.length <= 30:=HT.out.1
  have HSZ:Hid (∀ s ∈ Ss,s.nm.size <= 1000000 /\ ∀ v ∈ s.vs,v.size <= 1000000):=zH (fun s hs=>by
   obtain ⟨_,a2,_,_,a5⟩:=HT.out.2 s hs
   exact ⟨by omega,fun v hv=>by have:=a5 v hv;omega⟩)
  have HVL:Hid (∀ s ∈ Ss,s.vs.length <= 1000000):=zH (fun s hs=>by
   obtain ⟨a1,_⟩:=HT.out.2 s hs
   omega)
  have HFW:Hid (∀ s ∈ Ss,Few s.L 40000 /\ Few s.S 40000):=zH (fun s hs=>by
   obtain ⟨_,_,a3,a4,_⟩:=HT.out.2 s hs
   unfold XO at a3 a4
   rw [Bool.and_eq_true,decide_eq_true_eq,decide_eq_true_eq] at a3 a4
   exact ⟨⟨tR a3.1 (by decide),tR a3.2 (by decide)⟩,⟨tR a4.1 (by decide),tR a4.2 (by decide)⟩⟩)
  have CP:=zH (fun u (hu:Below W0.heap.size W0 u) r hr=>ZdE A c Ss Ps pat prm need u (HP.out.below hu) HSZ HVL HFW (by omega) r hr)
  clear ht CT hPs
  cases he:UU L with
  | false=>
   as_aux_lemma=>
   have C3:=zH (fun u hu=>CE.out u hu false (zH he))
   clear he CE CP
   go_wp2_with fail
   refine C1.out.mono ?_
   rintro e w1 ⟨rfl,hb1⟩
   have HB1:=zH hb1
   clear hb1 C1 c0 c1 c2 c3
   go_wp2_with fail
   refine (C3.out w1 HB1.out).mono ?_
   rintro e w2 ⟨rfl,hb2⟩
   have HB2:=zH (HB0.out.trans ((HB1.out.trans (hb2.mono HB1.out.size)).mono HB0.out.size))
   clear hb2 C3
   go_wp2_with fail
   refine (YW w2).mono ?_
   rintro e w9 ⟨rfl,hb9⟩
   go_wp2_with fail
   go_ret
   exact ⟨rfl,HB2.out.trans (hb9.mono HB2.out.size)⟩
  | true=>
  have C3:=zH (fun u hu=>CE.out u hu true (zH he))
  have HEV:=zH he
  clear he CE
  cases hp:Va pat prm need Ps with
  | false=>
   as_aux_lemma=>
   have C2:=zH (fun u hu=>CP.out u hu false (zH hp))
   clear hp CP
   go_wp2_with fail
   refine C1.out.mono ?_
   rintro e w1 ⟨rfl,hb1⟩
   have HB1:=zH hb1
   clear hb1 C1 c0 c1 c2 c3
   go_wp2_with fail
   refine (C3.out w1 HB1.out).mono ?_
   rintro e w2 ⟨rfl,hb2⟩
   have HB2:=zH (HB1.out.trans (hb2.mono HB1.out.size))
   obtain ⟨d0,d1,d2,d3⟩:=HCP.out w2 HB2.out
   clear hb2 C3
   go_wp2_with fail
   refine (C2.out w2 HB2.out).mono ?_
   rintro e w3 ⟨rfl,hb3⟩
   have HB3:=zH (HB0.out.trans ((HB2.out.trans (hb3.mono HB2.out.size)).mono HB0.out.size))
   clear hb3 C2
   go_wp2_with fail
   refine (YW w3).mono ?_
   rintro e w9 ⟨rfl,hb9⟩
   go_wp2_with fail
   go_ret
   exact ⟨rfl,HB3.out.trans (hb9.mono HB3.out.size)⟩
  | true=>
   as_aux_lemma=>
   have C2:=zH (fun u hu=>CP.out u hu true (zH hp))
   have HPB:=zH hp
   clear hp CP
   go_wp2_with fail
   refine C1.out.mono ?_
   rintro e w1 ⟨rfl,hb1⟩
   have HB1:=zH hb1
   clear hb1 C1 c0 c1 c2 c3
   go_wp2_with fail
   refine (C3.out w1 HB1.out).mono ?_
   rintro e w2 ⟨rfl,hb2⟩
   have HB2:=zH (HB1.out.trans (hb2.mono HB1.out.size))
   obtain ⟨d0,d1,d2,d3⟩:=HCP.out w2 HB2.out
   clear hb2 C3 HB1
   go_wp2_with fail
   refine (C2.out w2 HB2.out).mono ?_
   rintro e w3 ⟨rfl,hb3⟩
   have HB3:=zH (HB2.out.trans (hb3.mono HB2.out.size))
   obtain ⟨e0,e1,e2,e3⟩:=HCP.out w3 HB3.out
   clear hb3 C2 d0 d1 d2 d3 HB2
   go_wp2_with fail
   refine (ZeW A c Ss Ps pat prm need w3 (HP.out.below HB3.out) HSZ HVL HPB).mono ?_
   rintro e w4 ⟨a0,rfl,hd,hq,hg,hb4⟩
   have HB4:=zH (HB3.out.trans (hb4.mono HB3.out.size))
   have HD4:=zH hd
   have HN:=zH (show W0.heap.size <= a0.q /\ W0.heap.size <= a0.gF from ⟨tR HB3.out.size hq,tR HB3.out.size hg⟩)
   have HGI:Hid (GrI Ps (Zco pat prm need Ps)):=zH (GrI.new pat prm need Ps)
   have HK0:=zH (ZhV HPB.out)
   have HPL:Hid (Ps.length = Ss.length):=zH (by rw [HPS.out];simp)
   have h04:=HB4.out.size
   have hl30:L.length <= 30:=by have h9:=HEV.out;unfold UU at h9;rw [Bool.and_eq_true,decide_eq_true_eq] at h9;exact h9.2
   have HLT:Hid (∀ E ∈ L,XO E.W = true):=zH (fun E hE=>by
    have h9:=HEV.out
    unfold UU at h9
    rw [Bool.and_eq_true,List.take_of_length_le (by omega),List.all_eq_true] at h9
    have h8:=h9.1 E hE
    unfold YC at h8
    rw [Bool.and_eq_true] at h8
    exact h8.1)
   clear hd hq hg hb4 e0 e1 e2 e3 HEV
   go_wp2_with fail
   go_loopw [7,8,9,10,11,12,13,14,15,16,17,18,19,20] (fun i _ _ _ _ _ _ _ _ _ _ _ _ _ wr=>∃ k:Nat,k <= L.length /\ i = .int .i64 k /\ Hid (∃ a D,DlM wr w4.heap.size a D /\ DlK k D /\ GrI Ps D /\ D.need = need /\ Chg w4 wr a0 a)) (fun i _ _ _ _ _ _ _ _ _ _ _ _ _ _=>L.length - (intOf i).toNat)
   case atStart=>exact ⟨0,by omega,rfl,zH ⟨a0,_,HD4.out,HK0.out,HGI.out,rfl,Chg.of_below bR⟩⟩
   case round=>
    as_aux_lemma=>
    obtain ⟨k,hk,rfl,HR⟩:=hrel
    clear HGI HK0
    obtain ⟨W5,rfl⟩:∃ x,x = wr:=⟨_,rfl⟩
    obtain ⟨a,D,hD,hK,hI,hNd,hC⟩:=HR.out
    have HD:=zH hD
    have HK:=zH hK
    have HI:=zH hI
    have HC:=zH hC
    have HND:=zH hNd
    have HBL:Hid (Below W0.heap.size W0 W5):=zH (HB4.out.trans (hC.bel HD4.out h04 HN.out.1 HN.out.2 h04))
    have HAQ:Hid (a.q = a0.q):=zH hC.same.1
    clear hD hK hI hC hNd HR
    by_cases hlt:k < L.length
    ·obtain ⟨be,oe,rfl,hbe,hce⟩:=HEL.out.at_ hlt
     have HER:=zH (HEL.out.ok _ (gM hlt))
     have HFE:=zH (Zq (HLT.out _ (gM hlt)))
     have HCE:Hid (∀ u,Below W0.heap.size W0 u -> ∀ (j:Nat) (v:Value),(evc L[k])[j]? = some v -> u.cell? ⟨be,oe + k * 6 + j,none⟩ = some v):=zH (fun u hu j v hv=>(hu.cell (p:=⟨be,oe + k * 6 + j,none⟩) hbe).trans (hce j v hv))
     clear hce
     generalize L[k] = E at *
     obtain ⟨q,hq⟩:∃ q,q = fq E.W.neg (vl E.W.N).toNat (vl E.W.D).toNat:=⟨_,rfl⟩
     have HFV:Hid (Fv W0 E.W q):=zH ⟨HER.out.W.n,HER.out.W.d,hq.symm⟩
     obtain ⟨R,hR⟩:∃ R,R = XW D ⟨E.kind,E.val,q,E.at_⟩:=⟨_,rfl⟩
     have HRE:=zH hR
     have hf1:=HD.out.few HK.out (by omega)
     have CS:=zH (Qb w4.heap.size a D W5 HD.out hf1.1 (zH hf1.2))
     simp only [HAQ.out] at CS
     have hFl:D.F.length = Ss.length:=by rw [HI.out.len,HPL.out]
     have HFL:=zH hFl
     clear hq hR hf1 hFl
     go_wp2_with fail
     refine CS.out.mono ?_
     rintro e w6 ⟨SA,Sc,Fm,rfl,ho6,hr6,hp6,hb6⟩
     have hFm:Fm.length = Ss.length:=by rw [<- HFL.out,<- hp6];simp
     obtain ⟨V6,hV6⟩:∃ V6:World,V6 = w6.alloc (.cells #[.slice SA Fm.length Sc,.int .i64 D.bad,.bool (D.stand == 1),.bool (D.stand == 2),.int .i64 D.cuts] 65):=⟨_,rfl⟩
     have h66:Below w6.heap.size w6 V6:=by rw [hV6];exact bR.alloc nR _
     have HB6:Hid (Below W5.heap.size W5 V6):=zH (hb6.trans (h66.mono hb6.size))
     have HX6:Hid (V6.heap[w6.heap.size]? = some (.cells #[.slice SA Fm.length Sc,.int .i64 D.bad,.bool (D.stand == 1),.bool (D.stand == 2),.int .i64 D.cuts] 65 (0,0))):=zH (by rw [hV6];exact heap_alloc_new w6 _)
     have HO6:=zH (Jg ho6 h66)
     have HR6:=zH (fun f hf=>Jg (hr6 f hf) h66)
     have HP6:=zH hp6
     have HFM:=zH hFm
     have h65:W5.heap.size <= w6.heap.size:=hb6.size
     clear ho6 hr6 hp6 hb6 h66 CS hFm
     go_upto_region 10 with fail
     rw [<- hV6]
     clear hV6
     as_aux_lemma=>
     obtain ⟨qs,qc,qv,qf,qe,hask,hasq⟩:=ZeS HK.out
     have HASQ:=zH hasq
     have CA:=zH (Ze3 k w4.heap.size a D V6 (HD.out.below HB6.out) HK.out)
     simp only [HAQ.out] at CA
     rw [hask] at CA
     clear hask hasq
     go_wp2_with fail
     refine CA.out.mono ?_
     rintro e w7 ⟨rfl,hb7⟩
     obtain ⟨V7,hV7⟩:∃ V7:World,V7 = w7.alloc (.cells #[.int .i64 qs,.bool qc,.string qv,.int .i64 qf] 69):=⟨_,rfl⟩
     have h67:Below V6.heap.size V6 V7:=by rw [hV7];exact hb7.alloc hb7.size _
     have HB7:Hid (Below W5.heap.size W5 V7):=zH (HB6.out.trans (h67.mono HB6.out.size))
     have HX7:Hid (V7.heap[w6.heap.size]? = some (.cells #[.slice SA Fm.length Sc,.int .i64 D.bad,.bool (D.stand == 1),.bool (D.stand == 2),.int .i64 D.cuts] 65 (0,0))):=zH ((h67.block _ (aE HX6.out).1).trans HX6.out)
     have HY7:Hid (V7.heap[w7.heap.size]? = some (.cells #[.int .i64 qs,.bool qc,.string qv,.int .i64 qf] 69 (0,0))):=zH (by rw [hV7];exact heap_alloc_new w7 _)
     have h57:W5.heap.size <= w7.heap.size:=tR HB6.out.size hb7.size
     have HO7:=zH (Jg HO6.out h67)
     have HR7:=zH (fun f hf=>Jg (HR6.out f hf) h67)
     have HH:=zH (ZcF k w4.heap.size a D E q V7 (HD.out.below HB7.out) HK.out (by omega) (HFV.out.below (HBL.out.trans (HB7.out.mono HBL.out.size))) HFE.out (Zg1 HER.out.kind) R (zH HRE.out.symm))
     simp only [HAQ.out] at HH
     have hce:∀ (j:Nat) (v:Value),(evc E)[j]? = some v -> V7.cell? ⟨be,oe + k * 6 + j,none⟩ = some v:=HCE.out V7 (HBL.out.trans (HB7.out.mono HBL.out.size))
     have k0:=hce 0 _ rfl
     have k1:=hce 1 _ rfl
     have k2:=hce 2 _ rfl
     have k3:=hce 3 _ rfl
     have k4:=hce 4 _ rfl
     have k5:=hce 5 _ rfl
     rw [Nat.add_zero] at k0
     clear hce hb7 h67 CA HX6 HO6 HR6
     go_upto_region 11 with fail
     rw [<- hV7]
     clear hV7
     go_wp2_with fail
     refine HH.out.mono ?_
     rintro e w8 ⟨a',rfl,hd8,hc8⟩
     have HD8:=zH hd8
     have HC8:=zH hc8
     have HK8:Hid (DlK ((k + 1:Nat):Int) R.2):=zH (by have h9:=Zak HK.out ⟨E.kind,E.val,q,E.at_⟩;rw [<- HRE.out] at h9;simpa using h9)
     have HK2L:Hid (R.2.F.length = D.F.length):=zH (by
      have h1:=HK8.out.len
      have h2:=HK.out.len
      have h3:R.2.S = D.S:=by
       rw [HRE.out]
       by_cases h0:(XW D ⟨E.kind,E.val,q,E.at_⟩).1 = 0
       ·rw [(Uu h0).2.2.1,(Zcy _ _).S,(UV _ _).1]
       ·rw [Zcs h0]
      rw [h1,h2,h3])
     have HAQ8:Hid (a'.q = a0.q):=zH (hc8.same.1.trans HAQ.out)
     have HST8:=zH (StM.young hc8 HD.out HO7.out HR7.out)
     have HX8:=zH ((hc8.young HD.out h65 (aE HX7.out).1).trans HX7.out)
     have HY8:=zH ((hc8.young HD.out h57 (aE HY7.out).1).trans HY7.out)
     have HCN:Hid (Chg w4 w8 a0 a'):=zH (HC.out.trans ((Chg.of_below HB7.out).trans hc8))
     have HB8:Hid (Below W0.heap.size W0 w8):=zH (HB4.out.trans (HCN.out.bel HD4.out h04 HN.out.1 HN.out.2 h04))
     clear hd8 hc8 HH k0 k1 k2 k3 k4 k5 HX7 HY7 HO7 HR7
     as_aux_lemma=>
     have hf2:=HD8.out.few HK8.out (by omega)
     have CS:=zH (Qb w4.heap.size a' R.2 w8 HD8.out hf2.1 (zH hf2.2))
     simp only [HAQ8.out] at CS
     clear hf2
     go_wp2_with fail
     refine CS.out.mono ?_
     rintro e w9 ⟨TA,Tc,Gm,rfl,ho9,hr9,hp9,hb9⟩
     have hGm:Gm.length = Ss.length:=by rw [<- HFL.out,<- HK2L.out,<- hp9];simp
     obtain ⟨V9,hV9⟩:∃ V9:World,V9 = w9.alloc (.cells #[.slice TA Gm.length Tc,.int .i64 R.2.bad,.bool (R.2.stand == 1),.bool (R.2.stand == 2),.int .i64 R.2.cuts] 65):=⟨_,rfl⟩
     have h99:Below w9.heap.size w9 V9:=by rw [hV9];exact bR.alloc nR _
     have h89:Below w8.heap.size w8 V9:=hb9.trans (h99.mono hb9.size)
     have HB9:=zH h89
     have HX9:Hid (V9.heap[w6.heap.size]? = some (.cells #[.slice SA Fm.length Sc,.int .i64 D.bad,.bool (D.stand == 1),.bool (D.stand == 2),.int .i64 D.cuts] 65 (0,0))):=zH ((h89.block _ (aE HX8.out).1).trans HX8.out)
     have HY9:Hid (V9.heap[w7.heap.size]? = some (.cells #[.int .i64 qs,.bool qc,.string qv,.int .i64 qf] 69 (0,0))):=zH ((h89.block _ (aE HY8.out).1).trans HY8.out)
     have HZ9:Hid (V9.heap[w9.heap.size]? = some (.cells #[.slice TA Gm.length Tc,.int .i64 R.2.bad,.bool (R.2.stand == 1),.bool (R.2.stand == 2),.int .i64 R.2.cuts] 65 (0,0))):=zH (by rw [hV9];exact heap_alloc_new w9 _)
     have HSA:=zH (HST8.out.below h89)
     have HSB:Hid (StM V9 TA Gm):=zH ⟨(Lies.of_own (Jg ho9 h99)),fun f hf=>Lies.of_own (Jg (hr9 f hf) h99)⟩
     have HP9:=zH hp9
     have HW9:Hid (Below W0.heap.size W0 V9):=zH (HB8.out.trans (h89.mono HB8.out.size))
     have HD9:=zH (HD8.out.below h89)
     have HCV:Hid (Chg w4 V9 a0 a'):=zH (HCN.out.trans (Chg.of_below h89))
     have q1:((Fm.length:Int) != (Ss.length:Int)) = false:=by rw [HFM.out];simp
     have q2:((Gm.length:Int) != (Ss.length:Int)) = false:=by rw [hGm];simp
     have HGM:=zH hGm
     obtain ⟨p0,p1,p2,p3⟩:=HCP.out V9 HW9.out
     have x0:V9.cell? ⟨w6.heap.size,0,none⟩ = some (.slice SA Fm.length Sc):=(cR 0 HX9.out).trans rfl
     have z0:V9.cell? ⟨w9.heap.size,0,none⟩ = some (.slice TA Gm.length Tc):=(cR 0 HZ9.out).trans rfl
     clear ho9 hr9 hp9 hb9 h89 h99 hGm CS HX8 HY8 HST8 HB8 HCN HD8
     go_upto_region 13 with fail
     rw [<- hV9]
     clear hV9
     as_aux_lemma=>
     by_cases hr0:R.1 = 0
     ·have q3:(R.1 != 0) = false:=by rw [hr0];rfl
      obtain ⟨hG1,hG2⟩:=grd HI.out (by rw [<- HRE.out];exact hr0)
      rw [<- HRE.out] at hG1 hG2
      have HG1:=zH hG1
      have HG2:=zH hG2
      have HS0:Hid (D.stand = 0):=zH (Uu (by rw [<- HRE.out];exact hr0)).1
      have HN9:Hid (R.2.need = need):=zH (by rw [HRE.out,(Uu (by rw [<- HRE.out];exact hr0)).2.2.2,(Zcy _ _).need,(UV _ _).2.2.2.2.1];exact HND.out)
      have hr0':=zH hr0
      clear hr0 hG1 hG2
      go_wp2_with fail
      have HFN:Hid (Fm.length = Ss.length):=HFM
      go_loopw [15,16,17,18,19,20] (fun i _ _ _ _ _ wr=>∃ s:Nat,s <= Ss.length /\ i = .int .i64 s /\ Hid (Below V9.heap.size V9 wr)) (fun i _ _ _ _ _ _=>Ss.length - (intOf i).toNat)
      case atStart=>exact ⟨0,by omega,rfl,zH bR⟩
      case round=>
       as_aux_lemma=>
       obtain ⟨s,hs,rfl,HBS⟩:=hrel
       obtain ⟨W6,rfl⟩:∃ x,x = wr:=⟨_,rfl⟩
       have HW6:=zH (HW9.out.trans (HBS.out.mono HW9.out.size))
       clear x0 z0 p0 p1 p2 p3
       obtain ⟨p0,p1,p2,p3⟩:=HCP.out W6 HW6.out
       by_cases hsl:s < Ss.length
       ·have hx9:=(HBS.out.block _ (aE HX9.out).1).trans HX9.out
        have hz9:=(HBS.out.block _ (aE HZ9.out).1).trans HZ9.out
        have x0:W6.cell? ⟨w6.heap.size,0,none⟩ = some (.slice SA Fm.length Sc):=(cR 0 hx9).trans rfl
        have z0:W6.cell? ⟨w9.heap.size,0,none⟩ = some (.slice TA Gm.length Tc):=(cR 0 hz9).trans rfl
        have hl6:w6.heap.size < W6.heap.size:=(aE hx9).1
        have hl9:w9.heap.size < W6.heap.size:=(aE hz9).1
        have hsF:s < Fm.length:=by rw [HFM.out];exact hsl
        have hsG:s < Gm.length:=by rw [HGM.out];exact hsl
        obtain ⟨ba,oa,rfl,hba,y0,y1,y2⟩:=(HSA.out.below HBS.out).at_ hsF
        obtain ⟨bb,ob,rfl,hbb,v0,v1,v2⟩:=(HSB.out.below HBS.out).at_ hsG
        obtain ⟨bp,op,rfl,hbp,hcp⟩:=HPR.out.at_ hsl
        have HCS:Hid (∀ u,Below W0.heap.size W0 u -> ∀ (j:Nat) (v:Value),(slc Ss[s])[j]? = some v -> u.cell? ⟨bp,op + s * 8 + j,none⟩ = some v):=zH (fun u hu j v hv=>(hu.cell (p:=⟨bp,op + s * 8 + j,none⟩) hbp).trans (hcp j v hv))
        have HSO:=zH (HPR.out.ok _ (gM hsl))
        have HSP:Hid (Ss[s] ∈ Ss):=zH (gM hsl)
        have hps:Ps[s]? = some Ss[s].pure:=by rw [HPS.out,List.getElem?_map,gE hsl];rfl
        have hxx:D.F[s]? = some Fm[s].pure:=by rw [<- HP6.out,List.getElem?_map,gE hsF];rfl
        have hyy:R.2.F[s]? = some Gm[s].pure:=by rw [<- HP9.out,List.getElem?_map,gE hsG];rfl
        have HG:=zH (HG2.out s _ _ _ hxx hyy hps)
        have HI9:=zH (HG1.out.ok s _ _ hyy hps)
        have HAK:Hid (YB D.F = s -> qs = s /\ qc = decide (Fm[s].st = 2) /\ qv = Fm[s].val /\ qf = D.prompt /\ qe = 0):=zH (fun e=>by
         obtain ⟨a1,a2,a3,a4⟩:=HASQ.out HS0.out
         obtain ⟨a5,a6⟩:=a4 _ (by rw [e];exact hxx)
         exact ⟨by rw [a2,e],a5,a6,a3,a1⟩)
        clear hcp hps hxx hyy hx9 hz9
        generalize Ss[s] = so at *
        generalize Fm[s] = x at *
        generalize Gm[s] = y at *
        obtain ⟨xs,xv,xA,xc,xr⟩:=x
        obtain ⟨ys,yv,yA,yc,yr⟩:=y
        simp only [FlM.pure,SlM.pure] at *
        as_aux_lemma=>
        go_upto_region 21 with fail
        go_cut [16,17] from 103 to 286 (fun t16 t17 wx=>∃ k6 k7,t16 = .pointer (some ⟨k6,0,none⟩) /\ t17 = .pointer (some ⟨k7,0,none⟩) /\ Hid (wx.heap[k6]? = some (.cells #[.int .i64 xs,.string xv,.slice xA xr.length xc] 76 (0,0))) /\ Hid (wx.heap[k7]? = some (.cells #[.int .i64 ys,.string yv,.slice yA yr.length yc] 76 (0,0))) /\ Hid (Below W6.heap.size W6 wx))
        case first=>
         as_aux_lemma=>
         have HS2:Hid (∀ u,Below W6.heap.size W6 u -> u.cell? ⟨w6.heap.size,0,none⟩ = some (.slice (some ⟨ba,oa,none⟩) Fm.length Sc) /\ u.cell? ⟨w9.heap.size,0,none⟩ = some (.slice (some ⟨bb,ob,none⟩) Gm.length Tc) /\ u.cell? ⟨ba,oa + s * 3,none⟩ = some (.int .i64 xs) /\ u.cell? ⟨ba,oa + s * 3 + 1,none⟩ = some (.string xv) /\ u.cell? ⟨ba,oa + s * 3 + 2,none⟩ = some (.slice xA xr.length xc) /\ u.cell? ⟨bb,ob + s * 3,none⟩ = some (.int .i64 ys) /\ u.cell? ⟨bb,ob + s * 3 + 1,none⟩ = some (.string yv) /\ u.cell? ⟨bb,ob + s * 3 + 2,none⟩ = some (.slice yA yr.length yc)):=zH (fun u hu=>
          ⟨(hu.cell (p:=⟨w6.heap.size,0,none⟩) hl6).trans x0,(hu.cell (p:=⟨w9.heap.size,0,none⟩) hl9).trans z0,(hu.cell (p:=⟨ba,oa + s * 3,none⟩) hba).trans y0,(hu.cell (p:=⟨ba,oa + s * 3 + 1,none⟩) hba).trans y1,(hu.cell (p:=⟨ba,oa + s * 3 + 2,none⟩) hba).trans y2,(hu.cell (p:=⟨bb,ob + s * 3,none⟩) hbb).trans v0,(hu.cell (p:=⟨bb,ob + s * 3 + 1,none⟩) hbb).trans v1,(hu.cell (p:=⟨bb,ob + s * 3 + 2,none⟩) hbb).trans v2⟩)
         clear x0 z0 y0 y1 y2 v0 v1 v2
         refine Jd (S:=fun w'=>w'.cell? ⟨w6.heap.size,0,none⟩ = some (.slice (some ⟨ba,oa,none⟩) Fm.length Sc) /\ w'.cell? ⟨w9.heap.size,0,none⟩ = some (.slice (some ⟨bb,ob,none⟩) Gm.length Tc) /\ w'.cell? ⟨ba,oa + s * 3,none⟩ = some (.int .i64 xs) /\ w'.cell? ⟨ba,oa + s * 3 + 1,none⟩ = some (.string xv) /\ w'.cell? ⟨ba,oa + s * 3 + 2,none⟩ = some (.slice xA xr.length xc) /\ w'.cell? ⟨bb,ob + s * 3,none⟩ = some (.int .i64 ys) /\ w'.cell? ⟨bb,ob + s * 3 + 1,none⟩ = some (.string yv) /\ w'.cell? ⟨bb,ob + s * 3 + 2,none⟩ = some (.slice yA yr.length yc)) 14 rfl (by kernel_rfl) (HS2.out _ bR.drew) (fun hHeld=>?_)
         iterate 10 (((refine Ja (v:=?_) rfl (by kernel_rfl) (fun _ _ _ h=>h) ⟨by rfl,?_⟩ hHeld ?_;rotate_left;· intro w' sw;obtain ⟨s1,s2,s3,s4,s5,s6,s7,s8⟩:=sw;go_simp;try with_reducible rfl);simp only [zA,zB,zC]))
         refine ZJ 10 11 rfl rfl (by kernel_rfl) rfl rfl (fun K hK=>?_) (fun K hK=>?_)
         ·go_simp
          refine hK.out _ _ (HS2.out _ ((Below.refl W6.heap.size W6).drew.alloc nR _)) (fun hHeld=>?_)
          clear hK K
          try simp only [zA,zB,zC]
          refine Je 11 rfl (by kernel_rfl) rfl (fun K hK=>?_)
          go_simp
          refine hK.out _ _ (HS2.out _ (((Below.refl W6.heap.size W6).drew.alloc nR _).alloc (by simp) _)) (fun hHeld=>?_)
          clear hK K
          try simp only [zA,zB,zC]
          refine Je 12 rfl (by kernel_rfl) rfl (fun K hK=>?_)
          go_simp
          refine hK.out _ _ (HS2.out _ (((Below.refl W6.heap.size W6).drew.alloc nR _).alloc (by simp) _)) (fun hHeld=>?_)
          clear hK K
          try simp only [zA,zB,zC]
          refine Je 13 rfl (by kernel_rfl) rfl (fun K hK=>?_)
          go_simp
          refine hK.out _ _ (HS2.out _ (((Below.refl W6.heap.size W6).drew.alloc nR _).alloc (by simp) _)) (fun hHeld=>?_)
          clear hK K
          try simp only [zA,zB,zC]
          refine wpAnyH_done (by kernel_rfl) ?_ _
          go_wp2_with fail
          go_meet
          exact ⟨_,_,rfl,rfl,zH (ZO _ _ _),zH (ZN _ _ _),zH (Y1 (al2 _ _ _))⟩
         ·go_simp
          refine hK.out _ _ (HS2.out _ ((Below.refl W6.heap.size W6).drew.alloc nR _)) (fun hHeld=>?_)
          clear hK K
          try simp only [zA,zB,zC]
          refine Je 10 rfl (by kernel_rfl) rfl (fun K hK=>?_)
          go_simp
          refine hK.out _ _ (HS2.out _ (((Below.refl W6.heap.size W6).drew.alloc nR _).alloc (by simp) _)) (fun hHeld=>?_)
          clear hK K
          try simp only [zA,zB,zC]
          refine Je 12 rfl (by kernel_rfl) rfl (fun K hK=>?_)
          go_simp
          refine hK.out _ _ (HS2.out _ (((Below.refl W6.heap.size W6).drew.alloc nR _).alloc (by simp) _)) (fun hHeld=>?_)
          clear hK K
          try simp only [zA,zB,zC]
          refine Je 13 rfl (by kernel_rfl) rfl (fun K hK=>?_)
          go_simp
          refine hK.out _ _ (HS2.out _ (((Below.refl W6.heap.size W6).drew.alloc nR _).alloc (by simp) _)) (fun hHeld=>?_)
          clear hK K
          try simp only [zA,zB,zC]
          refine wpAnyH_done (by kernel_rfl) ?_ _
          go_wp2_with fail
          go_meet
          exact ⟨_,_,rfl,rfl,zH (ZN _ _ _),zH (ZO _ _ _),zH (Y1 (al2 _ _ _))⟩
        case rest=>
         as_aux_lemma=>
         obtain ⟨k6,k7,rfl,rfl,h6,h7,HBX⟩:=hcut
         obtain ⟨W7,rfl⟩:∃ x,x = wc:=⟨_,rfl⟩
         have HW7:=zH (HW6.out.trans (HBX.out.mono HW6.out.size))
         have HV7:=zH (HBS.out.trans (HBX.out.mono HBS.out.size))
         have HCF:Hid (∀ u,Below W7.heap.size W7 u -> u.cell? ⟨k6,0,none⟩ = some (.int .i64 xs) /\ u.cell? ⟨k6,1,none⟩ = some (.string xv) /\ u.cell? ⟨k7,0,none⟩ = some (.int .i64 ys) /\ u.cell? ⟨k7,1,none⟩ = some (.string yv)):=zH (fun u hu=>by
          have g6:=(hu.block _ (aE h6.out).1).trans h6.out
          have g7:=(hu.block _ (aE h7.out).1).trans h7.out
          exact ⟨(cR 0 g6).trans rfl,(cR 1 g6).trans rfl,(cR 0 g7).trans rfl,(cR 1 g7).trans rfl⟩)
         clear h6 h7 x0 z0 y0 y1 y2 v0 v1 v2 p0 p1 p2 p3 HBX
         go_upto_region 22 with fail
         go_cut [144] from 103 to 286 (fun t wx=>t = .bool false /\ Hid (Below W7.heap.size W7 wx))
         case first=>
          as_aux_lemma=>
          obtain ⟨p0,p1,p2,p3⟩:=HCP.out W7 HW7.out
          obtain ⟨f0,f1,f2,f3⟩:=HCF.out W7 bR
          rcases HI9.out with ⟨e1,e2⟩ | ⟨e1,e2⟩
          ·have g1:(ys != 1) = false:=by rw [e1];rfl
           have g2:(ys == 1) = true:=by rw [e1];rfl
           have g3:=Zaa e2
           clear e1 e2
           go_quiet (fail)
           go_wp2_with fail
           go_meet
           exact ⟨rfl,zH (bR.drw _)⟩
          ·have g1:(ys != 1) = true:=by rcases e1 with e1 | e1 <;> rw [e1] <;> rfl
           have g2:(ys == 1) = false:=by rcases e1 with e1 | e1 <;> rw [e1] <;> rfl
           have hs1:=HCS.out W7 HW7.out 1 _ rfl
           have HQ:=zH (fun m=>(Zdd so.A so.c so.vs yv (W7.drewN m) ((HSO.out.lies.below HW7.out).drewN m) HSO.out.len true (zH (decide_eq_true e2))).mono (fun (_:Ending) (w':World) ⟨h1,h2⟩=>⟨h1,⟨0,h2.symm⟩⟩:∀ e w',_ -> e = Ending.returned (.bool true) /\ ∃ k,w' = (W7.drewN m).drewN k))
           clear e1 e2
           go_quiet ((go_at_call 38;exact Calls.quiet_of (HQ.out _)))
           go_wp2_with fail
           go_meet
           exact ⟨rfl,zH (bR.drw _)⟩
         case rest=>
          as_aux_lemma=>
          obtain ⟨rfl,HBX⟩:=hcut
          obtain ⟨W8,rfl⟩:∃ x,x = wc:=⟨_,rfl⟩
          have HW8:=zH (HW7.out.trans (HBX.out.mono HW7.out.size))
          have HV8:=zH (HV7.out.trans (HBX.out.mono HV7.out.size))
          have HCG:Hid (∀ u,Below W8.heap.size W8 u -> u.cell? ⟨k6,0,none⟩ = some (.int .i64 xs) /\ u.cell? ⟨k6,1,none⟩ = some (.string xv) /\ u.cell? ⟨k7,0,none⟩ = some (.int .i64 ys) /\ u.cell? ⟨k7,1,none⟩ = some (.string yv)):=zH (fun u hu=>HCF.out u (HBX.out.trans (hu.mono HBX.out.size)))
          obtain ⟨f0,f1,f2,f3⟩:=HCG.out W8 bR
          clear HBX HCF HI9
          by_cases e3:xs = 3
          ·as_aux_lemma=>
           have g1:(xs == 3) = true:=by rw [e3];rfl
           have g2:(ys == 1) = false:=beq_eq_false_iff_ne.2 (HG.out.1 e3)
           by_cases e4:ys = 3
           ·have g3:(ys == 3) = true:=by rw [e4];rfl
            have g4:(ys != 3) = false:=by rw [e4];rfl
            have hv:=HG.out.2.1 e3 e4
            rw [hv] at f1
            clear e3 e4 hv HG
            go_wp2_with fail
            exact ⟨⟨s + 1,by omega,by go_num,HV8⟩,by simp [intOf];omega⟩
           ·have g3:(ys == 3) = false:=beq_eq_false_iff_ne.2 e4
            have g4:(ys != 3) = true:=bne_iff_ne.2 e4
            clear e3 e4 HG
            go_wp2_with fail
            exact ⟨⟨s + 1,by omega,by go_num,HV8⟩,by simp [intOf];omega⟩
          ·have g1:(xs == 3) = false:=beq_eq_false_iff_ne.2 e3
           by_cases e4:ys = 3
           ·have g4:(ys != 3) = false:=by rw [e4];rfl
            have HC3:=zH (HG.out.2.2 e4 e3)
            clear e3 e4 HG
            go_upto_region 27 with fail
            have HC1:Hid (∀ u,Below W8.heap.size W8 u -> u.cell? ⟨be,oe + k * 6,none⟩ = some (.int .i64 E.kind) /\ u.cell? ⟨be,oe + k * 6 + 1,none⟩ = some (.string E.val) /\ u.cell? ⟨be,oe + k * 6 + 2,none⟩ = some (.bool E.W.neg) /\ u.cell? ⟨be,oe + k * 6 + 3,none⟩ = some (.slice E.W.A E.W.N.length E.W.c) /\ u.cell? ⟨be,oe + k * 6 + 4,none⟩ = some (.slice E.W.B E.W.D.length E.W.d) /\ u.cell? ⟨be,oe + k * 6 + 5,none⟩ = some (.int .i64 E.at_)):=zH (fun u hu=>by
             have h9:=HCE.out u (HW8.out.trans (hu.mono HW8.out.size))
             have h0:=h9 0 _ rfl
             rw [Nat.add_zero] at h0
             exact ⟨h0,h9 1 _ rfl,h9 2 _ rfl,h9 3 _ rfl,h9 4 _ rfl,h9 5 _ rfl⟩)
            have HPC:Hid (∀ u,Below W8.heap.size W8 u -> u.cell? ⟨w.heap.size,0,none⟩ = some (.slice (some ⟨bp,op,none⟩) Ss.length c) /\ u.cell? ⟨w.heap.size,3,none⟩ = some (.int .i64 need) /\ u.cell? ⟨bp,op + s * 8 + 5,none⟩ = some (.bool so.S.neg) /\ u.cell? ⟨bp,op + s * 8 + 6,none⟩ = some (.slice so.S.A so.S.N.length so.S.c) /\ u.cell? ⟨bp,op + s * 8 + 7,none⟩ = some (.slice so.S.B so.S.D.length so.S.d)):=zH (fun u hu=>by
             have h8:=HW8.out.trans (hu.mono HW8.out.size)
             have h9:=HCS.out u h8
             obtain ⟨a0,a1,a2,a3⟩:=HCP.out u h8
             exact ⟨a0,a3,h9 5 _ rfl,h9 6 _ rfl,h9 7 _ rfl⟩)
            have HQU:Hid (∀ u,Below W8.heap.size W8 u -> u.cell? ⟨w7.heap.size,0,none⟩ = some (.int .i64 qs) /\ u.cell? ⟨w7.heap.size,1,none⟩ = some (.bool qc) /\ u.cell? ⟨w7.heap.size,2,none⟩ = some (.string qv) /\ u.cell? ⟨w7.heap.size,3,none⟩ = some (.int .i64 qf)):=zH (fun u hu=>by
             have hh:=((HV8.out.trans (hu.mono HV8.out.size)).block _ (aE HY9.out).1).trans HY9.out
             exact ⟨(cR 0 hh).trans rfl,(cR 1 hh).trans rfl,(cR 2 hh).trans rfl,(cR 3 hh).trans rfl⟩)
            clear f0 f1 f2 f3
            go_cut [18] from 103 to 286 (fun t wx=>∃ b1,t = .bool b1 /\ Hid (E.kind = 4 /\ E.val = yv /\ 0 <= XE (q + -(fq so.S.neg (vl so.S.N).toNat (vl so.S.D).toNat)) -> b1 = true) /\ Hid (Below W8.heap.size W8 wx))
            case first=>
             as_aux_lemma=>
             obtain ⟨e0,e1,e2,e3,e4,e5⟩:=HC1.out W8 bR
             obtain ⟨f0,f1,f2,f3⟩:=HCG.out W8 bR
             by_cases k4:E.kind = 4
             ·have g1:(E.kind == 4) = true:=by rw [k4];rfl
              by_cases hv:E.val = yv
              ·have HS27:Hid (∀ u,Below W8.heap.size W8 u -> u.cell? ⟨be,oe + k * 6,none⟩ = some (.int .i64 E.kind) /\ u.cell? ⟨be,oe + k * 6 + 1,none⟩ = some (.string yv) /\ u.cell? ⟨be,oe + k * 6 + 2,none⟩ = some (.bool E.W.neg) /\ u.cell? ⟨be,oe + k * 6 + 3,none⟩ = some (.slice E.W.A E.W.N.length E.W.c) /\ u.cell? ⟨be,oe + k * 6 + 4,none⟩ = some (.slice E.W.B E.W.D.length E.W.d) /\ u.cell? ⟨w.heap.size,0,none⟩ = some (.slice (some ⟨bp,op,none⟩) Ss.length c) /\ u.cell? ⟨bp,op + s * 8 + 5,none⟩ = some (.bool so.S.neg) /\ u.cell? ⟨bp,op + s * 8 + 6,none⟩ = some (.slice so.S.A so.S.N.length so.S.c) /\ u.cell? ⟨bp,op + s * 8 + 7,none⟩ = some (.slice so.S.B so.S.D.length so.S.d) /\ u.cell? ⟨k7,1,none⟩ = some (.string yv)):=zH (fun u hu=>by
                obtain ⟨a0,a1,a2,a3,a4,-⟩:=HC1.out u hu
                obtain ⟨b0,-,b2,b3,b4⟩:=HPC.out u hu
                obtain ⟨-,-,-,b5⟩:=HCG.out u hu
                rw [hv] at a1
                exact ⟨a0,a1,a2,a3,a4,b0,b2,b3,b4,b5⟩)
               obtain ⟨rr,hrr⟩:∃ rr,XE (q + -(fq so.S.neg (vl so.S.N).toNat (vl so.S.D).toNat)) = rr:=⟨_,rfl⟩
               have CQ:=zH (fun u (hu:Below W8.heap.size W8 u)=>Xt E.W so.S q (fq so.S.neg (vl so.S.N).toNat (vl so.S.D).toNat) u (HFV.out.below (HW8.out.trans (hu.mono HW8.out.size))) (Fv.below ⟨HSO.out.S.n,HSO.out.S.d,rfl⟩ (HW8.out.trans (hu.mono HW8.out.size))) HFE.out (Zq (HT.out.2 so HSP.out).2.2.2.1) rr (zH hrr))
               have HRR:=zH hrr
               clear hv k4 hrr e0 e1 e2 e3 e4 e5 f0 f1 f2 f3
               refine Jd (S:=fun w'=>w'.cell? ⟨be,oe + k * 6,none⟩ = some (.int .i64 E.kind) /\ w'.cell? ⟨be,oe + k * 6 + 1,none⟩ = some (.string yv) /\ w'.cell? ⟨be,oe + k * 6 + 2,none⟩ = some (.bool E.W.neg) /\ w'.cell? ⟨be,oe + k * 6 + 3,none⟩ = some (.slice E.W.A E.W.N.length E.W.c) /\ w'.cell? ⟨be,oe + k * 6 + 4,none⟩ = some (.slice E.W.B E.W.D.length E.W.d) /\ w'.cell? ⟨w.heap.size,0,none⟩ = some (.slice (some ⟨bp,op,none⟩) Ss.length c) /\ w'.cell? ⟨bp,op + s * 8 + 5,none⟩ = some (.bool so.S.neg) /\ w'.cell? ⟨bp,op + s * 8 + 6,none⟩ = some (.slice so.S.A so.S.N.length so.S.c) /\ w'.cell? ⟨bp,op + s * 8 + 7,none⟩ = some (.slice so.S.B so.S.D.length so.S.d) /\ w'.cell? ⟨k7,1,none⟩ = some (.string yv)) 32 rfl (by kernel_rfl) (HS27.out _ bR.drew) (fun hHeld=>?_)
               iterate 28 (((refine Ja (v:=?_) rfl (by kernel_rfl) (fun _ _ _ h=>h) ⟨by rfl,?_⟩ hHeld ?_;rotate_left;· intro w' sw;obtain ⟨s1,s2,s3,s4,s5,s6,s7,s8,s9,s10⟩:=sw;go_simp;try with_reducible rfl);simp only [zA,zB,zC]))
               refine Jo 28 rfl (by kernel_rfl) (by rfl) (fun K hK=>?_)
               go_simp
               refine (CQ.out W8.drew bR.drew).mono ?_
               rintro e u1 ⟨rfl,hb1⟩
               have HBQ:Hid (Below W8.heap.size W8 u1):=zH (Jl hb1)
               clear hb1
               go_simp
               refine hK _ _ (HS27.out u1 HBQ.out) (fun hHeld=>?_)
               clear hK K
               iterate 3 (((refine Ja (v:=?_) rfl (by kernel_rfl) (fun _ _ _ h=>h) ⟨by rfl,?_⟩ hHeld ?_;rotate_left;· intro w' sw;obtain ⟨s1,s2,s3,s4,s5,s6,s7,s8,s9,s10⟩:=sw;go_simp;try with_reducible rfl);simp only [zA,zB,zC]))
               refine wpAnyH_done (by kernel_rfl) ?_ _
               go_wp2_with fail
               go_meet
               exact ⟨decide (0 <= rr),rfl,zH (fun h=>decide_eq_true (by rw [<- HRR.out];exact h.2.2)),HBQ⟩
              ·have g2:=Zb hv
               have HV:=zH hv
               clear hv k4
               go_quiet (fail)
               go_wp2_with fail
               go_meet
               exact ⟨false,rfl,zH (fun h=>absurd h.2.1 HV.out),zH (bR.drw _)⟩
             ·have g1:(E.kind == 4) = false:=beq_eq_false_iff_ne.2 k4
              have HV:=zH k4
              clear k4
              go_quiet (fail)
              go_wp2_with fail
              go_meet
              exact ⟨false,rfl,zH (fun h=>absurd h.1 HV.out),zH (bR.drw _)⟩
            case rest=>
             as_aux_lemma=>
             obtain ⟨b1,rfl,HB1,HBX⟩:=hcut
             obtain ⟨W9,rfl⟩:∃ x,x = wc:=⟨_,rfl⟩
             go_upto_region 28 with fail
             go_cut [19] from 103 to 286 (fun t wx=>∃ b2,t = .bool b2 /\ Hid (E.kind = 4 /\ E.val = yv /\ xs = 2 /\ xv = yv -> b2 = true) /\ Hid (Below W9.heap.size W9 wx))
             case first=>
              as_aux_lemma=>
              obtain ⟨e0,e1,e2,e3,e4,e5⟩:=HC1.out W9 HBX.out
              obtain ⟨f0,f1,f2,f3⟩:=HCG.out W9 HBX.out
              by_cases k4:E.kind = 4
              ·have g1:(E.kind == 4) = true:=by rw [k4];rfl
               by_cases hv:E.val = yv
               ·rw [hv] at e1
                by_cases h2:xs = 2
                ·have g3:(xs == 2) = true:=by rw [h2];rfl
                 by_cases h3:xv = yv
                 ·rw [h3] at f1
                  clear h3 h2 hv k4
                  go_quiet (fail)
                  go_wp2_with fail
                  go_meet
                  exact ⟨true,rfl,zH (fun _=>rfl),zH (bR.drw _)⟩
                 ·have g4:=Zb h3
                  have HV:=zH h3
                  clear h3 h2 hv k4
                  go_quiet (fail)
                  go_wp2_with fail
                  go_meet
                  exact ⟨false,rfl,zH (fun h=>absurd h.2.2.2 HV.out),zH (bR.drw _)⟩
                ·have g3:(xs == 2) = false:=beq_eq_false_iff_ne.2 h2
                 have HV:=zH h2
                 clear h2 hv k4
                 go_quiet (fail)
                 go_wp2_with fail
                 go_meet
                 exact ⟨false,rfl,zH (fun h=>absurd h.2.2.1 HV.out),zH (bR.drw _)⟩
               ·have g2:=Zb hv
                have HV:=zH hv
                clear hv k4
                go_quiet (fail)
                go_wp2_with fail
                go_meet
                exact ⟨false,rfl,zH (fun h=>absurd h.2.1 HV.out),zH (bR.drw _)⟩
              ·have g1:(E.kind == 4) = false:=beq_eq_false_iff_ne.2 k4
               have HV:=zH k4
               clear k4
               go_quiet (fail)
               go_wp2_with fail
               go_meet
               exact ⟨false,rfl,zH (fun h=>absurd h.1 HV.out),zH (bR.drw _)⟩
             case rest=>
              as_aux_lemma=>
              obtain ⟨b2,rfl,HB2,HBY⟩:=hcut
              obtain ⟨W10,rfl⟩:∃ x,x = wc:=⟨_,rfl⟩
              have HBZ:=zH (HBX.out.trans (HBY.out.mono HBX.out.size))
              go_upto_region 29 with fail
              go_cut [20] from 103 to 286 (fun t wx=>∃ b3,t = .bool b3 /\ Hid (E.kind = 2 /\ qe = 0 /\ qs = s /\ qc = true /\ qv = yv /\ qf + need <= E.at_ -> b3 = true) /\ Hid (Below W10.heap.size W10 wx))
              case first=>
               as_aux_lemma=>
               obtain ⟨e0,e1,e2,e3,e4,e5⟩:=HC1.out W10 HBZ.out
               obtain ⟨f0,f1,f2,f3⟩:=HCG.out W10 HBZ.out
               obtain ⟨r0,r3,-,-,-⟩:=HPC.out W10 HBZ.out
               obtain ⟨u0,u1,u2,u3⟩:=HQU.out W10 HBZ.out
               have hqf : 0 <= qf /\ qf <= 1099511627776:=by have h1:=(HASQ.out HS0.out).2.2.1;have h2:=HK.out.prompt;unfold Qp at h2;rw [h1];exact h2
               have hnd : 0 <= need /\ need <= 10000:=by have h2:=HK.out.need;rw [HND.out] at h2;exact h2
               obtain ⟨hqf1,hqf2⟩:=hqf
               obtain ⟨hnd1,hnd2⟩:=hnd
               have hw:wrap64 (qf + need) = qf + need:=by unfold wrap64;omega
               by_cases k2:E.kind = 2
               rotate_left
               ·have g1:(E.kind == 2) = false:=beq_eq_false_iff_ne.2 k2
                have HV:=zH k2
                clear k2
                go_quiet (fail)
                go_wp2_with fail
                go_meet
                exact ⟨false,rfl,zH (fun h=>absurd h.1 HV.out),zH (bR.drw _)⟩
               have g1:(E.kind == 2) = true:=by rw [k2];rfl
               clear k2
               by_cases k2:qe = 0
               rotate_left
               ·have g2:(qe == 0) = false:=beq_eq_false_iff_ne.2 k2
                have HV:=zH k2
                clear k2
                go_quiet (fail)
                go_wp2_with fail
                go_meet
                exact ⟨false,rfl,zH (fun h=>absurd h.2.1 HV.out),zH (bR.drw _)⟩
               have g2:(qe == 0) = true:=by rw [k2];rfl
               clear k2
               by_cases k2:qs = (s:Int)
               rotate_left
               ·have g3:(qs == (s:Int)) = false:=beq_eq_false_iff_ne.2 k2
                have HV:=zH k2
                clear k2
                go_quiet (fail)
                go_wp2_with fail
                go_meet
                exact ⟨false,rfl,zH (fun h=>absurd h.2.2.1 HV.out),zH (bR.drw _)⟩
               have g3:(qs == (s:Int)) = true:=by rw [k2];simp
               clear k2
               by_cases k2:qc = true
               rotate_left
               ·have hf:qc = false:=by simpa using k2
                have HV:=zH k2
                rw [hf] at u1
                clear hf k2
                go_quiet (fail)
                go_wp2_with fail
                go_meet
                exact ⟨false,rfl,zH (fun h=>absurd h.2.2.2.1 HV.out),zH (bR.drw _)⟩
               rw [k2] at u1
               clear k2
               by_cases k2:qv = yv
               rotate_left
               ·have g4:=Zb k2
                have HV:=zH k2
                clear k2
                go_quiet (fail)
                go_wp2_with fail
                go_meet
                exact ⟨false,rfl,zH (fun h=>absurd h.2.2.2.2.1 HV.out),zH (bR.drw _)⟩
               rw [k2] at u2
               clear k2
               go_quiet (fail)
               go_wp2_with fail
               go_meet
               exact ⟨decide (qf + need <= E.at_),rfl,zH (fun h=>decide_eq_true h.2.2.2.2.2),zH (bR.drw _)⟩
              case rest=>
               as_aux_lemma=>
               obtain ⟨b3,rfl,HB3,HBW⟩:=hcut
               have HVN:=zH (HV8.out.trans ((HBZ.out.trans (HBW.out.mono HBZ.out.size)).mono HV8.out.size))
               have HBB:Hid (b1 = true ∨ b2 = true ∨ b3 = true):=zH (by
                rcases HC3.out with h | h | ⟨h1,h2,h3,h4,h5,h6⟩
                ·exact .inl (HB1.out h)
                ·exact .inr (.inl (HB2.out h))
                ·obtain ⟨a1,a2,a3,a4,a5⟩:=HAK.out h3
                 exact .inr (.inr (HB3.out ⟨h1,a5,a1,by rw [a2];exact decide_eq_true h4,by rw [a3];exact h5,by rw [a4,<- HND.out];exact h6⟩)))
               clear HC3 HAK HB1 HB2 HB3
               cases b1 with
               | true=>
                clear HBB
                go_wp2_with fail
                exact ⟨⟨s + 1,by omega,by go_num,HVN⟩,by simp [intOf];omega⟩
               | false=>
                cases b2 with
                | true=>
                 clear HBB
                 go_wp2_with fail
                 exact ⟨⟨s + 1,by omega,by go_num,HVN⟩,by simp [intOf];omega⟩
                | false=>
                 obtain rfl:b3 = true:=by
                  rcases HBB.out with h | h | h
                  ·cases h
                  ·cases h
                  ·exact h
                 clear HBB
                 go_wp2_with fail
                 exact ⟨⟨s + 1,by omega,by go_num,HVN⟩,by simp [intOf];omega⟩
           ·as_aux_lemma=>
            have g4:(ys != 3) = true:=bne_iff_ne.2 e4
            clear e3 e4 HG
            go_wp2_with fail
            exact ⟨⟨s + 1,by omega,by go_num,HV8⟩,by simp [intOf];omega⟩
       ·have HDX:=zH (HD9.out.below HBS.out)
        have HCX:=zH (HCV.out.trans (Chg.of_below HBS.out))
        go_wp2_with fail
        exact ⟨⟨k + 1,by omega,by go_num,zH ⟨a',R.2,HDX.out,HK8.out,HG1.out,HN9.out,HCX.out⟩⟩,by simp [intOf];omega⟩
     ·
      as_aux_lemma=>
      have q3:(R.1 != 0) = true:=by simpa using hr0
      have hD2:R.2 = D:=by rw [HRE.out];exact Zcs (by rw [<- HRE.out];exact hr0)
      rw [hD2] at HZ9 HP9 HK8 HD9
      have CSS:=zH (VI SA TA Sc Tc Fm Gm D.bad D.cuts (D.stand == 1) (D.stand == 2) V9 HSA.out HSB.out (by rw [HP6.out,HP9.out]) (by rw [HFM.out];omega) (fun f hf=>by
       have h9:f.pure ∈ D.F:=by rw [<- HP6.out];exact List.mem_map_of_mem hf
       have h8:=HK.out.ref _ h9
       have h7:(f.pure).ref.length = f.ref.length:=rfl
       omega))
      have x1:V9.cell? ⟨w6.heap.size,1,none⟩ = some (.int .i64 D.bad):=(cR 1 HX9.out).trans rfl
      have x2:V9.cell? ⟨w6.heap.size,2,none⟩ = some (.bool (D.stand == 1)):=(cR 2 HX9.out).trans rfl
      have x3:V9.cell? ⟨w6.heap.size,3,none⟩ = some (.bool (D.stand == 2)):=(cR 3 HX9.out).trans rfl
      have x4:V9.cell? ⟨w6.heap.size,4,none⟩ = some (.int .i64 D.cuts):=(cR 4 HX9.out).trans rfl
      have z1:V9.cell? ⟨w9.heap.size,1,none⟩ = some (.int .i64 D.bad):=(cR 1 HZ9.out).trans rfl
      have z2:V9.cell? ⟨w9.heap.size,2,none⟩ = some (.bool (D.stand == 1)):=(cR 2 HZ9.out).trans rfl
      have z3:V9.cell? ⟨w9.heap.size,3,none⟩ = some (.bool (D.stand == 2)):=(cR 3 HZ9.out).trans rfl
      have z4:V9.cell? ⟨w9.heap.size,4,none⟩ = some (.int .i64 D.cuts):=(cR 4 HZ9.out).trans rfl
      clear hr0 hD2 HX9 HY9 HZ9 HSA HSB
      go_wp2_with fail
      refine CSS.out.mono ?_
      rintro e w10 ⟨rfl,hb10⟩
      have HDX:=zH (HD9.out.below hb10)
      have HCX:=zH (HCV.out.trans (Chg.of_below hb10))
      clear hb10 CSS x0 x1 x2 x3 x4 z0 z1 z2 z3 z4 p0 p1 p2 p3
      go_wp2_with fail
      exact ⟨⟨k + 1,by omega,by go_num,zH ⟨a',D,HDX.out,HK8.out,HI.out,HND.out,HCX.out⟩⟩,by simp [intOf];omega⟩
    ·have HWL:=zH (HB0.out.trans (HBL.out.mono HB0.out.size))
     go_wp2_with fail
     refine (YW W5).mono ?_
     rintro e w9 ⟨rfl,hb9⟩
     go_wp2_with fail
     go_ret
     exact ⟨rfl,HWL.out.trans (hb9.mono HWL.out.size)⟩
end Go.Proofs.YtcjicjfbippmnaaGreat
