/- TalkHears -/
import Derived.Test.YtcjicjfbippmnaaGreatMTHear41
set_option maxRecDepth 100000
set_option maxHeartbeats 32000000
namespace Go.Proofs.YtcjicjfbippmnaaGreat
open Go.RowKit Ear

theorem Ziu {pat prm need:Int} {S:List PSl} (h:Zq pat prm need S = true):DlK 0 (Q1 pat prm need S):=by
 unfold Zq at h;rw [Wy] at h;obtain ⟨h1,h2,h3,h4,h5,h6,h7,h8⟩:=WaB h.1;have hv:∀ (l:List PSl) (n v:List BA),YK n v l = true -> ∀ p ∈ l,p.vs.length <= 50:=by
  intro l
  induction l with
  | nil=>intro _ _ _ p hp;cases hp
  | cons s l ih=>
   intro n v hg p hp;rw [XQ,Wy] at hg;rcases WE.1 hp with rfl | hp
   ·exact (Zo.1 hg.1).2.2.2.2.2.1
   ·cases hw:J0 v s.vs with
    | none=>rw [hw] at hg;cases hg.2
    | some u=>rw [hw] at hg;exact ih _ _ hg.2 p hp
 refine ⟨by simp [Q1],by simp [Q1];exact h2,hv S _ _ h.2,fun f hf=>?_,⟨h3,h4⟩,⟨h5,h6⟩,⟨h7,by show need <= 10000;omega⟩,⟨by show (0:Int) <= 0;omega,by show (0:Int) <= Z6;unfold Z6;omega⟩,⟨by show (0:Int) <= 0;omega,by show (0:Int) <= 0;omega⟩,⟨by show (0:Int) <= 0;omega,by show (0:Int) <= 0;omega⟩,fun _=>?_⟩
 ·obtain ⟨x,-,rfl⟩:=WaO.1 hf;simp
 ·have h0 : 0 < (Q1 pat prm need S).F.length:=by simp [Q1];omega
  unfold XY;refine List.findIdx_lt_length_of_exists ⟨(Q1 pat prm need S).F[0],gM h0,?_⟩;simp [Q1]
end Go.Proofs.YtcjicjfbippmnaaGreat
namespace Ear
theorem uniqV.of {S:List PSl} {x:BA} (h:S.Pairwise (fun s t=>∀ v ∈ s.vs,v ∉ t.vs)):uniqV S x:=by
 intro i j hi hj h1 h2;rw [WaN] at h;rcases WfI i j with hl | hl | hl
 ·exact absurd h2 (h i j hi hj hl x h1)
 ·exact hl
 ·exact absurd h1 (h j i hj hi hl x h2)
end Ear
namespace Go.Proofs.YtcjicjfbippmnaaGreat
open Go.RowKit Ear

theorem RCh.bel {w w':World} {a a':RdA} (c:RCh w w' a a') {base:Nat} (h:base <= w.heap.size) (hq:base <= a.q):Below base w w':=
 ⟨c.grown.os,c.grown.tape,c.grown.output,c.grown.size,fun b hb=>c.grown.block b (Wk hb h) (by intro e;injection e with e;omega)⟩
theorem Zhz {n:Int} (h : -9223372036854775808 <= n /\ n <= 9223372036854775807):(Lit.int .i64 n).wf = true:=by
 simpa [Lit.wf] using (show IntKind.i64.min <= n /\ n <= IntKind.i64.max from h)
theorem ZaL (A:Option Addr) (c:Nat) (Ss:List SlM) (pat prm need:Int) (B:Option Addr) (d:Nat) (L:List EvM) (w:World) (h:PlR w A Ss) (hn:Ss.length <= 9223372036854775807) (hL:EvL w B L) (hm:L.length <= 9223372036854775807) :
  Calls Tryz.prog 7 #[.agg #[.slice A Ss.length c,.int .i64 pat,.int .i64 prm,.int .i64 need],.slice B L.length d] w (Qp true w):=by
 obtain ⟨W0,hW0⟩:∃ W0:World,W0 = w.alloc (.cells #[.slice A Ss.length c,.int .i64 pat,.int .i64 prm,.int .i64 need] 48):=⟨_,rfl⟩;have HB0:Hid (Below w.heap.size w W0):=zH (by rw [hW0];exact bR.alloc nR _);have HX0:Hid (W0.heap[w.heap.size]? = some (.cells #[.slice A Ss.length c,.int .i64 pat,.int .i64 prm,.int .i64 need] 48 (0,0))):=zH (by rw [hW0];exact Wg w _);have hws:w.heap.size < W0.heap.size:=(aE HX0.out).1;have HPR:=zH (h.below HB0.out);have HCP:Hid (∀ u,Below W0.heap.size W0 u -> u.cell? ⟨w.heap.size,0,none⟩ = some (.slice A Ss.length c) /\ u.cell? ⟨w.heap.size,1,none⟩ = some (.int .i64 pat) /\ u.cell? ⟨w.heap.size,2,none⟩ = some (.int .i64 prm) /\ u.cell? ⟨w.heap.size,3,none⟩ = some (.int .i64 need)):=zH (fun u hu=>by
  have hh:=(hu.block _ hws).trans HX0.out;exact ⟨(cR 0 hh).trans rfl,(cR 1 hh).trans rfl,(cR 2 hh).trans rfl,(cR 3 hh).trans rfl⟩)
 have CT:=zH (fun r hr=>ZfD A c Ss pat prm need W0 HPR.out hn r hr);obtain ⟨c0,c1,c2,c3⟩:=HCP.out W0 bR;have HEL:=zH (hL.below HB0.out);have CE:=zH (fun u (hu:Below W0.heap.size W0 u) r hr=>ZeV B d L u (HEL.out.below hu) hm r hr);clear h hL;go_enter Tryz.func7,Tryz.ntmps7;go_upto_region 1 with fail;rw [<- hW0];clear hW0;cases ht:Zbb Ss with
 | false=>
  as_aux_lemma=>
  have C1:=zH (CT.out false (zH ht));clear ht CT CE;go_wp2_with fail;refine C1.out.mono ?_;rintro e w1 ⟨rfl,hb1⟩;have HB1:=zH (HB0.out.trans (hb1.mono HB0.out.size));clear hb1 C1;go_wp2_with fail;refine (Y9 w1).mono ?_;rintro e w9 ⟨rfl,hb9⟩;go_wp2_with fail;go_ret;exact ⟨rfl,HB1.out.trans (hb9.mono HB1.out.size)⟩
 | true=>
  have C1:=zH (CT.out true (zH ht));have HT:=zH (Zba.1 ht);have HP:=zH (HPR.out.plm ht);obtain ⟨Ps,hPs⟩:∃ Ps,Ps = Ss.map SlM.pure:=⟨_,rfl⟩;have HPS:=zH hPs;rw [<- hPs] at HP;have hS30:Ss.length <= 30:=HT.out.1;have HSZ:Hid (∀ s ∈ Ss,s.nm.size <= 1000000 /\ ∀ v ∈ s.vs,v.size <= 1000000):=zH (fun s hs=>by
   obtain ⟨_,a2,_,_,a5⟩:=HT.out.2 s hs;exact ⟨by omega,fun v hv=>by have:=a5 v hv;omega⟩)
  have HVL:Hid (∀ s ∈ Ss,s.vs.length <= 1000000):=zH (fun s hs=>by
   obtain ⟨a1,_⟩:=HT.out.2 s hs;omega)
  have HFW:Hid (∀ s ∈ Ss,Few s.L 40000 /\ Few s.S 40000):=zH (fun s hs=>by
   obtain ⟨_,_,a3,a4,_⟩:=HT.out.2 s hs;unfold XK at a3 a4;rw [Wy,WaR,WaR] at a3 a4;exact ⟨⟨tR a3.1 (by decide),tR a3.2 (by decide)⟩,⟨tR a4.1 (by decide),tR a4.2 (by decide)⟩⟩)
  have CP:=zH (fun u (hu:Below W0.heap.size W0 u) r hr=>Zd5 A c Ss Ps pat prm need u (HP.out.below hu) HSZ HVL HFW (by omega) r hr);clear ht CT hPs;cases he:U6 L with
  | false=>
   as_aux_lemma=>
   have C3:=zH (fun u hu=>CE.out u hu false (zH he));clear he CE CP;go_wp2_with fail;refine C1.out.mono ?_;rintro e w1 ⟨rfl,hb1⟩;have HB1:=zH hb1;clear hb1 C1 c0 c1 c2 c3;go_wp2_with fail;refine (C3.out w1 HB1.out).mono ?_;rintro e w2 ⟨rfl,hb2⟩;have HB2:=zH (HB0.out.trans ((HB1.out.trans (hb2.mono HB1.out.size)).mono HB0.out.size));clear hb2 C3;go_wp2_with fail;refine (Y9 w2).mono ?_;rintro e w9 ⟨rfl,hb9⟩;go_wp2_with fail;go_ret;exact ⟨rfl,HB2.out.trans (hb9.mono HB2.out.size)⟩
  | true=>
  have C3:=zH (fun u hu=>CE.out u hu true (zH he));have HEV:=zH he;clear he CE;cases hp:Zq pat prm need Ps with
  | false=>
   as_aux_lemma=>
   have C2:=zH (fun u hu=>CP.out u hu false (zH hp));have HPB:=zH hp;clear hp CP;go_wp2_with fail;refine C1.out.mono ?_;rintro e w1 ⟨rfl,hb1⟩;have HB1:=zH hb1;clear hb1 C1 c0 c1 c2 c3;go_wp2_with fail;refine (C3.out w1 HB1.out).mono ?_;rintro e w2 ⟨rfl,hb2⟩;have HB2:=zH (HB1.out.trans (hb2.mono HB1.out.size));obtain ⟨d0,d1,d2,d3⟩:=HCP.out w2 HB2.out;clear hb2 C3;go_wp2_with fail;refine (ZgL A c Ss Ps pat prm need w2 (HP.out.below HB2.out) HSZ HPB).mono ?_;rintro e w3 ⟨rfl,hb3⟩;have HB3:=zH (HB2.out.trans (hb3.mono HB2.out.size));obtain ⟨e0,e1,e2,e3⟩:=HCP.out w3 HB3.out;clear hb3 d0 d1 d2 d3;go_wp2_with fail;refine (C2.out w3 HB3.out).mono ?_;rintro e w4 ⟨rfl,hb4⟩;have HB4:=zH (HB0.out.trans ((HB3.out.trans (hb4.mono HB3.out.size)).mono HB0.out.size));clear hb4 C2 e0 e1 e2 e3;go_wp2_with fail;refine (Y9 w4).mono ?_;rintro e w9 ⟨rfl,hb9⟩;go_wp2_with fail;go_ret;exact ⟨rfl,HB4.out.trans (hb9.mono HB4.out.size)⟩
  | true=>
   as_aux_lemma=>
   have C2:=zH (fun u hu=>CP.out u hu true (zH hp));have HPB:=zH hp;clear hp CP;go_wp2_with fail;refine C1.out.mono ?_;rintro e w1 ⟨rfl,hb1⟩;have HB1:=zH hb1;clear hb1 C1 c0 c1 c2 c3;go_wp2_with fail;refine (C3.out w1 HB1.out).mono ?_;rintro e w2 ⟨rfl,hb2⟩;have HB2:=zH (HB1.out.trans (hb2.mono HB1.out.size));obtain ⟨d0,d1,d2,d3⟩:=HCP.out w2 HB2.out;clear hb2 C3 HB1;go_wp2_with fail;refine (Zfl A c Ss Ps pat prm need w2 (HP.out.below HB2.out) HSZ HVL HPB).mono ?_;rintro e w4 ⟨a0,rfl,hd,hq,hg,hb4⟩;have HB4:=zH (HB2.out.trans (hb4.mono HB2.out.size));have HD4:=zH hd;have HN:=zH (show W0.heap.size <= a0.q /\ W0.heap.size <= a0.gF from ⟨tR HB2.out.size hq,tR HB2.out.size hg⟩);obtain ⟨e0,e1,e2,e3⟩:=HCP.out w4 HB4.out;clear hd hq hg hb4 d0 d1 d2 d3 HB2;go_wp2_with fail;refine (C2.out w4 HB4.out).mono ?_;rintro e w5 ⟨rfl,hb5⟩;have HB5:=zH (HB4.out.trans (hb5.mono HB4.out.size));have HX5:=zH hb5;obtain ⟨d0,d1,d2,d3⟩:=HCP.out w5 HB5.out;clear hb5 C2 e0 e1 e2 e3;go_wp2_with fail;refine (Zd4 A c Ss Ps pat prm need w5 (HP.out.below HB5.out) (by omega)).mono ?_;rintro e w6 ⟨b0,rfl,hr6,hq6,hA6,hS6,hF6,hL6,hb6⟩;have HB6:=zH (HB5.out.trans (hb6.mono HB5.out.size));have HX6:=zH (HX5.out.trans (hb6.mono HX5.out.size));have HR6:=zH hr6;have HNB:Hid (W0.heap.size <= b0.q):=zH (tR HB5.out.size hq6);have h04:=HB4.out.size;have HD6:=zH (HD4.out.below HX6.out);have HPA6:Hid (b0.PA = A /\ b0.Ss = Ss):=zH ⟨hA6,hS6⟩;have h1n : 0 < Ps.length:=by
    have h:=(Zbj HPB.out).1.1;omega
   have HS6:Hid (Sep w6 w4.heap.size a0 b0):=zH ⟨tR HX5.out.size hq6,fun g hg=>by
    have h1:=hL6 g hg;obtain ⟨b9,o9,e9,hl9,-⟩:=hr6.row (by rw [JN,hF6,WbL,HP.out.len];omega);rw [e9] at hg;have hg:some b9 = some g:=hg;injection hg with hg
    subst hg;refine ⟨tR HX5.out.size h1,hl9,fun x hx e=>?_⟩;have:=((HD4.out.ref x hx).lt b9 (by rw [Jm];exact e)).2;have:=HX5.out.size;omega,fun f hf g hg=>by
    rw [hF6] at hf;rw [WbM hf] at hg;cases hg⟩
   have HGI:Hid (GrI Ps (Q1 pat prm need Ps)):=zH (GrI.new pat prm need Ps);have HK0:=zH (Ziu HPB.out);have HSK0:=zH (StdK.new (pat:=pat) (prm:=prm) (need:=need) h1n);have HUQ:Hid (∀ x,uniqV Ps x):=zH (fun x=>uniqV.of (Zbj HPB.out).2.2);have hl30:L.length <= 30:=(by have h9:=HEV.out;unfold U6 at h9;rw [Wy,WaR] at h9;exact h9.2);have HLT:Hid (∀ E ∈ L,XK E.W = true):=zH (fun E hE=>by
    have h9:=HEV.out;unfold U6 at h9;rw [Wy,Wm (by omega),WP] at h9;have h8:=h9.1 E hE;unfold YO at h8;rw [Wy] at h8;exact h8.1)
   clear hr6 hq6 hA6 hS6 hF6 hL6 hb6 d0 d1 d2 d3 HEV HB5 HX5 h1n;go_upto_region 9 with fail
   as_aux_lemma=>
   have CS:=zH (QT 0 w4.heap.size Ps a0 b0 _ w6 HD6.out HR6.out HK0.out (by omega) HSK0.out HGI.out);go_wp2_with fail;refine CS.out.mono ?_;rintro e w7 ⟨rfl,hb7⟩;have HB7:=zH (HB6.out.trans (hb7.mono HB6.out.size));have HD7:=zH (HD6.out.below hb7);have HR7:=zH (HR6.out.below hb7);have HS7:Hid (Sep w7 w4.heap.size a0 b0):=zH (HS6.out.chg (Chg.of_below hb7));clear hb7 CS HS6 HR6 HD6 HB6 HX6;go_wp2_with fail;go_loopw [8] (fun i wr=>∃ k:Nat,k <= L.length /\ i = .int .i64 k /\ Hid (∃ a b D,DlM wr w4.heap.size a D /\ RdM wr b D /\ Sep wr w4.heap.size a b /\ DlK k D /\ GrI Ps D /\ StdK D /\ (a.q = a0.q /\ a.gF = a0.gF) /\ b.q = b0.q /\ (b.PA = A /\ b.Ss = Ss) /\ Below W0.heap.size W0 wr)) (fun i _=>L.length - (intOf i).toNat)
   case atStart=>exact ⟨0,by omega,rfl,zH ⟨a0,b0,_,HD7.out,HR7.out,HS7.out,HK0.out,HGI.out,HSK0.out,⟨rfl,rfl⟩,rfl,HPA6.out,HB7.out⟩⟩
   case round=>
    as_aux_lemma=>
    obtain ⟨k,hk,rfl,HRL⟩:=hrel;clear HGI HK0 HSK0 HD7 HR7 HS7 HB7 HPA6;obtain ⟨Wr,rfl⟩:∃ x,x = wr:=⟨_,rfl⟩;obtain ⟨a,b,D,hD,hR,hSp,hK,hI,hSK,hAQ,hBQ,hPA,hBL⟩:=HRL.out;have HD:=zH hD;have HR:=zH hR;have HSP:=zH hSp;have HK:=zH hK;have HI:=zH hI;have HSK:=zH hSK;have HAQ:=zH hAQ;have HBQ:=zH hBQ;have HPA:=zH hPA;have HBL:=zH hBL;clear hD hR hSp hK hI hSK hAQ hBQ hPA hBL HRL;by_cases hlt:k < L.length
    ·obtain ⟨be,oe,rfl,hbe,hce⟩:=HEL.out.at_ hlt;have hlt':(k:Int) < (L.length:Int):=(by omega);have HER:=zH (HEL.out.ok _ (gM hlt));have HF4:Hid (Few L[k].W 40000):=zH (by
      have a3:=HLT.out _ (gM hlt);unfold XK at a3;rw [Wy,WaR,WaR] at a3;exact ⟨tR a3.1 (by decide),tR a3.2 (by decide)⟩)
     have HCE:Hid (∀ u,Below W0.heap.size W0 u -> ∀ (j:Nat) (v:Value),(evc L[k])[j]? = some v -> u.cell? ⟨be,oe + k * 6 + j,none⟩ = some v):=zH (fun u hu j v hv=>(hu.cell (p:=⟨be,oe + k * 6 + j,none⟩) hbe).trans (hce j v hv));clear hce;generalize L[k] = E at *
     obtain ⟨q,hq⟩:∃ q,q = fq E.W.neg (vl E.W.N).toNat (vl E.W.D).toNat:=⟨_,rfl⟩;have HFV:Hid (Fv W0 E.W q):=zH ⟨HER.out.W.n,HER.out.W.d,hq.symm⟩;obtain ⟨R,hR⟩:∃ R,XD D ⟨E.kind,E.val,q,E.at_⟩ = R:=⟨_,rfl⟩;have HRE:=zH hR;have HK2:Hid (DlK ((k + 1:Nat):Int) R.2):=zH (by have h9:=ZaB HK.out ⟨E.kind,E.val,q,E.at_⟩;rw [hR] at h9;simpa using h9);have HI2:Hid (GrI Ps R.2):=zH (by rw [<- hR];exact HI.out.hear _);have HSK2:Hid (StdK R.2):=zH (by rw [<- hR];exact StdK.hear HK.out HSK.out _);have HSC:Hid (∀ u,Below W0.heap.size W0 u -> u.cell? ⟨be,oe + k * 6,none⟩ = some (.int .i64 E.kind) /\ u.cell? ⟨be,oe + k * 6 + 1,none⟩ = some (.string E.val) /\ u.cell? ⟨be,oe + k * 6 + 2,none⟩ = some (.bool E.W.neg) /\ u.cell? ⟨be,oe + k * 6 + 3,none⟩ = some (.slice E.W.A E.W.N.length E.W.c) /\ u.cell? ⟨be,oe + k * 6 + 4,none⟩ = some (.slice E.W.B E.W.D.length E.W.d) /\ u.cell? ⟨be,oe + k * 6 + 5,none⟩ = some (.int .i64 E.at_)):=zH (fun u hu=>by
      have h:=HCE.out u hu;have h0:=h 0 _ rfl;rw [WaV] at h0;exact ⟨h0,h 1 _ rfl,h 2 _ rfl,h 3 _ rfl,h 4 _ rfl,h 5 _ rfl⟩)
     have HH:=Zc1 k w4.heap.size a D E q Wr.drew (HD.out.below bR.drew) HK.out (by omega) (HFV.out.below (HBL.out.trans bR.drew)) (HF4.out.mono (by decide)) (Zhz HER.out.kind) R HRE;unfold EvM.v at HH;simp only [HAQ.out.1] at HH;replace HH:=zH HH;clear hq hR HCE;go_upto_region 14 with fail
     as_aux_lemma=>
     refine Jd (S:=fun w'=>w'.cell? ⟨be,oe + k * 6,none⟩ = some (.int .i64 E.kind) /\ w'.cell? ⟨be,oe + k * 6 + 1,none⟩ = some (.string E.val) /\ w'.cell? ⟨be,oe + k * 6 + 2,none⟩ = some (.bool E.W.neg) /\ w'.cell? ⟨be,oe + k * 6 + 3,none⟩ = some (.slice E.W.A E.W.N.length E.W.c) /\ w'.cell? ⟨be,oe + k * 6 + 4,none⟩ = some (.slice E.W.B E.W.D.length E.W.d) /\ w'.cell? ⟨be,oe + k * 6 + 5,none⟩ = some (.int .i64 E.at_)) 19 rfl (by kernel_rfl) (HSC.out Wr.drew (HBL.out.trans bR.drew)) (fun hHeld=>?_);iterate 5 (((refine Ja (v:=?_) rfl (by kernel_rfl) (fun _ _ _ h=>h) ⟨by rfl,?_⟩ hHeld ?_;rotate_left;· intro w' sw;obtain ⟨s0,s1,s2,s3,s4,s5⟩:=sw;go_simp;try with_reducible rfl);simp only [zA,zB,zC]))
     refine Jq (i:=6) 59 (v:=?_) rfl rfl (by kernel_rfl) (by kernel_rfl) (by kernel_rfl) (fun _ _ _ h=>h) ⟨by rfl,?_⟩ hHeld ?_;rotate_left
     ·intro w' sw;obtain ⟨s0,s1,s2,s3,s4,s5⟩:=sw;go_simp;try with_reducible rfl
     simp only [zA,zB,zC];refine Jq (i:=7) 60 (v:=?_) rfl rfl (by kernel_rfl) (by kernel_rfl) (by kernel_rfl) (fun _ _ _ h=>h) ⟨by rfl,?_⟩ hHeld ?_;rotate_left
     ·intro w' sw;obtain ⟨s0,s1,s2,s3,s4,s5⟩:=sw;go_simp;try with_reducible rfl
     simp only [zA,zB,zC];refine Jq (i:=8) 61 (v:=?_) rfl rfl (by kernel_rfl) (by kernel_rfl) (by kernel_rfl) (fun _ _ _ h=>h) ⟨by rfl,?_⟩ hHeld ?_;rotate_left
     ·intro w' sw;obtain ⟨s0,s1,s2,s3,s4,s5⟩:=sw;go_simp;try with_reducible rfl
     simp only [zA,zB,zC];refine Jq (i:=9) 62 (v:=?_) rfl rfl (by kernel_rfl) (by kernel_rfl) (by kernel_rfl) (fun _ _ _ h=>h) ⟨by rfl,?_⟩ hHeld ?_;rotate_left
     ·intro w' sw;obtain ⟨s0,s1,s2,s3,s4,s5⟩:=sw;go_simp;try with_reducible rfl
     simp only [zA,zB,zC];refine Jq (i:=10) 63 (v:=?_) rfl rfl (by kernel_rfl) (by kernel_rfl) (by kernel_rfl) (fun _ _ _ h=>h) ⟨by rfl,?_⟩ hHeld ?_;rotate_left
     ·intro w' sw;obtain ⟨s0,s1,s2,s3,s4,s5⟩:=sw;go_simp;try with_reducible rfl
     simp only [zA,zB,zC];refine Je 5 rfl (by kernel_rfl) rfl (fun K hK=>?_);go_simp;refine HH.out.mono ?_;rintro e U1 ⟨a',rfl,hd1,hc1⟩;have HC1:Hid (Chg Wr U1 a a'):=zH ((Chg.of_below bR.drew).trans hc1);have HB1:Hid (Below W0.heap.size W0 U1):=zH (HBL.out.trans (HC1.out.bel HD.out HBL.out.size (by rw [HAQ.out.1];exact HN.out.1) (by rw [HAQ.out.2];exact HN.out.2) h04));have HD1:=zH hd1;have HR1:Hid (RdM U1 b D):=zH (HR.out.chg HD.out HSP.out HC1.out (by rw [HPA.out.1,HPA.out.2,HI.out.hS];exact HP.out.below HB1.out));have HS1:Hid (Sep U1 w4.heap.size a' b):=zH (HSP.out.chg HC1.out);have hC1:=HSC.out U1 HB1.out;clear hd1 hc1;go_simp;refine hK _ _ hC1 (fun hHeld=>?_);clear hK K;refine Je 11 rfl (by kernel_rfl) rfl (fun K hK=>?_);go_simp;have HU:=Zd6 k b D E q U1 HR1.out HK.out (by omega) HSK.out (HFV.out.below HB1.out) HF4.out (by rw [HPA.out.2];exact HFW.out) (by rw [HI.out.hS];exact HUQ.out _) R HRE;unfold EvM.v at HU;simp only [HBQ.out] at HU;refine HU.mono ?_;rintro e U2 ⟨rfl,b',hr2,hc2⟩;have HB2:Hid (Below W0.heap.size W0 U2):=zH (HB1.out.trans (hc2.bel HB1.out.size (by rw [HBQ.out];exact HNB.out)));have HD2:Hid (DlM U2 w4.heap.size a' R.2):=zH (HD1.out.rch HR1.out HS1.out.q hc2);have HS2:Hid (Sep U2 w4.heap.size a' b'):=zH (HS1.out.rch HD1.out hc2);have HR2:=zH hr2;have HPA2:Hid (b'.PA = A /\ b'.Ss = Ss):=zH ⟨hc2.pl.1.trans HPA.out.1,hc2.pl.2.2.trans HPA.out.2⟩;have HBQ2:Hid (b'.q = b0.q):=zH (hc2.q.trans HBQ.out);have HAQ2:Hid (a'.q = a0.q /\ a'.gF = a0.gF):=zH ⟨HC1.out.same.1.trans HAQ.out.1,HC1.out.same.2.trans HAQ.out.2⟩;have hC2:=HSC.out U2 HB2.out;clear hr2 hc2 HU HR1 HS1 HD1 HB1;go_simp;refine hK _ _ hC2 (fun hHeld=>?_);clear hK K;iterate 4 (((refine Ja (v:=?_) rfl (by kernel_rfl) (fun _ _ _ h=>h) ⟨by rfl,?_⟩ hHeld ?_;rotate_left;· intro w' sw;obtain ⟨s0,s1,s2,s3,s4,s5⟩:=sw;go_simp;try with_reducible rfl);simp only [zA,zB,zC]))
     refine Jk 16 rfl (by kernel_rfl) (by rfl) (fun K hK=>?_);go_simp;have HT:=QT ((k + 1:Nat):Int) w4.heap.size Ps a' b' R.2 U2 HD2.out HR2.out HK2.out (by omega) HSK2.out HI2.out;simp only [HBQ2.out,HAQ2.out.1] at HT;refine HT.mono ?_;rintro e U3 ⟨rfl,hb3⟩;have HB3:Hid (Below U2.heap.size U2 U3):=zH hb3;have hC3:=HSC.out U3 (HB2.out.trans (hb3.mono HB2.out.size));clear hb3 HT;go_simp;refine hK _ _ hC3 (fun hHeld=>?_);clear hK K;iterate 2 (((refine Ja (v:=?_) rfl (by kernel_rfl) (fun _ _ _ h=>h) ⟨by rfl,?_⟩ hHeld ?_;rotate_left;· intro w' sw;obtain ⟨s0,s1,s2,s3,s4,s5⟩:=sw;go_simp;try with_reducible rfl);simp only [zA,zB,zC]))
     refine WC (by kernel_rfl) ?_ _;have HBN:Hid (Below W0.heap.size W0 U3):=zH (HB2.out.trans (HB3.out.mono HB2.out.size));have HRN:Hid (∃ a b D,DlM U3 w4.heap.size a D /\ RdM U3 b D /\ Sep U3 w4.heap.size a b /\ DlK ((k + 1:Nat):Int) D /\ GrI Ps D /\ StdK D /\ (a.q = a0.q /\ a.gF = a0.gF) /\ b.q = b0.q /\ (b.PA = A /\ b.Ss = Ss) /\ Below W0.heap.size W0 U3):=zH ⟨a',b',R.2,HD2.out.below HB3.out,HR2.out.below HB3.out,HS2.out.chg (Chg.of_below HB3.out),HK2.out,HI2.out,HSK2.out,HAQ2.out,HBQ2.out,HPA2.out,HBN.out⟩;clear HD2 HR2 HS2 HK2 HI2 HSK2 HAQ2 HBQ2 HPA2 HBN HB2 HB3 HSC HC1;go_wp2_with fail;exact ⟨⟨k + 1,by omega,by go_num,HRN⟩,by simp [intOf];omega⟩
    ·have hlt':¬ (k:Int) < (L.length:Int):=(by omega);have HBW:Hid (Below w.heap.size w Wr):=zH (HB0.out.trans (HBL.out.mono HB0.out.size));go_wp2_with fail;refine (Y9 Wr).mono ?_;rintro e w9 ⟨rfl,hb9⟩;go_wp2_with fail;go_ret;exact ⟨rfl,HBW.out.trans (hb9.mono HBW.out.size)⟩
end Go.Proofs.YtcjicjfbippmnaaGreat
