/- TalkClusters -/
import Derived.Test.YtcjicjfbippmnaaGreatMTClus47
import Derived.OpenShut
import Derived.ProofKit
set_option maxRecDepth 100000
set_option maxHeartbeats 32000000
namespace Go.Proofs.YtcjicjfbippmnaaGreat
open Go.RowKit Ear

theorem Zhk {g:List (List Int)} (h:Zeu g = true):g.length <= 8:=by
 unfold Zeu at h;rw [Bool.and_eq_true] at h;exact of_decide_eq_true h.1
theorem Zhi {n m:Nat} (h:Zhj n m = true):n <= m ∨ n <= 100:=by
 unfold Zhj at h;simp at h;omega
theorem Ud (A:Option Addr) (c:Nat) (G:List Grp) (most:Int) (x:Fr) (w:World) (hA:GG w A G) (hn:G.length <= 9223372036854775807) (hnil:∀ g ∈ G,g.1 = none -> g.2.1 = 0) (hlen:∀ g ∈ G,g.2.2.length <= 9223372036854775807) (hx:FrOk w x) (hxN:x.N.length <= 9223372036854775807) (hxD:x.D.length <= 9223372036854775807) :
  Calls Tryz.prog 5 #[.slice A G.length c,.int .i64 most,x.val] w (Zdn true w):=by
 obtain ⟨W0,hW0⟩:∃ W0:World,W0 = w.alloc (.cells #[.bool x.neg,.slice x.A x.N.length x.c,.slice x.B x.D.length x.d] 28):=⟨_,rfl⟩;have HB0:Hid (Below w.heap.size w W0):=zH (by rw [hW0];exact bR.alloc nR _);have HX0:Hid (Fb W0 w.heap.size x):=zH (by rw [hW0];exact Fb.new w x);have HA0:=zH (hA.below HB0.out);obtain ⟨q,hq⟩:∃ q,q = fq x.neg (vl x.N).toNat (vl x.D).toNat:=⟨_,rfl⟩;have HV0:Hid (Fv W0 x q):=zH ⟨(hx.below HB0.out).n,(hx.below HB0.out).d,hq.symm⟩;have HGL:Hid ((gvs G).length = G.length):=zH (by simp);have HLEN:=zH hlen;have HNIL:=zH hnil;clear hA hx hq hlen hnil;obtain ⟨ok,hok⟩:∃ ok,ok = (Zik 7 (gvs G) && (decide (x.N.length <= 4) && decide (x.D.length <= 4))):=⟨_,rfl⟩;go_enter Tryz.func5,Tryz.ntmps5;go_upto_region 1 with fail;rw [<- hW0];clear hW0;go_cut [5,6,24] from 10 to 25 (fun t5 t6 t24 wx=>t5 = .pointer (some ⟨w.heap.size,0,none⟩) /\ t6 = .bool false /\ t24 = .bool (!ok) /\ Hid (Below W0.heap.size W0 wx))
 case first=>
  have CF:=zH (Zev A c 7 G W0 HA0.out hn (by decide) HLEN _ (zH rfl));obtain ⟨x0,x1,x2,-,-,-⟩:=HX0.out.facts;cases hf:Zik 7 (gvs G) with
  | false=>
   rw [hf] at CF hok;have hz:ok = false:=(by rw [hok];rfl);subst hz;clear hok hf;go_wp2_with fail;refine CF.out.mono ?_;rintro e w' ⟨rfl,rfl⟩;clear CF;go_wp2_with fail;go_meet;exact ⟨rfl,rfl,rfl,zH bR⟩
  | true=>
   rw [hf] at CF hok;by_cases h3:x.N.length <= 4
   ·have hs2:¬ 4 < x.N.length:=(by omega);rw [decide_eq_true h3,Bool.true_and,Bool.true_and] at hok;by_cases h4:x.D.length <= 4
    ·have hs3:¬ 4 < x.D.length:=(by omega);rw [decide_eq_true h4] at hok;subst hok;clear hf;go_wp2_with fail;refine CF.out.mono ?_;rintro e w' ⟨rfl,rfl⟩;clear CF;go_wp2_with fail;go_meet;exact ⟨rfl,rfl,by simp <;> omega,zH bR⟩
    ·have hs3 : 4 < x.D.length:=(by omega);rw [dF h4] at hok;subst hok;clear hf;go_wp2_with fail;refine CF.out.mono ?_;rintro e w' ⟨rfl,rfl⟩;clear CF;go_wp2_with fail;go_meet;exact ⟨rfl,rfl,by simp <;> omega,zH bR⟩
   ·have hs2 : 4 < x.N.length:=(by omega);rw [dF h3,Bool.false_and,Bool.and_false] at hok;subst hok;clear hf;go_wp2_with fail;refine CF.out.mono ?_;rintro e w' ⟨rfl,rfl⟩;clear CF;go_wp2_with fail;go_meet;exact ⟨rfl,rfl,by simp <;> omega,zH bR⟩
 case rest=>
  obtain ⟨rfl,rfl,rfl,HBc⟩:=hcut;have HWc:=zH (HB0.out.trans (HBc.out.mono HB0.out.size));cases ok with
  | false=>
   clear hok;go_wp2_with fail;refine (Yl wc).mono ?_;rintro e w2 ⟨rfl,hb2⟩;go_wp2_with fail;go_ret;exact ⟨rfl,HWc.out.trans (hb2.mono HWc.out.size)⟩
  | true=>
   have hk:=hok.symm;simp only [Bool.and_eq_true,decide_eq_true_eq] at hk;obtain ⟨k1,k6,k7⟩:=hk;have k8:=k1;unfold Zik at k8;rw [Bool.and_eq_true] at k8;have hg100:G.length <= 100:=(by have:=Zhi k8.1;rw [HGL.out] at this;omega);have H8:Hid (∀ g ∈ G,g.2.2.length <= 10000):=zH (fun g hg=>by
    have h2:Zeu (Jk g.2.2) = true:=List.all_eq_true.1 k8.2 _ (List.mem_map_of_mem hg);have:=Zhk h2;simp at this;omega)
   have HXc:=zH (HX0.out.below HBc.out);have HAc:=zH (HA0.out.below HBc.out);have HVc:=zH (HV0.out.below HBc.out);have HFX:Hid (Few x 40000):=zH ⟨tR k6 (by decide),tR k7 (by decide)⟩;have HFY:Hid (Few x 90000):=zH ⟨tR k6 (by decide),tR k7 (by decide)⟩;clear hok k1 k8 k6 k7 HA0 HX0 HV0 HBc;obtain ⟨r,hr⟩:∃ r,r = Zat (gvs G):=⟨_,rfl⟩;have HR:=zH hr.symm;clear hr;obtain ⟨x0,x1,x2,-,-,-⟩:=HXc.out.facts;by_cases h0:r = 0
   ·subst h0;have C3:=zH (fun u (hu:Below wc.heap.size wc u)=>Ux A c G u (HAc.out.below hu) (by omega) H8 HNIL 0 HR);by_cases hm:most < 1
    ·have CW:=zH (Zbm A c G most x wc HAc.out (by omega) H8.out HR hm);go_wp2_with fail;refine CW.out.mono ?_;rintro e w2 ⟨rfl,hb2⟩;have HB2:=zH hb2;clear hb2 CW x0 x1 x2;go_wp2_with fail;refine (C3.out w2 HB2.out).mono ?_;rintro e w3 ⟨rfl,hb3⟩;have HB3:=zH (HB2.out.trans (hb3.mono HB2.out.size));clear hb3 C3;go_wp2_with fail;refine (Yl w3).mono ?_;rintro e w4 ⟨rfl,hb4⟩;go_wp2_with fail;go_ret;exact ⟨rfl,HWc.out.trans ((HB3.out.trans (hb4.mono HB3.out.size)).mono HWc.out.size)⟩
    ·obtain ⟨sg,hsg⟩:∃ sg,sg = Xw q:=⟨_,rfl⟩;have CS:=zH (fun u (hu:Below wc.heap.size wc u)=>ZbI x q u (HVc.out.below hu) hxN sg (zH hsg.symm));have HXC:=zH (fun u (hu:Below wc.heap.size wc u)=>(HXc.out.below hu).facts);by_cases hs:sg < 0
     ·have CW:=zH (Zb3 A c G most x q wc HAc.out (by omega) H8.out HR hm HVc.out HFY.out (by rw [<- hsg];exact hs));clear hsg;go_wp2_with fail;refine CW.out.mono ?_;rintro e w2 ⟨rfl,hb2⟩;have HB2:=zH hb2;clear hb2 CW x0 x1 x2;go_wp2_with fail;refine (C3.out w2 HB2.out).mono ?_;rintro e w3 ⟨rfl,hb3⟩;have HB3:=zH (HB2.out.trans (hb3.mono HB2.out.size));clear hb3 C3;obtain ⟨x0,x1,x2,-,-,-⟩:=HXC.out w3 HB3.out;go_wp2_with fail;refine (CS.out w3 HB3.out).mono ?_;rintro e w4 ⟨rfl,hb4⟩;have HB4:=zH (HB3.out.trans (hb4.mono HB3.out.size));clear hb4 CS x0 x1 x2;go_wp2_with fail;refine (Yl w4).mono ?_;rintro e w5 ⟨rfl,hb5⟩;go_wp2_with fail;go_ret;exact ⟨rfl,HWc.out.trans ((HB4.out.trans (hb5.mono HB4.out.size)).mono HWc.out.size)⟩
     ·have hqs:¬ Xw q < 0:=(by rw [<- hsg];exact hs);have CW:=zH (QR A c G most x q wc HAc.out HR (by omega) HVc.out HFY.out hqs);have HOL:Hid ((Zdk (clu most q G.length (JL (gvs G))) G.length).length = G.length):=zH (Yh _ _ _);have CU:=zH (fun u (hu:Below wc.heap.size wc u) (h60:G.length <= 60)=>ZaC A c G most x q u (HAc.out.below hu) HR (by omega) (HVc.out.below hu) HFX.out hqs h60 HNIL);have hg60:G.length <= 60:=(by have:=(UP HR.out).1;rwa [HGL.out] at this);clear hsg hqs;generalize Zdk (clu most q G.length (JL (gvs G))) G.length = out at *
      go_wp2_with fail;refine CW.out.mono ?_;rintro e w2 ⟨OA,oc,rfl,ho2,hb2⟩;have HO2:=zH (Lies.of_own ho2);have HB2:=zH hb2;clear hb2 ho2 CW x0 x1 x2;rw [HOL.out];go_wp2_with fail;refine (C3.out w2 HB2.out).mono ?_;rintro e w3 ⟨rfl,hb3⟩;have HB3:=zH (HB2.out.trans (hb3.mono HB2.out.size));have HO3:=zH (HO2.out.below hb3);clear hb3 C3 HO2;obtain ⟨x0,x1,x2,-,-,-⟩:=HXC.out w3 HB3.out;go_wp2_with fail;refine (CS.out w3 HB3.out).mono ?_;rintro e w4 ⟨rfl,hb4⟩;have HB4:=zH (HB3.out.trans (hb4.mono HB3.out.size));have HO4:=zH (HO3.out.below hb4);clear hb4 CS x0 x1 x2 HO3;obtain ⟨x0,x1,x2,-,-,-⟩:=HXC.out w4 HB4.out;go_wp2_with fail;refine (CU.out w4 HB4.out hg60).mono ?_;rintro e w5 ⟨UA,uc,rfl,ho5,hb5⟩;have HB5:=zH (HB4.out.trans (hb5.mono HB4.out.size));have CZ:=zH (ZcD OA UA oc uc out out w5 (HO4.out.below hb5) (Lies.of_own ho5) (by rw [HOL.out];omega) (by rw [HOL.out];omega) true (zH (by simp)));rw [HOL.out] at CZ;clear hb5 ho5 CU x0 x1 x2 HO4;rw [HOL.out];go_wp2_with fail;refine CZ.out.mono ?_;rintro e w6 ⟨rfl,n6,rfl⟩;have HB6:=zH (HB5.out.trans ((Ja w5 n6).mono HB5.out.size));clear CZ;go_wp2_with fail;refine (Yl _).mono ?_;rintro e w7 ⟨rfl,hb7⟩;go_wp2_with fail;go_ret;exact ⟨rfl,HWc.out.trans ((HB6.out.trans (hb7.mono HB6.out.size)).mono HWc.out.size)⟩
   ·have q0:(r != 0) = true:=(by simpa using h0);have q1:(r == 0) = false:=(by simpa using h0);have CW:=zH (Zao A c G most x wc HAc.out (by omega) H8.out r HR h0);have C3:=zH (fun u (hu:Below wc.heap.size wc u)=>Ux A c G u (HAc.out.below hu) (by omega) H8 HNIL r HR);clear h0;go_wp2_with fail;refine CW.out.mono ?_;rintro e w2 ⟨rfl,hb2⟩;have HB2:=zH hb2;clear hb2 CW x0 x1 x2;go_wp2_with fail;refine (C3.out w2 HB2.out).mono ?_;rintro e w3 ⟨rfl,hb3⟩;have HB3:=zH (HB2.out.trans (hb3.mono HB2.out.size));clear hb3 C3;go_wp2_with fail;refine (Yl w3).mono ?_;rintro e w4 ⟨rfl,hb4⟩;go_wp2_with fail;go_ret;exact ⟨rfl,HWc.out.trans ((HB3.out.trans (hb4.mono HB3.out.size)).mono HWc.out.size)⟩
end Go.Proofs.YtcjicjfbippmnaaGreat
namespace Go.Proofs.YtcjicjfbippmnaaGreat
open Go.RowKit Go.WideShapes

def Rd {H:Type} (enc:TypeId × Value -> H) (P:Program) (w:World) (t:TypeId) (cs:List Value):Prop:=
 ∃ fuel x,DataW.trod enc P w 0 (fun _=>true) true fuel t cs = some x

section
variable {α:Type} {H:Type} {enc:TypeId × Value -> H} {P:Program} {w:World} {t e:TypeId} {cs:List Value}

theorem Rd.of {v:Value} {d:DataW H} {p:List MemPlace} (h:DataW.Trod enc P w 0 (fun _=>true) true t v d p):Rd enc P w t v.cells.toList:=by
 obtain ⟨fuel,hf⟩:=h;exact ⟨fuel,_,hf⟩
theorem Rd.int {k:IntKind} (ht:P.underlying t = some (.int k)) (h:Rd enc P w t cs):∃ n,cs = [.int k n] /\ k.min <= n /\ n <= k.max:=by
 obtain ⟨fuel,x,hf⟩:=h;cases fuel with
 | zero=>simp [DataW.trod] at hf
 | succ f=>
  unfold DataW.trod at hf;rw [ht] at hf;split at hf <;> simp_all;rename_i h1;obtain ⟨⟨rfl,hw⟩,_⟩:=hf;subst h1;simpa [Lit.wf] using hw
theorem Rd.bool (ht:P.underlying t = some .bool) (h:Rd enc P w t cs):∃ b,cs = [.bool b]:=by
 obtain ⟨fuel,x,hf⟩:=h;cases fuel with
 | zero=>simp [DataW.trod] at hf
 | succ f=>
  unfold DataW.trod at hf;rw [ht] at hf;split at hf <;> simp_all
theorem Rd.struct {fs:Array Field} (ht:P.underlying t = some (.struct fs)) (h:Rd enc P w t cs) :
  cs.length = P.cellsOf t /\ ∀ (i:Nat) (f:Field),fs[i]? = some f -> Rd enc P w f.type ((cs.drop f.offset).take (P.cellsOf f.type)):=by
 obtain ⟨fuel,x,hf⟩:=h;obtain ⟨xs,n,_,_,hl,hlen,hall⟩:=DataW.trod_struct ht hf;refine ⟨hl,fun i f hi=>?_⟩;have h1:i < xs.length:=by rw [hlen];exact (aE hi).1
 exact ⟨n,xs[i],(hall i f hi).trans (gE h1)⟩
theorem ZiP {elem : α -> List Value} {S:Nat}:∀ (l:List α) (a:Addr),(∀ i x,l[i]? = some x -> (elem x).length = S /\ ∀ j,j < S -> w.cell? (a.add (i * S + j)) = (elem x)[j]?) ->
  ∀ k u,(l.flatMap elem)[k]? = some u -> w.cell? (a.add k) = some u:=by
 intro l
 induction l with
 | nil=>intro a _ k u h;simp at h
 | cons x xs ih=>
  intro a h k u hk;obtain ⟨h1,h2⟩:=h 0 x rfl;rw [List.flatMap_cons,List.getElem?_append] at hk;split at hk <;> rename_i hlt
  ·rw [h1] at hlt;have:=h2 k hlt;rw [Nat.zero_mul,Nat.zero_add,hk] at this;exact this
  ·rw [h1] at hk hlt;have h3:=ih (a.add S) (fun i y hy=>by
    obtain ⟨g1,g2⟩:=h (i + 1) y (by simpa using hy);refine ⟨g1,fun j hj=>?_⟩;rw [Addr.add_add,<- g2 j hj];congr 2;rw [Nat.succ_mul];omega) (k - S) u hk
   rw [Addr.add_add] at h3
   rwa [show S + (k - S) = k by omega] at h3

theorem Rd.slice {α:Type} {S:Nat} (ht:P.underlying t = some (.slice e)) (hS:P.cellsOf e = S) (elem : α -> List Value) (Pr : α -> Prop)
  (he:∀ cs,Rd enc P w e cs -> ∃ a,cs = elem a /\ Pr a) (h:Rd enc P w t cs) :
  ∃ A c,∃ l:List α,cs = [.slice A l.length c] /\ Lies w A (l.flatMap elem) /\ (A = none -> c = 0 /\ l = []) /\ l.length <= 9223372036854775807 /\ l.length <= c /\ (∀ a ∈ l,Pr a):=by
 obtain ⟨fuel,x,hf⟩:=h;rcases DataW.trod_slice ht hf with ⟨rfl,_⟩ | ⟨a,len,cap,elems,rest,n,_,rfl,_,_,hl,hm,hlen,hel,_,_⟩
 ·exact ⟨none,0,[],rfl,Lies.nil _ _,fun _=>⟨rfl,rfl⟩,by simp,by simp,by simp⟩
 ·have key:∀ i,i < len -> ∃ y,Pr y /\ (elem y).length = S /\ ∀ j,j < S -> w.cell? (a.add (i * S + j)) = (elem y)[j]?:=by
   intro i hi;have h1:=hel i hi;rw [gE (by omega)] at h1;obtain ⟨es,h2,h3⟩:=Option.bind_eq_some_iff.1 h1;obtain ⟨y,rfl,hy⟩:=he es ⟨n,_,h3⟩;obtain ⟨_,h4,h5⟩:=World.cells?_some h2;rw [hS] at h4 h5;refine ⟨y,hy,h4,fun j hj=>?_⟩;rw [<- h5 j hj,Addr.add_add]
  have pick:∀ m,m <= len -> ∃ l:List α,l.length = m /\ ∀ i y,l[i]? = some y -> Pr y /\ (elem y).length = S /\ ∀ j,j < S -> w.cell? (a.add (i * S + j)) = (elem y)[j]?:=by
   intro m
   induction m with
   | zero=>intro _;exact ⟨[],rfl,fun i y hy=>by simp at hy⟩
   | succ m ih=>
    intro hm';obtain ⟨l,hl1,hl2⟩:=ih (by omega);obtain ⟨y,hy⟩:=key m (by omega);refine ⟨l ++ [y],by simp [hl1],fun i z hz=>?_⟩;rw [List.getElem?_append] at hz;split at hz
    ·exact hl2 i z hz
    ·rename_i hge;have hi:i = m:=by
      have:=(List.getElem?_eq_some_iff.1 hz).1;simp at this;omega
     subst hi;rw [hl1,Nat.sub_self] at hz;simp at hz;subst hz;exact hy
  obtain ⟨l,hll,hg⟩:=pick len nR;refine ⟨some a,cap,l,by rw [hll],fun h0=>?_,fun h=>by simp at h,?_,by omega,fun y hy=>?_⟩
  ·have hc:=ZiP (w:=w) l a (fun i x hx=>(hg i x hx).2);obtain ⟨u,hu⟩:∃ u,(l.flatMap elem)[0]? = some u:=⟨_,gE h0⟩;have h1:=hc 0 u hu;obtain ⟨b,off,sp⟩:=a;have hsp:sp = none:=by
    cases sp with
    | none=>rfl
    | some q=>
     exfalso;simp [Addr.add,World.cell?] at h1;split at h1 <;> simp_all
   subst hsp;refine ⟨b,off,rfl,?_,fun k u hk=>?_⟩
   ·apply Decidable.byContradiction;intro hb;simp [Addr.add,World.cell?,hb] at h1
   ·have:=hc k u hk
    rwa [Addr.add_lit] at this
  ·rw [hll];unfold maxLen at hm;omega
  ·obtain ⟨i,hi,rfl⟩:=List.getElem_of_mem hy;exact (hg i _ (gE hi)).1
theorem Rd.ints (ht:P.underlying t = some (.slice e)) (he:P.underlying e = some (.int .i64)) (hc:P.cellsOf e = 1) (h:Rd enc P w t cs) :
  ∃ A c l,cs = [.slice A l.length c] /\ Lies w A (ics l) /\ (A = none -> c = 0 /\ l = []) /\ l.length <= 9223372036854775807 /\ l.length <= c /\ (∀ x ∈ l,-9223372036854775808 <= x /\ x <= 9223372036854775807):=by
 obtain ⟨A,c,l,h1,h2,h3⟩:=h.slice ht hc (fun n=>[Value.int .i64 n]) (fun n=>-9223372036854775808 <= n /\ n <= 9223372036854775807) (fun cs hcs=>hcs.int he);refine ⟨A,c,l,h1,?_,h3⟩;have:(l.flatMap fun n=>[Value.int .i64 n]) = ics l:=by
  clear h1 h2 h3
  induction l with
  | nil=>rfl
  | cons x xs ih=>rw [List.flatMap_cons,ih];rfl
 rwa [this] at h2
variable {v:Value} {d:DataW H} {p:List MemPlace} {r:Reach} {b0:Nat}
theorem ZhW (ht:P.underlying t = some (.int .i64)) (hv:Value.okWide P w r b0 t v) (h:DataW.Trod enc P w 0 (fun _=>true) true t v d p):∃ n,v = .int .i64 n /\ -9223372036854775808 <= n /\ n <= 9223372036854775807:=by
 obtain ⟨n,rfl⟩:=okWide_int ht hv;obtain ⟨m,hm,h2⟩:=(Rd.of h).int ht;simp [Value.cells] at hm;subst hm;exact ⟨n,rfl,h2⟩
theorem ZfV {k:IntKind} (l:List Int):(l.flatMap fun n=>[Value.int k n]) = l.map (Value.int k):=by
 induction l with
 | nil=>rfl
 | cons x xs ih=>rw [List.flatMap_cons,ih];rfl
theorem ZfW (l:List Inn):(l.flatMap fun x:Inn=>[Value.slice x.1 x.2.2.length x.2.1]) = lcs l:=by
 induction l with
 | nil=>rfl
 | cons x xs ih=>rw [List.flatMap_cons,ih];rfl
theorem ZdR {fs:Array Field} {n:Nat} (ht:P.underlying t = some (.struct fs)) (hC:P.cellsOf t = n) (hv:Value.okWide P w r b0 t v) (h:DataW.Trod enc P w 0 (fun _=>true) true t v d p) :
  ∃ cs:List Value,v = .agg cs.toArray /\ cs.length = n /\ ∀ (i:Nat) (f:Field),fs[i]? = some f -> Rd enc P w f.type ((cs.drop f.offset).take (P.cellsOf f.type)):=by
 obtain ⟨cs,rfl,hs⟩:=okWide_struct ht hv;have h1:=(Rd.of h).struct ht;refine ⟨cs.toList,by simp,by rw [<- hC,<- hs];simp,?_⟩;simpa [Value.cells] using h1.2
end
end Go.Proofs.YtcjicjfbippmnaaGreat
namespace Go.Proofs.YtcjicjfbippmnaaGreat
open Go.RowKit Go.WideShapes Ear

section
variable {H:Type} {enc:TypeId × Value -> H} {P:Program} {w:World} {t e:TypeId} {cs:List Value} {v:Value} {d:DataW H} {p:List MemPlace} {r:Reach} {b0:Nat}
theorem Rd.dg (ht:P.underlying t = some (.slice e)) (he:P.underlying e = some (.int .u32)) (hc:P.cellsOf e = 1) (h:Rd enc P w t cs) :
  ∃ A c,∃ l:List Int,cs = [.slice A l.length c] /\ Dg w A c l /\ l.length <= 9223372036854775807:=by
 obtain ⟨A,c,l,h1,h2,h3,h4,h5,h6⟩:=h.slice ht hc (fun n=>[Value.int .u32 n]) (fun n=>0 <= n /\ n <= 4294967295) (fun cs hcs=>hcs.int he);rw [ZfV] at h2;exact ⟨A,c,l,h1,⟨h2,h6,h5,fun hA=>(h3 hA).1⟩,h4⟩
theorem ZgS {f0 f1 f2:Field} (ht:P.underlying t = some (.struct #[f0,f1,f2])) (hC:P.cellsOf t = 3) (o0:f0.offset = 0) (o1:f1.offset = 1) (o2:f2.offset = 2) (u0:P.underlying f0.type = some .bool) (k0:P.cellsOf f0.type = 1)
  (u1:P.underlying f1.type = some (.slice e)) (k1:P.cellsOf f1.type = 1) (he:P.underlying e = some (.int .u32)) (ke:P.cellsOf e = 1) (u2:P.underlying f2.type = some (.slice e)) (k2:P.cellsOf f2.type = 1)
  (hv:Value.okWide P w r b0 t v) (h:DataW.Trod enc P w 0 (fun _=>true) true t v d p) :
  ∃ x:Fr,v = x.val /\ FrOk w x /\ x.N.length <= 9223372036854775807 /\ x.D.length <= 9223372036854775807:=by
 obtain ⟨cs,rfl,hl,hf⟩:=ZdR ht hC hv h
 match cs,hl with
 | [a,b,c],_=>
  have q0:=hf 0 f0 rfl;have q1:=hf 1 f1 rfl;have q2:=hf 2 f2 rfl;rw [o0,k0] at q0;rw [o1,k1] at q1;rw [o2,k2] at q2;obtain ⟨n,e0⟩:=q0.bool u0;obtain ⟨A,cA,N,e1,h1,l1⟩:=q1.dg u1 he ke;obtain ⟨B,cB,D,e2,h2,l2⟩:=q2.dg u2 he ke;simp at e0 e1 e2;subst e0 e1 e2;exact ⟨⟨n,A,cA,N,B,cB,D⟩,rfl,⟨h1,h2⟩,l1,l2⟩
theorem Rd.grp {e':TypeId} (ht:P.underlying t = some (.slice e)) (he:P.underlying e = some (.slice e')) (he':P.underlying e' = some (.int .i64)) (hc:P.cellsOf e = 1) (hc':P.cellsOf e' = 1) (h:Rd enc P w t cs) :
  ∃ g:Grp,cs = [.slice g.1 g.2.2.length g.2.1] /\ (LL w g.1 g.2.2 /\ (g.1 = none -> g.2.1 = 0) /\ g.2.2.length <= 9223372036854775807):=by
 obtain ⟨A,c,l,h1,h2,h3,h4,h5,h6⟩:=h.slice ht hc (fun x:Inn=>[Value.slice x.1 x.2.2.length x.2.1]) (InOk w) (fun cs hcs=>by
  obtain ⟨A,c,l,rfl,q⟩:=hcs.ints he he' hc';exact ⟨(A,c,l),rfl,q⟩)
 rw [ZfW] at h2;exact ⟨(A,c,l),h1,⟨h2,h6⟩,fun hA=>(h3 hA).1,h4⟩
theorem ZfX (l:List Grp):(l.flatMap fun g:Grp=>[Value.slice g.1 g.2.2.length g.2.1]) = gcs l:=by
 induction l with
 | nil=>rfl
 | cons x xs ih=>rw [List.flatMap_cons,ih];rfl
theorem ZgR {e1 e':TypeId} (ht:P.underlying t = some (.slice e1)) (h1:P.underlying e1 = some (.slice e)) (he:P.underlying e = some (.slice e')) (he':P.underlying e' = some (.int .i64)) (hc1:P.cellsOf e1 = 1) (hc:P.cellsOf e = 1) (hc':P.cellsOf e' = 1) (hv:Value.okWide P w r b0 t v) (h:DataW.Trod enc P w 0 (fun _=>true) true t v d p) :
  ∃ A c,∃ G:List Grp,v = .slice A G.length c /\ GG w A G /\ (A = none -> c = 0 /\ G = []) /\ G.length <= 9223372036854775807 /\ (∀ g ∈ G,g.1 = none -> g.2.1 = 0) /\ (∀ g ∈ G,g.2.2.length <= 9223372036854775807):=by
 obtain ⟨A',n',c',rfl⟩:=okWide_slice ht hv;obtain ⟨A,c,G,h1,h2,h3,h4,h5,h6⟩:=(Rd.of h).slice ht hc1 (fun g:Grp=>[Value.slice g.1 g.2.2.length g.2.1]) (fun g=>LL w g.1 g.2.2 /\ (g.1 = none -> g.2.1 = 0) /\ g.2.2.length <= 9223372036854775807) (fun cs hcs=>hcs.grp h1 he he' hc hc');rw [ZfX] at h2;simp [Value.cells] at h1;obtain ⟨rfl,rfl,rfl⟩:=h1;exact ⟨A',c',G,rfl,⟨h2,fun g hg=>(h6 g hg).1⟩,h3,h4,fun g hg=>(h6 g hg).2.1,fun g hg=>(h6 g hg).2.2⟩
end
end Go.Proofs.YtcjicjfbippmnaaGreat
