/- TalkBetter -/
import Derived.Test.YtcjicjfbippmnaaGreatMTBett12
set_option maxRecDepth 100000
set_option maxHeartbeats 32000000
namespace Go.Proofs.YtcjicjfbippmnaaGreat
open Go.RowKit Ear
set_option linter.unusedVariables false

structure Fv (w:World) (x:Fr) (q:Rat):Prop where
 n:Dg w x.A x.c x.N
 d:Dg w x.B x.d x.D
 val:fq x.neg (vl x.N).toNat (vl x.D).toNat = q
theorem Fv.below {w w':World} {x:Fr} {q:Rat} (h:Fv w x q) (hb:Below w.heap.size w w'):Fv w' x q:=⟨h.n.below hb,h.d.below hb,h.val⟩
theorem ZiO (d:Nat):(vl (den d)).toNat = if d = 1 then 0 else d:=by
 unfold den;split
 ·rfl
 ·rw [Jy];simp
theorem ZjW (a:Bool) (n d:Nat):fq a n (vl (den d)).toNat = fq a n d:=by
 rw [ZiO];split
 ·subst_vars;rfl
 ·rfl
theorem Fq.fv {w:World} {x:Fr} {q:Rat} (h:Fq w x q):Fv w x q:=
 ⟨h.ok.n,h.ok.d,by rw [h.neg,h.num,h.dn,ZjW,Jy,Int.toNat_natCast,XX]⟩
theorem ZiP (d:Nat):(den d).length <= (nd d).length:=by
 unfold den;split
 ·simp
 ·exact Nat.le_refl _
structure Few (x:Fr) (k:Nat):Prop where
 n:x.N.length <= k
 d:x.D.length <= k
theorem Fq.few {w:World} {x:Fr} {q:Rat} {k:Nat} (h:Fq w x q) (hs:Sz q k):Few x k:=
 ⟨by rw [h.num];exact hs.num,by rw [h.dn];exact tR (ZiP _) hs.den⟩
theorem Fv.sz {w:World} {x:Fr} {q:Rat} {k:Nat} (h:Fv w x q) (hf:Few x k) (hk : 1 <= k):Sz q k:=by
 rw [<- h.val];have hn:(nd (vl x.N).toNat).length <= k:=tR (JH h.n.dig (by have:=Jv h.n.dig;omega)) hf.n;by_cases h0:(vl x.D).toNat = 0
 ·have e:fq x.neg (vl x.N).toNat (vl x.D).toNat = fq x.neg (vl x.N).toNat 1:=by rw [h0];rfl
  rw [e];exact Sz.fq (by decide) hn (by rw [ZS];exact hk)
 ·exact Sz.fq h0 hn (tR (JH h.d.dig (by have:=Jv h.d.dig;omega)) hf.d)
theorem XY (x:Fr) (q:Rat) (w:World) (hx:Fv w x q) (hf:Few x 390000):Calls Tryz.prog 63 #[x.val] w (Qf q w):=by
 obtain ⟨xn,xA,xc,xN,xB,xd,xD⟩:=x;obtain ⟨HxN,HxD,hval⟩:=hx;obtain ⟨f1,f2⟩:=hf;simp only at HxN HxD hval f1 f2;simp only [Fr.val];have hn0:=Jv HxN.dig;have hd0:=Jv HxD.dig;obtain ⟨n,hn⟩:∃ n:Nat,(vl xN).toNat = n:=⟨_,rfl⟩;obtain ⟨v,hv⟩:∃ v:Nat,(vl xD).toNat = v:=⟨_,rfl⟩;have HNV:Hid (vl xN = (n:Int)):=zH (by omega);have HDV:Hid (vl xD = (v:Int)):=zH (by omega);rw [hn,hv] at hval;have HQ:=zH hval.symm;have LN:Hid ((nd n).length <= 400000):=zH (tR (JH HxN.dig HNV.out) (by omega));have LD:Hid ((nd v).length <= 400000):=zH (tR (JH HxD.dig HDV.out) (by omega));clear hn hv hval hn0 hd0;obtain ⟨W,hW⟩:∃ W:World,W = (w.alloc (.cells #[.bool xn,.slice xA xN.length xc,.slice xB xD.length xd] 28)).alloc (.cells #[.bool false,.slice none 0 0,.slice none 0 0] 119):=⟨_,rfl⟩;have hs:W.heap.size = w.heap.size + 2:=by rw [hW];simp
 have HB0:Hid (Below w.heap.size w W):=zH (by rw [hW];exact al2 w _ _);have HBX:Hid (Bt 119 W (w.heap.size + 1)):=zH (by rw [hW];have:=Bt.new 119 (w.alloc (.cells #[.bool xn,.slice xA xN.length xc,.slice xB xD.length xd] 28));simpa using this);have HC0:Hid (∀ u,Below W.heap.size W u -> u.cell? ⟨w.heap.size,0,none⟩ = some (.bool xn) /\ u.cell? ⟨w.heap.size,1,none⟩ = some (.slice xA xN.length xc) /\ u.cell? ⟨w.heap.size,2,none⟩ = some (.slice xB xD.length xd)):=zH (fun u hu=>by
  rw [hu.cell (p:=⟨w.heap.size,0,none⟩) (by simp;omega),hu.cell (p:=⟨w.heap.size,1,none⟩) (by simp;omega),hu.cell (p:=⟨w.heap.size,2,none⟩) (by simp;omega),hW];simp [go_sem])
 have HxN1:=zH (HxN.below HB0.out);have HxD1:=zH (HxD.below HB0.out);have T1:=zH (Zj xB xd xD W HxD1.out (by omega) v HDV);clear HxN HxD;go_enter Tryz.func63,Tryz.ntmps63;go_wp2_with fail;rw [<- hW];clear hW;refine T1.out.mono ?_;rintro e w2 ⟨A3,c3,rfl,s1,s2,s3,s4⟩;have D3:=zH (JF s1 s2 s3);have SV:=zH s4;clear s1 s2 s3 s4 T1;by_cases hv0:v = 0
 ·subst hv0;have hl:(nd 0).length = 0:=by rw [JC];rfl
  rw [hl];clear hl;have HE:Hid (q = fq xn n 1):=zH (by rw [HQ.out];rfl);have S1:=zH (Yp 1 w2 (by decide));clear D3 HQ;go_wp2_with fail;refine S1.out.mono ?_;rintro e w3 ⟨A3,c3,rfl,s1,s2,s3,s4⟩;have D3:=zH (JF s1 s2 s3);have SV3:=zH (SV.out.trans (s4.mono SV.out.size));clear s1 s2 s3 s4 S1 SV;have L1:Hid ((nd 1).length <= 400000):=zH (by rw [ZS];decide);have HxN3:=zH (HxN1.out.below SV3.out);have HBXV:=zH (HBX.out.below SV3.out);have HB0V:=zH (HB0.out.trans (SV3.out.mono HB0.out.size));have HC:=zH (fun u' (hu':Below w3.heap.size w3 u')=>(fun h=>(⟨h.1,h.2.1⟩ : _ /\ _)) (HC0.out u' (SV3.out.trans (hu'.mono SV3.out.size))));clear HBX HB0 HC0 HxN1 HxD1 SV3;obtain ⟨V,rfl⟩:∃ X,X = w3:=⟨_,rfl⟩;have HBX:=HBXV;have HB0:=HB0V;go_wp2_with fail;refine Je 7 18 rfl (by kernel_rfl) (by kernel_rfl) (by kernel_rfl) (by kernel_rfl) (fun u=>Below V.heap.size V u) (fun u u'=>Below u.heap.size u u') (Gl [isV (.pointer (some ⟨w.heap.size,0,none⟩)),isV (.bool xn),isV (.pointer (some ⟨w.heap.size,1,none⟩)),isV (.slice xA xN.length xc),isNd (n),isV (.slice A3 (nd 1).length c3),isNm (fq (xn) (n) (1))]) (Gl.keep (by
    intro p hp;simp only [List.mem_cons,List.not_mem_nil,or_false] at hp;rcases hp with rfl | rfl | rfl | rfl | rfl | rfl | rfl
    ·exact Keeps.isV _
    ·exact Keeps.isV _
    ·exact Keeps.isV _
    ·exact Keeps.isV _
    ·exact Keeps.isNd _
    ·exact Keeps.isV _
    ·exact Keeps.isNm _)) ?_ ?_ ?_
  ·exact (Below.refl _ V).drew
  ·simp only [List.pop_toArray,List.dropLast,Jl];refine ⟨?_,?_,?_,?_,?_,?_,?_,trivial⟩
   ·intro bb u su dp kp K hK;have e1:gT bb 1 = .pointer (some ⟨w.heap.size,0,none⟩):=kp 1 (by kernel_rfl);go_simp;exact hK _ _ su bR rfl
   ·intro bb u su dp kp K hK;have e11:gT bb 11 = .pointer (some ⟨w.heap.size,0,none⟩):=dp 0 _ rfl (by kernel_rfl);obtain ⟨cc0,cc1⟩:=HC.out u su;go_simp;exact hK _ _ su bR rfl
   ·intro bb u su dp kp K hK;have e1:gT bb 1 = .pointer (some ⟨w.heap.size,0,none⟩):=kp 1 (by kernel_rfl);go_simp;exact hK _ _ su bR rfl
   ·intro bb u su dp kp K hK;have e13:gT bb 13 = .pointer (some ⟨w.heap.size,1,none⟩):=dp 2 _ rfl (by kernel_rfl);obtain ⟨cc0,cc1⟩:=HC.out u su;go_simp;exact hK _ _ su bR rfl
   ·intro bb u su dp kp K hK;have e14:gT bb 14 = .slice xA xN.length xc:=dp 3 _ rfl (by kernel_rfl);go_simp;refine (Zj xA xc xN u (HxN3.out.below su) (by omega) (n) (zH HNV.out)).mono ?_;rintro e w' ⟨A,c,rfl,h1,h2,h3,h4⟩;go_simp;exact hK _ _ (su.trans (h4.mono su.size)) h4 ⟨A,c,rfl,zH (JF h1 h2 h3)⟩
   ·intro bb u su dp kp K hK;have e3:gT bb 3 = .slice A3 (nd 1).length c3:=kp 3 (by kernel_rfl);go_simp;exact hK _ _ su bR rfl
   ·intro bb u su dp kp K hK;have e12:gT bb 12 = .bool xn:=dp 1 _ rfl (by kernel_rfl);obtain ⟨A15,c15,e15,D15⟩:∃ A c,gT bb 15 = .slice A (nd (n)).length c /\ Hid (Dg u A c (nd (n))):=dp 4 _ rfl (by kernel_rfl);have e16:gT bb 16 = .slice A3 (nd 1).length c3:=dp 5 _ rfl (by kernel_rfl);go_simp;refine (XO (xn) A15 A3 c15 c3 (n) (1) u D15.out (D3.out.below su) LN.out L1.out (by decide)).mono ?_;rintro e w' ⟨r,rfl,hr,h4⟩;go_simp;exact hK _ _ (su.trans (h4.mono su.size)) h4 ⟨r,rfl,zH hr⟩
  ·intro bb u hN hdf su hG sm;obtain ⟨r,e17,hr⟩:∃ r:Fr,gT bb 17 = r.val /\ Hid (Nm u r (fq (xn) (n) (1))):=hG 6 _ rfl;have e2:gT bb 2 = .pointer (some ⟨w.heap.size + 1,0,none⟩):=sm 2 (by kernel_rfl);have BX2:=zH (HBX.out.below su);obtain ⟨c0,c1,c2,f0,f1,f2⟩:=BX2.out.facts;have HB2:=zH (HB0.out.trans (su.mono HB0.out.size));clear su hG sm;rw [J6 bb 18 hN];simp only [show List.range 18 = [0,1,2,3,4,5,6,7,8,9,10,11,12,13,14,15,16,17] from rfl,List.map_cons,List.map_nil,e2,e17,hdf];clear e2 e17 hN hdf;generalize gT bb 0 = z0,gT bb 1 = z1,gT bb 3 = z3,gT bb 4 = z4,gT bb 5 = z5,gT bb 6 = z6,gT bb 7 = z7,gT bb 8 = z8,gT bb 9 = z9,gT bb 10 = z10,gT bb 11 = z11,gT bb 12 = z12,gT bb 13 = z13,gT bb 14 = z14,gT bb 15 = z15,gT bb 16 = z16;obtain ⟨rn,rA,rc,rN,rB,rd,rD⟩:=r;refine PopQ.last rfl rfl (fun K hK=>?_);go_simp;refine hK _ _ ?_;clear hK K;go_wp2_with fail;obtain ⟨g0,g1,g2⟩:=Z7 (.bool rn) (.slice rA rN.length rc) (.slice rB rD.length rd) c0 c1 c2;refine bodyPost_ret (v:=.agg #[.bool rn,.slice rA rN.length rc,.slice rB rD.length rd]) (by simp [results,Tryz.results63,go_sem,g0,g1,g2]) rfl ?_;exact ⟨⟨rn,rA,rc,rN,rB,rd,rD⟩,rfl,(by rw [HE.out];exact YP hr.out BX2.out _ _ _),Ji HB2.out (by omega) _ _ _⟩
 ·have hl0:(nd v).length ≠ 0:=fun e=>hv0 (Ju.1 e);have hq:(((nd v).length:Int) == 0) = false:=beq_eq_false_iff_ne.2 (by omega);have HE:=HQ;have HxN3:=zH (HxN1.out.below SV.out);have HBXV:=zH (HBX.out.below SV.out);have HB0V:=zH (HB0.out.trans (SV.out.mono HB0.out.size));have HC:=zH (fun u' (hu':Below w2.heap.size w2 u')=>(fun h=>(⟨h.1,h.2.1⟩ : _ /\ _)) (HC0.out u' (SV.out.trans (hu'.mono SV.out.size))));clear HBX HB0 HC0 HxN1 HxD1 SV hl0;obtain ⟨V,rfl⟩:∃ X,X = w2:=⟨_,rfl⟩;have HBX:=HBXV;have HB0:=HB0V;go_wp2_with fail;refine Je 7 18 rfl (by kernel_rfl) (by kernel_rfl) (by kernel_rfl) (by kernel_rfl) (fun u=>Below V.heap.size V u) (fun u u'=>Below u.heap.size u u') (Gl [isV (.pointer (some ⟨w.heap.size,0,none⟩)),isV (.bool xn),isV (.pointer (some ⟨w.heap.size,1,none⟩)),isV (.slice xA xN.length xc),isNd (n),isV (.slice A3 (nd v).length c3),isNm (fq (xn) (n) (v))]) (Gl.keep (by
    intro p hp;simp only [List.mem_cons,List.not_mem_nil,or_false] at hp;rcases hp with rfl | rfl | rfl | rfl | rfl | rfl | rfl
    ·exact Keeps.isV _
    ·exact Keeps.isV _
    ·exact Keeps.isV _
    ·exact Keeps.isV _
    ·exact Keeps.isNd _
    ·exact Keeps.isV _
    ·exact Keeps.isNm _)) ?_ ?_ ?_
  ·exact (Below.refl _ V).drew
  ·simp only [List.pop_toArray,List.dropLast,Jl];refine ⟨?_,?_,?_,?_,?_,?_,?_,trivial⟩
   ·intro bb u su dp kp K hK;have e1:gT bb 1 = .pointer (some ⟨w.heap.size,0,none⟩):=kp 1 (by kernel_rfl);go_simp;exact hK _ _ su bR rfl
   ·intro bb u su dp kp K hK;have e11:gT bb 11 = .pointer (some ⟨w.heap.size,0,none⟩):=dp 0 _ rfl (by kernel_rfl);obtain ⟨cc0,cc1⟩:=HC.out u su;go_simp;exact hK _ _ su bR rfl
   ·intro bb u su dp kp K hK;have e1:gT bb 1 = .pointer (some ⟨w.heap.size,0,none⟩):=kp 1 (by kernel_rfl);go_simp;exact hK _ _ su bR rfl
   ·intro bb u su dp kp K hK;have e13:gT bb 13 = .pointer (some ⟨w.heap.size,1,none⟩):=dp 2 _ rfl (by kernel_rfl);obtain ⟨cc0,cc1⟩:=HC.out u su;go_simp;exact hK _ _ su bR rfl
   ·intro bb u su dp kp K hK;have e14:gT bb 14 = .slice xA xN.length xc:=dp 3 _ rfl (by kernel_rfl);go_simp;refine (Zj xA xc xN u (HxN3.out.below su) (by omega) (n) (zH HNV.out)).mono ?_;rintro e w' ⟨A,c,rfl,h1,h2,h3,h4⟩;go_simp;exact hK _ _ (su.trans (h4.mono su.size)) h4 ⟨A,c,rfl,zH (JF h1 h2 h3)⟩
   ·intro bb u su dp kp K hK;have e3:gT bb 3 = .slice A3 (nd v).length c3:=kp 3 (by kernel_rfl);go_simp;exact hK _ _ su bR rfl
   ·intro bb u su dp kp K hK;have e12:gT bb 12 = .bool xn:=dp 1 _ rfl (by kernel_rfl);obtain ⟨A15,c15,e15,D15⟩:∃ A c,gT bb 15 = .slice A (nd (n)).length c /\ Hid (Dg u A c (nd (n))):=dp 4 _ rfl (by kernel_rfl);have e16:gT bb 16 = .slice A3 (nd v).length c3:=dp 5 _ rfl (by kernel_rfl);go_simp;refine (XO (xn) A15 A3 c15 c3 (n) (v) u D15.out (D3.out.below su) LN.out LD.out hv0).mono ?_;rintro e w' ⟨r,rfl,hr,h4⟩;go_simp;exact hK _ _ (su.trans (h4.mono su.size)) h4 ⟨r,rfl,zH hr⟩
  ·intro bb u hN hdf su hG sm;obtain ⟨r,e17,hr⟩:∃ r:Fr,gT bb 17 = r.val /\ Hid (Nm u r (fq (xn) (n) (v))):=hG 6 _ rfl;have e2:gT bb 2 = .pointer (some ⟨w.heap.size + 1,0,none⟩):=sm 2 (by kernel_rfl);have BX2:=zH (HBX.out.below su);obtain ⟨c0,c1,c2,f0,f1,f2⟩:=BX2.out.facts;have HB2:=zH (HB0.out.trans (su.mono HB0.out.size));clear su hG sm;rw [J6 bb 18 hN];simp only [show List.range 18 = [0,1,2,3,4,5,6,7,8,9,10,11,12,13,14,15,16,17] from rfl,List.map_cons,List.map_nil,e2,e17,hdf];clear e2 e17 hN hdf;generalize gT bb 0 = z0,gT bb 1 = z1,gT bb 3 = z3,gT bb 4 = z4,gT bb 5 = z5,gT bb 6 = z6,gT bb 7 = z7,gT bb 8 = z8,gT bb 9 = z9,gT bb 10 = z10,gT bb 11 = z11,gT bb 12 = z12,gT bb 13 = z13,gT bb 14 = z14,gT bb 15 = z15,gT bb 16 = z16;obtain ⟨rn,rA,rc,rN,rB,rd,rD⟩:=r;refine PopQ.last rfl rfl (fun K hK=>?_);go_simp;refine hK _ _ ?_;clear hK K;go_wp2_with fail;obtain ⟨g0,g1,g2⟩:=Z7 (.bool rn) (.slice rA rN.length rc) (.slice rB rD.length rd) c0 c1 c2;refine bodyPost_ret (v:=.agg #[.bool rn,.slice rA rN.length rc,.slice rB rD.length rd]) (by simp [results,Tryz.results63,go_sem,g0,g1,g2]) rfl ?_;exact ⟨⟨rn,rA,rc,rN,rB,rd,rD⟩,rfl,(by rw [HE.out];exact YP hr.out BX2.out _ _ _),Ji HB2.out (by omega) _ _ _⟩
end Go.Proofs.YtcjicjfbippmnaaGreat
namespace Go.Proofs.YtcjicjfbippmnaaGreat
open Go.RowKit Ear
set_option linter.unusedVariables false

theorem ZbF (A:Option Addr) (c n:Nat) (w:World) (h:Dg w A c (nd n)) (hn:(nd n).length <= 1000000):Calls Tryz.prog 171 #[.slice A (nd n).length c] w (Zh n w):=
 (ZM A c (nd n) w h hn).mono fun _ _ h=>h.nd
theorem V6 (w:World) (p a:Addr) (v:Value):(w.setCell p v).frozen? a = w.frozen? a:=by simp [go_sem]
theorem ZiF (w:World) (k:Nat) (v0 v1 v2:Value) (a:Addr):(((w.setCell ⟨k,0,none⟩ v0).setCell ⟨k,1,none⟩ v1).setCell ⟨k,2,none⟩ v2).frozen? a = w.frozen? a:=by rw [V6,V6,V6]
theorem ZaR {t:TypeId} {w:World} {k:Nat} {u0 u1 u2:Value} (h:w.heap[k]? = some (.cells #[u0,u1,u2] t (0,0))) (v0 v1 v2:Value):(((w.setCell ⟨k,0,none⟩ v0).setCell ⟨k,1,none⟩ v1).setCell ⟨k,2,none⟩ v2).heap[k]? = some (.cells #[v0,v1,v2] t (0,0)):=by
 simp [World.setCell,Array.getElem?_modify,h]
theorem Lies.apartRow {t:TypeId} {w w':World} {A:Option Addr} {l:List Int} {k:Nat} {b0:Bool} {b1 b2:Option Addr} {n1 n2 m1 m2:Nat} (h:Lies w A (ucs l)) (hb:w.heap[k]? = some (.cells #[.bool b0,.slice b1 n1 m1,.slice b2 n2 m2] t (0,0))) (hs:w.heap.size <= w'.heap.size) (hk:∀ b,b ≠ k -> b < w.heap.size -> w'.heap[b]? = w.heap[b]?):Lies w' A (ucs l):=fun h0=>by
 obtain ⟨b,off,e,hlt,hc⟩:=h h0;have hne:b ≠ k:=by
  rintro rfl;have hl : 0 < l.length:=by simpa using h0
  have:=hc 0 (.int .u32 l[0]) (by simp [gE hl]);rw [cell_of_row w b _ _ _ _ hb] at this;rcases (show off + 0 = 0 ∨ off + 0 = 1 ∨ off + 0 = 2 ∨ 3 <= off + 0 by omega) with e | e | e | e
  ·rw [e] at this;simp at this
  ·rw [e] at this;simp at this
  ·rw [e] at this;simp at this
  ·rw [Array.getElem?_eq_none (by simpa using e)] at this;cases this
 exact ⟨b,off,e,by omega,fun j u hu=>by
  rw [<- hc j u hu];exact World.cell?_of_block (a:=⟨b,off + j,none⟩) (hk b hne hlt)⟩
theorem Zi (x:Fr) (q:Rat) (w:World) (hx:Nm w x q) (sq:Sz q 900000):Calls Tryz.prog 136 #[x.val] w (ZA q w):=by
 obtain ⟨xn,xA,xc,xN,xB,xd,xD⟩:=x;obtain ⟨h1,h2,h3,HxN,HxD⟩:=hx;simp only at h1 h2 h3 HxN HxD;subst h1 h2 h3;simp only [Fr.val];have s1:=sq.num;have s2:=sq.den;clear sq;obtain ⟨W,hW⟩:∃ W:World,W = (w.alloc (.cells #[.bool (qs q),.slice xA (nd (qn q)).length xc,.slice xB (nd q.den).length xd] 119)).alloc (.cells #[.bool false,.slice none 0 0,.slice none 0 0] 28):=⟨_,rfl⟩;have hs:W.heap.size = w.heap.size + 2:=by rw [hW];simp
 have HB0:Hid (Below w.heap.size w W):=zH (by rw [hW];exact al2 w _ _);have HBX:Hid (Bt 28 W (w.heap.size + 1)):=zH (by rw [hW];have:=Bt.new 28 (w.alloc (.cells #[.bool (qs q),.slice xA (nd (qn q)).length xc,.slice xB (nd q.den).length xd] 119));simpa using this);have HC1:Hid (∀ u,Below W.heap.size W u -> u.cell? ⟨w.heap.size,0,none⟩ = some (.bool (qs q)) /\ u.cell? ⟨w.heap.size,1,none⟩ = some (.slice xA (nd (qn q)).length xc) /\ u.cell? ⟨w.heap.size,2,none⟩ = some (.slice xB (nd q.den).length xd)):=zH (fun u hu=>by
  rw [hu.cell (p:=⟨w.heap.size,0,none⟩) (by simp;omega),hu.cell (p:=⟨w.heap.size,1,none⟩) (by simp;omega),hu.cell (p:=⟨w.heap.size,2,none⟩) (by simp;omega),hW];simp [go_sem])
 have HxN1:=zH (HxN.below HB0.out);have HxD1:=zH (HxD.below HB0.out);clear HxN HxD;go_enter Tryz.func136,Tryz.ntmps136;go_wp2_with fail;rw [<- hW];clear hW;refine Je 7 20 rfl (by kernel_rfl) (by kernel_rfl) (by kernel_rfl) (by kernel_rfl) (fun u=>Below W.heap.size W u) (fun u u'=>Below u.heap.size u u') (Gl [isV (.pointer (some ⟨w.heap.size,0,none⟩)),isV (.bool (qs q)),isV (.pointer (some ⟨w.heap.size,1,none⟩)),isV (.slice xA (nd (qn q)).length xc),isNd (qn q),isAg ((qs q)) (qn q),isBt 28 W.heap.size]) (Gl.keep (by
   intro p hp;simp only [List.mem_cons,List.not_mem_nil,or_false] at hp;rcases hp with rfl | rfl | rfl | rfl | rfl | rfl | rfl
   ·exact Keeps.isV _
   ·exact Keeps.isV _
   ·exact Keeps.isV _
   ·exact Keeps.isV _
   ·exact Keeps.isNd _
   ·exact Keeps.isAg _ _
   ·exact Keeps.isBt _ _)) ?_ ?_ ?_
 ·exact (Below.refl _ W).drew
 ·simp only [List.pop_toArray,List.dropLast,Jl];refine ⟨?_,?_,?_,?_,?_,?_,?_,trivial⟩
  ·intro bb u su dp kp K hK;have e1:gT bb 1 = .pointer (some ⟨w.heap.size,0,none⟩):=kp 1 (by kernel_rfl);go_simp;exact hK _ _ su bR rfl
  ·intro bb u su dp kp K hK;have e4:gT bb 4 = .pointer (some ⟨w.heap.size,0,none⟩):=dp 0 _ rfl (by kernel_rfl);obtain ⟨cc0,cc1,cc2⟩:=HC1.out u su;go_simp;exact hK _ _ su bR rfl
  ·intro bb u su dp kp K hK;have e1:gT bb 1 = .pointer (some ⟨w.heap.size,0,none⟩):=kp 1 (by kernel_rfl);go_simp;exact hK _ _ su bR rfl
  ·intro bb u su dp kp K hK;have e6:gT bb 6 = .pointer (some ⟨w.heap.size,1,none⟩):=dp 2 _ rfl (by kernel_rfl);obtain ⟨cc0,cc1,cc2⟩:=HC1.out u su;go_simp;exact hK _ _ su bR rfl
  ·intro bb u su dp kp K hK;have e7:gT bb 7 = .slice xA (nd (qn q)).length xc:=dp 3 _ rfl (by kernel_rfl);go_simp;refine (ZbF xA xc (qn q) u (HxN1.out.below su) (by omega)).mono ?_;rintro e w' ⟨A,c,rfl,h1,h2,h3,h4⟩;go_simp;exact hK _ _ (su.trans (h4.mono su.size)) h4 ⟨A,c,rfl,zH (JF h1 h2 h3)⟩
  ·intro bb u su dp kp K hK;have e5:gT bb 5 = .bool (qs q):=dp 1 _ rfl (by kernel_rfl);obtain ⟨A8,c8,e8,D8⟩:∃ A c,gT bb 8 = .slice A (nd (qn q)).length c /\ Hid (Dg u A c (nd (qn q))):=dp 4 _ rfl (by kernel_rfl);have f5:=e5;rw [gT,Array.getD_eq_getD_getElem?] at f5;have f8:=e8;rw [gT,Array.getD_eq_getD_getElem?] at f8;go_simp;exact hK _ _ su bR ⟨A8,c8,rfl,D8⟩
  ·intro bb u su dp kp K hK;go_simp;exact hK _ _ (su.alloc su.size _) (bR.alloc nR _) ⟨u.heap.size,rfl,zH (Bt.new _ _),su.size⟩
 ·intro bb u hN hdf su hG sm;obtain ⟨k,e3,HK,hk⟩:∃ k,gT bb 3 = .pointer (some ⟨k,0,none⟩) /\ Hid (Bt 28 u k) /\ W.heap.size <= k:=hG 6 _ rfl;obtain ⟨A9,c9,e9,D9⟩:∃ A c,gT bb 9 = .agg #[.bool (qs q),.slice A (nd (qn q)).length c,.slice none 0 0] /\ Hid (Dg u A c (nd (qn q))):=hG 5 _ rfl;have e1:gT bb 1 = .pointer (some ⟨w.heap.size,0,none⟩):=sm 1 (by kernel_rfl);have e2:gT bb 2 = .pointer (some ⟨w.heap.size + 1,0,none⟩):=sm 2 (by kernel_rfl);rw [J6 bb 20 hN];simp only [show List.range 20 = [0,1,2,3,4,5,6,7,8,9,10,11,12,13,14,15,16,17,18,19] from rfl,List.map_cons,List.map_nil,e1,e2,e3,e9,hdf];clear e1 e2 e3 e9 hG sm hN hdf;generalize gT bb 0 = z0,gT bb 4 = z4,gT bb 5 = z5,gT bb 6 = z6,gT bb 7 = z7,gT bb 8 = z8,gT bb 10 = z10,gT bb 11 = z11,gT bb 12 = z12,gT bb 13 = z13,gT bb 14 = z14,gT bb 15 = z15,gT bb 16 = z16,gT bb 17 = z17,gT bb 18 = z18,gT bb 19 = z19;obtain ⟨c0,c1,c2,f0,f1,f2⟩:=HK.out.facts;have SV0:Hid (Below W.heap.size W (((u.setCell ⟨k,0,none⟩ (.bool (qs q))).setCell ⟨k,1,none⟩ (.slice A9 (nd (qn q)).length c9)).setCell ⟨k,2,none⟩ (.slice none 0 0))):=zH (Ji su hk _ _ _);have DN0:Hid (Dg (((u.setCell ⟨k,0,none⟩ (.bool (qs q))).setCell ⟨k,1,none⟩ (.slice A9 (nd (qn q)).length c9)).setCell ⟨k,2,none⟩ (.slice none 0 0)) A9 c9 (nd (qn q))):=zH (XN D9.out HK.out _ _ _);have HCK:Hid ((((u.setCell ⟨k,0,none⟩ (.bool (qs q))).setCell ⟨k,1,none⟩ (.slice A9 (nd (qn q)).length c9)).setCell ⟨k,2,none⟩ (.slice none 0 0)).cell? ⟨k,0,none⟩ = some (.bool (qs q)) /\ (((u.setCell ⟨k,0,none⟩ (.bool (qs q))).setCell ⟨k,1,none⟩ (.slice A9 (nd (qn q)).length c9)).setCell ⟨k,2,none⟩ (.slice none 0 0)).cell? ⟨k,1,none⟩ = some (.slice A9 (nd (qn q)).length c9) /\ (((u.setCell ⟨k,0,none⟩ (.bool (qs q))).setCell ⟨k,1,none⟩ (.slice A9 (nd (qn q)).length c9)).setCell ⟨k,2,none⟩ (.slice none 0 0)).cell? ⟨k,2,none⟩ = some (.slice none 0 0) /\ (((u.setCell ⟨k,0,none⟩ (.bool (qs q))).setCell ⟨k,1,none⟩ (.slice A9 (nd (qn q)).length c9)).setCell ⟨k,2,none⟩ (.slice none 0 0)).frozen? ⟨k,2,none⟩ = false):=zH (by
   obtain ⟨g0,g1,g2⟩:=Z7 (.bool (qs q)) (.slice A9 (nd (qn q)).length c9) (.slice none 0 0) c0 c1 c2;exact ⟨g0,g1,g2,by rw [ZiF];exact f2⟩)
  have HRK:Hid ((((u.setCell ⟨k,0,none⟩ (.bool (qs q))).setCell ⟨k,1,none⟩ (.slice A9 (nd (qn q)).length c9)).setCell ⟨k,2,none⟩ (.slice none 0 0)).heap[k]? = some (.cells #[.bool (qs q),.slice A9 (nd (qn q)).length c9,.slice none 0 0] 28 (0,0))):=zH (ZaR HK.out _ _ _);have hkl:Hid (k < (((u.setCell ⟨k,0,none⟩ (.bool (qs q))).setCell ⟨k,1,none⟩ (.slice A9 (nd (qn q)).length c9)).setCell ⟨k,2,none⟩ (.slice none 0 0)).heap.size):=zH (by have:=HK.out.lt;simpa using this);have HBXV:=zH (HBX.out.below SV0.out);have HB0V:=zH (HB0.out.trans (SV0.out.mono HB0.out.size));have HCV:=zH (fun u' (hu':Below (((u.setCell ⟨k,0,none⟩ (.bool (qs q))).setCell ⟨k,1,none⟩ (.slice A9 (nd (qn q)).length c9)).setCell ⟨k,2,none⟩ (.slice none 0 0)).heap.size (((u.setCell ⟨k,0,none⟩ (.bool (qs q))).setCell ⟨k,1,none⟩ (.slice A9 (nd (qn q)).length c9)).setCell ⟨k,2,none⟩ (.slice none 0 0)) u')=>HC1.out u' (SV0.out.trans (hu'.mono SV0.out.size)));have HxN2:=zH (HxN1.out.below SV0.out);have HxD2:=zH (HxD1.out.below SV0.out);have hk1:w.heap.size + 1 < k:=by omega
  refine PopQ.last rfl rfl (fun K hK=>?_);go_simp;refine hK _ _ ?_;clear hK K;clear HK D9 su c0 c1 c2 f0 f1 f2 HBX HB0 HC1 HxN1 HxD1;generalize hV:(((u.setCell ⟨k,0,none⟩ (.bool (qs q))).setCell ⟨k,1,none⟩ (.slice A9 (nd (qn q)).length c9)).setCell ⟨k,2,none⟩ (.slice none 0 0)) = V at *
  clear hV;go_wp2_with fail;refine XD 20 rfl (by kernel_rfl) (by kernel_rfl) (by kernel_rfl) (fun u=>Below V.heap.size V u) (fun u u'=>Below u.heap.size u u') (Gl [isV (.pointer (some ⟨w.heap.size,2,none⟩)),isV (.slice xB (nd q.den).length xd),isNd (1),isV (.int .i64 (UB (q.den) (1))),isV (.bool (UB q.den 1 != 0))]) (Gl.keep (by
    intro p hp;simp only [List.mem_cons,List.not_mem_nil,or_false] at hp;rcases hp with rfl | rfl | rfl | rfl | rfl
    ·exact Keeps.isV _
    ·exact Keeps.isV _
    ·exact Keeps.isNd _
    ·exact Keeps.isV _
    ·exact Keeps.isV _)) ?_ ?_ ?_
  ·exact (Below.refl _ V).drew
  ·simp only [Jl];refine ⟨?_,?_,?_,?_,?_,trivial⟩
   ·intro bb u su dp kp K hK;have e1:gT bb 1 = .pointer (some ⟨w.heap.size,0,none⟩):=kp 1 (by kernel_rfl);go_simp;exact hK _ _ su bR rfl
   ·intro bb u su dp kp K hK;have e10:gT bb 10 = .pointer (some ⟨w.heap.size,2,none⟩):=dp 0 _ rfl (by kernel_rfl);obtain ⟨cc0,cc1,cc2⟩:=HCV.out u su;go_simp;exact hK _ _ su bR rfl
   ·intro bb u su dp kp K hK;go_simp;refine (Yp 1 u (by decide)).mono ?_;rintro e w' ⟨A,c,rfl,h1,h2,h3,h4⟩;go_simp;exact hK _ _ (su.trans (h4.mono su.size)) h4 ⟨A,c,rfl,zH (JF h1 h2 h3)⟩
   ·intro bb u su dp kp K hK;have e11:gT bb 11 = .slice xB (nd q.den).length xd:=dp 1 _ rfl (by kernel_rfl);obtain ⟨A12,c12,e12,D12⟩:∃ A c,gT bb 12 = .slice A (nd (1)).length c /\ Hid (Dg u A c (nd (1))):=dp 2 _ rfl (by kernel_rfl);go_simp;refine (YG xB A12 xd c12 (q.den) (1) u (HxD2.out.below su) D12.out (by omega) (UB (q.den) (1)) (zH rfl)).mono ?_;rintro e w' ⟨rfl,n9,rfl⟩;go_simp;exact hK _ _ (su.trans (Ja _ _)) (Ja _ _) rfl
   ·intro bb u su dp kp K hK;have e13:gT bb 13 = .int .i64 (UB (q.den) (1)):=dp 3 _ rfl (by kernel_rfl);go_simp;exact hK _ _ su bR rfl
  ·intro bb u hN hdf su hG sm;have e14:gT bb 14 = .bool (UB q.den 1 != 0):=hG 4 _ rfl;have e1:gT bb 1 = .pointer (some ⟨w.heap.size,0,none⟩):=sm 1 (by kernel_rfl);have e2:gT bb 2 = .pointer (some ⟨w.heap.size + 1,0,none⟩):=sm 2 (by kernel_rfl);have e3:gT bb 3 = .pointer (some ⟨k,0,none⟩):=sm 3 (by kernel_rfl);rw [J6 bb 20 hN];simp only [show List.range 20 = [0,1,2,3,4,5,6,7,8,9,10,11,12,13,14,15,16,17,18,19] from rfl,List.map_cons,List.map_nil,e1,e2,e3,e14,hdf];clear e1 e2 e3 e14 hG sm hN hdf;generalize gT bb 0 = y0,gT bb 4 = y4,gT bb 5 = y5,gT bb 6 = y6,gT bb 7 = y7,gT bb 8 = y8,gT bb 9 = y9,gT bb 10 = y10,gT bb 11 = y11,gT bb 12 = y12,gT bb 13 = y13,gT bb 15 = y15,gT bb 16 = y16,gT bb 17 = y17,gT bb 18 = y18,gT bb 19 = y19;have X3:=zH (HBXV.out.below su);have B3:=zH (HB0V.out.trans (su.mono HB0V.out.size));have C3:=zH (fun u' (hu':Below u.heap.size u u')=>HCV.out u' (su.trans (hu'.mono su.size)));have N3:=zH (HxN2.out.below su);have D3:=zH (HxD2.out.below su);have M3:=zH (DN0.out.below su);have HK3:Hid (∀ u',Below u.heap.size u u' -> u'.cell? ⟨k,0,none⟩ = some (.bool (qs q)) /\ u'.cell? ⟨k,1,none⟩ = some (.slice A9 (nd (qn q)).length c9) /\ u'.cell? ⟨k,2,none⟩ = some (.slice none 0 0) /\ u'.frozen? ⟨k,2,none⟩ = false):=zH (fun u' hu'=>by
    have hb:=su.trans (hu'.mono su.size);obtain ⟨x0,x1,x2,x3⟩:=HCK.out;exact ⟨(hb.cell (p:=⟨k,0,none⟩) hkl.out).trans x0,(hb.cell (p:=⟨k,1,none⟩) hkl.out).trans x1,(hb.cell (p:=⟨k,2,none⟩) hkl.out).trans x2,(hb.frozen (p:=⟨k,2,none⟩) hkl.out).trans x3⟩)
   have HRK3:=zH ((su.block k hkl.out).trans HRK.out);have hkl3:k < u.heap.size:=Nat.lt_of_lt_of_le hkl.out su.size;clear HBXV HB0V HCV HxN2 HxD2 DN0 HCK hkl SV0 su;by_cases h1:q.den = 1
   ·have hq:(UB q.den 1 != 0) = false:=(by rw [YT h1];rfl);rw [hq];have HD:Hid (den q.den = []):=zH (by unfold den;rw [if_pos h1]);clear hq h1;obtain ⟨c0,c1,c2,f2'⟩:=HK3.out u bR;obtain ⟨k0,k1,k2,f0,f1,f2⟩:=X3.out.facts;go_wp2_with fail;obtain ⟨g0,g1,g2⟩:=Z7 (.bool (qs q)) (.slice A9 (nd (qn q)).length c9) (.slice none 0 0) k0 k1 k2;refine bodyPost_ret (v:=.agg #[.bool (qs q),.slice A9 (nd (qn q)).length c9,.slice none 0 0]) (by simp [results,Tryz.results136,go_sem,g0,g1,g2]) rfl ?_;exact ⟨⟨qs q,A9,c9,_,none,0,[]⟩,rfl,J2 (x:=⟨qs q,A9,c9,_,none,0,[]⟩) ⟨⟨M3.out,Dg.none _⟩,rfl,rfl,HD.out.symm⟩ X3.out _ _ _,Ji B3.out (by omega) _ _ _⟩
   ·have hq:(UB q.den 1 != 0) = true:=by
     have hne:UB q.den 1 ≠ 0:=(by unfold UB;split <;> simp_all);simpa using hne
    rw [hq];have HD:Hid (den q.den = nd q.den):=zH (by unfold den;rw [if_neg h1]);obtain ⟨cc0,cc1,cc2⟩:=C3.out u bR;have CL:=zH (ZbF xB xd q.den u D3.out (by omega));clear hq h1 C3;go_wp2_with fail;refine CL.out.mono ?_;rintro e w6 ⟨A6,c6,rfl,s1,s2,s3,s4⟩;have D6:=zH (JF s1 s2 s3);have B6:=zH s4;have X6:=zH (X3.out.below s4);have M6:=zH (M3.out.below s4);obtain ⟨c0,c1,c2,f2'⟩:=HK3.out w6 s4;have hne:¬ w.heap.size + 1 = k:=(by omega);have hne':¬ k = w.heap.size + 1:=(by omega);obtain ⟨k0,k1,k2,f0,f1,f2⟩:=X6.out.facts;clear s1 s2 s3 s4 CL cc0 cc1 cc2 HK3 M3;go_wp2_with fail;have HR6:=zH ((B6.out.block k hkl3).trans HRK3.out);have hap:∀ b,b ≠ k -> b < w6.heap.size -> (w6.setCell ⟨k,2,none⟩ (.slice A6 (nd q.den).length c6)).heap[b]? = w6.heap[b]?:=fun b hb _=>Below.heap_setCell w6 ⟨k,2,none⟩ _ b hb;have M7:Hid (Dg (w6.setCell ⟨k,2,none⟩ (.slice A6 (nd q.den).length c6)) A9 c9 (nd (qn q))):=zH ⟨M6.out.lies.apartRow HR6.out (by simp) hap,M6.out.dig,M6.out.cap,M6.out.nil⟩;have D7:Hid (Dg (w6.setCell ⟨k,2,none⟩ (.slice A6 (nd q.den).length c6)) A6 c6 (nd q.den)):=zH ⟨D6.out.lies.apartRow HR6.out (by simp) hap,D6.out.dig,D6.out.cap,D6.out.nil⟩;have X7:Hid (Bt 28 (w6.setCell ⟨k,2,none⟩ (.slice A6 (nd q.den).length c6)) (w.heap.size + 1)):=zH ((hap _ hne X6.out.lt).trans X6.out);have B7:=zH ((B3.out.trans (B6.out.mono B3.out.size)).setCell (p:=⟨k,2,none⟩) (by simp;omega) (.slice A6 (nd q.den).length c6));obtain ⟨m0,m1,m2,-,-,-⟩:=X7.out.facts;obtain ⟨g0,g1,g2⟩:=Z7 (.bool (qs q)) (.slice A9 (nd (qn q)).length c9) (.slice A6 (nd q.den).length c6) m0 m1 m2;refine bodyPost_ret (v:=.agg #[.bool (qs q),.slice A9 (nd (qn q)).length c9,.slice A6 (nd q.den).length c6]) (by simp [results,Tryz.results136,go_sem,g0,g1,g2]) rfl ?_;exact ⟨⟨qs q,A9,c9,_,A6,c6,_⟩,rfl,J2 (x:=⟨qs q,A9,c9,_,A6,c6,_⟩) ⟨⟨M7.out,D7.out⟩,rfl,rfl,HD.out.symm⟩ X7.out _ _ _,Ji B7.out (by omega) _ _ _⟩
end Go.Proofs.YtcjicjfbippmnaaGreat
namespace Go.Proofs.YtcjicjfbippmnaaGreat
open Go.RowKit Ear

def kx (l:List Int) (j i:Nat):Int:=if i < j then l[i]?.getD 0 + 1 else 0
def kcs (l:List Int) (j:Nat):Array Value:=#[.int .i64 (kx l j 0),.int .i64 (kx l j 1),.int .i64 (kx l j 2),.int .i64 (kx l j 3)]
theorem Zir {l:List Int} {j:Nat} (hj:j < 4):(kcs l j).setIfInBounds j (.int .i64 (l[j]?.getD 0 + 1)) = kcs l (j + 1):=by
 rcases (show j = 0 ∨ j = 1 ∨ j = 2 ∨ j = 3 by omega) with rfl | rfl | rfl | rfl <;> simp [kcs,kx]
theorem Zg4 (l:List Int):kcs l 0 = #[.int .i64 0,.int .i64 0,.int .i64 0,.int .i64 0]:=by simp [kcs,kx]
abbrev K4:=Int × Int × Int × Int
def ek (k:K4):Value:=.agg #[.int .i64 k.1,.int .i64 k.2.1,.int .i64 k.2.2.1,.int .i64 k.2.2.2]
theorem Y6:Inj ek:=fun a b h=>by
 obtain ⟨a0,a1,a2,a3⟩:=a;obtain ⟨b0,b1,b2,b3⟩:=b;simp [ek] at h;obtain ⟨rfl,rfl,rfl,rfl⟩:=h;rfl
def kOf (l:List Int):K4:=(kx l l.length 0,kx l l.length 1,kx l l.length 2,kx l l.length 3)
theorem JM {t:TypeId} {w:World} {k:Nat} {cs:Array Value} (h:w.heap[k]? = some (.cells cs t (0,0))) (j:Nat) (v:Value):(w.setCell ⟨k,j,none⟩ v).heap[k]? = some (.cells (cs.setIfInBounds j v) t (0,0)):=by
 simp [World.setCell,Array.getElem?_modify,h]
theorem Zu (A:Option Addr) (c:Nat) (l:List Int) (w:World) (h:Lies w A (ics l)) (hl:l.length <= 4) (hb:Hid (∀ x ∈ l,0 <= x /\ x <= 1000000)) :
  Calls Tryz.prog 157 #[.slice A l.length c] w fun e w'=>e = .returned (ek (kOf l)) /\ Below w.heap.size w w':=by
 obtain ⟨W,hW⟩:∃ W:World,W = (w.alloc (.cells #[.int .i64 0,.int .i64 0,.int .i64 0,.int .i64 0] 203)).alloc (.cells #[.int .i64 0,.int .i64 0,.int .i64 0,.int .i64 0] 203):=⟨_,rfl⟩;have HB0:Hid (Below w.heap.size w W):=zH (by rw [hW];exact (bR.alloc nR _).alloc (by simp) _);have HK:Hid (W.heap[w.heap.size + 1]? = some (.cells (kcs l 0) 203 (0,0))):=zH (by rw [hW,Zg4];have:=heap_alloc_new (w.alloc (.cells #[.int .i64 0,.int .i64 0,.int .i64 0,.int .i64 0] 203)) (.cells #[.int .i64 0,.int .i64 0,.int .i64 0,.int .i64 0] 203);simpa using this);have HR:Hid (W.heap[w.heap.size]? = some (.cells #[.int .i64 0,.int .i64 0,.int .i64 0,.int .i64 0] 203 (0,0))):=zH (by rw [hW];exact (Below.heap_alloc _ _ _ (by simp)).trans (heap_alloc_new w _));have H:=zH h;clear h;go_enter Tryz.func157,Tryz.ntmps157;go_wp2_with fail;rw [<- hW];clear hW;go_loopw [8] (fun i wr=>∃ j:Nat,j <= l.length /\ i = .int .i64 j /\ Hid (wr.heap[w.heap.size + 1]? = some (.cells (kcs l j) 203 (0,0))) /\ Hid (wr.heap[w.heap.size]? = some (.cells #[.int .i64 0,.int .i64 0,.int .i64 0,.int .i64 0] 203 (0,0))) /\ Hid (Below w.heap.size w wr)) (fun i _=>l.length - (intOf i).toNat)
 case atStart=>exact ⟨0,by omega,rfl,HK,HR,HB0⟩
 case round=>
  obtain ⟨j,hj,rfl,HKr,HRr,HBr⟩:=hrel;clear HK HR HB0;by_cases hlt:j < l.length
  ·obtain ⟨bx,ox,rfl,hbx,hcx⟩:=(H.out.below HBr.out).at_ hlt;have hx:=hb.out _ (yM hlt);have HS:=zH (Zir (l:=l) (j:=j) (by omega));have e1:l[j]?.getD 0 = l[j]:=(by rw [gE hlt];rfl);rw [e1] at HS hcx;clear e1;generalize l[j] = x at *
   have q1:∃ u,wr.cell? ⟨w.heap.size + 1,j,none⟩ = some u:=by
    rw [cell_of_row wr _ j _ _ _ HKr.out];have hs:j < (kcs l j).size:=(by simp [kcs];omega);exact ⟨_,Array.getElem?_eq_getElem hs⟩
   obtain ⟨u,q1⟩:=q1;have q2:wr.frozen? ⟨w.heap.size + 1,j,none⟩ = false:=Jm HKr.out j;have hj4:j < 4:=(by omega);go_wp2_with fail;refine ⟨⟨j + 1,by omega,by go_num,zH ?_,zH ?_,zH ?_⟩,by simp [intOf];omega⟩
   ·rw [JM HKr.out,HS.out]
   ·exact (Below.heap_setCell _ _ _ _ (by simp)).trans HRr.out
   ·exact HBr.out.setCell (by simp) _
  ·obtain rfl:j = l.length:=by omega
   have k0:=cell_of_row wr _ 0 _ _ _ HKr.out;have k1:=cell_of_row wr _ 1 _ _ _ HKr.out;have k2:=cell_of_row wr _ 2 _ _ _ HKr.out;have k3:=cell_of_row wr _ 3 _ _ _ HKr.out;have r0:=cell_of_row wr _ 0 _ _ _ HRr.out;have r1:=cell_of_row wr _ 1 _ _ _ HRr.out;have r2:=cell_of_row wr _ 2 _ _ _ HRr.out;have r3:=cell_of_row wr _ 3 _ _ _ HRr.out;have f0:wr.frozen? ⟨w.heap.size,0,none⟩ = false:=Jm HRr.out 0;have f1:wr.frozen? ⟨w.heap.size,1,none⟩ = false:=Jm HRr.out 1;have f2:wr.frozen? ⟨w.heap.size,2,none⟩ = false:=Jm HRr.out 2;have f3:wr.frozen? ⟨w.heap.size,3,none⟩ = false:=Jm HRr.out 3;simp [kcs] at k0 k1 k2 k3 r0 r1 r2 r3;go_wp2_with fail;have R4:=JM (JM (JM (JM HRr.out 0 (.int .i64 (kx l l.length 0))) 1 (.int .i64 (kx l l.length 1))) 2 (.int .i64 (kx l l.length 2))) 3 (.int .i64 (kx l l.length 3));have g0:=cR 0 R4;have g1:=cR 1 R4;have g2:=cR 2 R4;have g3:=cR 3 R4;simp at g0 g1 g2 g3;refine bodyPost_ret (v:=ek (kOf l)) (by simp [results,Tryz.results157,go_sem,g0,g1,g2,g3,ek,kOf]) rfl ?_;exact ⟨rfl,(((HBr.out.setCell nR _).setCell nR _).setCell nR _).setCell nR _⟩
end Go.Proofs.YtcjicjfbippmnaaGreat
