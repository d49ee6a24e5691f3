/- TalkNil -/
import Derived.Test.YtfbdihpllmhcnaaGreatDoorMTNil11
set_option maxRecDepth 100000
set_option maxHeartbeats 32000000
namespace Go.Proofs.YtfbdihpllmhcnaaGreatDoor
open Go.RowKit Ear
set_option linter.unusedVariables false

structure Fv (w:World) (x:Fr) (q:Rat):Prop where
 n:Dg w x.A x.c x.N
 d:Dg w x.B x.d x.D
 val:fq x.neg (vl x.N).toNat (vl x.D).toNat = q
theorem Fv.below {w w':World} {x:Fr} {q:Rat} (h:Fv w x q) (hb:Below w.heap.size w w'):Fv w' x q:=⟨h.n.below hb,h.d.below hb,h.val⟩
theorem ZgQ (d:Nat):(vl (den d)).toNat = if d = 1 then 0 else d:=by
 unfold den
 split
 ·rfl
 ·rw [Jw];simp
theorem ZhN (a:Bool) (n d:Nat):fq a n (vl (den d)).toNat = fq a n d:=by
 rw [ZgQ]
 split
 ·subst_vars;rfl
 ·rfl
theorem Fq.fv {w:World} {x:Fr} {q:Rat} (h:Fq w x q):Fv w x q:=
 ⟨h.ok.n,h.ok.d,by rw [h.neg,h.num,h.dn,ZhN,Jw,Int.toNat_natCast,Xx]⟩
theorem ZgR (d:Nat):(den d).length <= (nd d).length:=by
 unfold den
 split
 ·simp
 ·exact Nat.le_refl _
structure Few (x:Fr) (k:Nat):Prop where
 n:x.N.length <= k
 d:x.D.length <= k
theorem Fq.few {w:World} {x:Fr} {q:Rat} {k:Nat} (h:Fq w x q) (hs:Sz q k):Few x k:=
 ⟨by rw [h.num];exact hs.num,by rw [h.dn];exact tR (ZgR _) hs.den⟩
theorem Fv.sz {w:World} {x:Fr} {q:Rat} {k:Nat} (h:Fv w x q) (hf:Few x k) (hk : 1 <= k):Sz q k:=by
 rw [<- h.val]
 have hn:(nd (vl x.N).toNat).length <= k:=tR (JC h.n.dig (by have:=Jv h.n.dig;omega)) hf.n
 by_cases h0:(vl x.D).toNat = 0
 ·have e:fq x.neg (vl x.N).toNat (vl x.D).toNat = fq x.neg (vl x.N).toNat 1:=by rw [h0];rfl
  rw [e]
  exact Sz.fq (by decide) hn (by rw [Zh];exact hk)
 ·exact Sz.fq h0 hn (tR (JC h.d.dig (by have:=Jv h.d.dig;omega)) hf.d)
theorem Xy (x:Fr) (q:Rat) (w:World) (hx:Fv w x q) (hf:Few x 390000):Calls Tryz.prog 74 #[x.val] w (Uw q w):=by
 obtain ⟨xn,xA,xc,xN,xB,xd,xD⟩:=x
 obtain ⟨HxN,HxD,hval⟩:=hx
 obtain ⟨f1,f2⟩:=hf
 simp only at HxN HxD hval f1 f2
 simp only [Fr.val]
 have hn0:=Jv HxN.dig
 have hd0:=Jv HxD.dig
 obtain ⟨n,hn⟩:∃ n:Nat,(vl xN).toNat = n:=⟨_,rfl⟩
 obtain ⟨v,hv⟩:∃ v:Nat,(vl xD).toNat = v:=⟨_,rfl⟩
 have HNV:Hid (vl xN = (n:Int)):=zH (by omega)
 have HDV:Hid (vl xD = (v:Int)):=zH (by omega)
 rw [hn,hv] at hval
 have HQ:=zH hval.symm
 have LN:Hid ((nd n).length <= 400000):=zH (tR (JC HxN.dig HNV.out) (by omega))
 have LD:Hid ((nd v).length <= 400000):=zH (tR (JC HxD.dig HDV.out) (by omega))
 clear hn hv hval hn0 hd0
 obtain ⟨W,hW⟩:∃ W:World,W = (w.alloc (.cells #[.bool xn,.slice xA xN.length xc,.slice xB xD.length xd] 26)).alloc (.cells #[.bool false,.slice none 0 0,.slice none 0 0] 158):=⟨_,rfl⟩
 have hs:W.heap.size = w.heap.size + 2:=by rw [hW];simp
 have HB0:Hid (Below w.heap.size w W):=zH (by rw [hW];exact al2 w _ _)
 have HBX:Hid (Bt 158 W (w.heap.size + 1)):=zH (by rw [hW];have:=Bt.new 158 (w.alloc (.cells #[.bool xn,.slice xA xN.length xc,.slice xB xD.length xd] 26));simpa using this)
 have HC0:Hid (∀ u,Below W.heap.size W u -> u.cell? ⟨w.heap.size,0,none⟩ = some (.bool xn) /\ u.cell? ⟨w.heap.size,1,none⟩ = some (.slice xA xN.length xc) /\ u.cell? ⟨w.heap.size,2,none⟩ = some (.slice xB xD.length xd)):=zH (fun u hu=>by
  rw [hu.cell (p:=⟨w.heap.size,0,none⟩) (by simp;omega),hu.cell (p:=⟨w.heap.size,1,none⟩) (by simp;omega),hu.cell (p:=⟨w.heap.size,2,none⟩) (by simp;omega),hW]
  simp [go_sem])
 have HxN1:=zH (HxN.below HB0.out)
 have HxD1:=zH (HxD.below HB0.out)
 have T1:=zH (YP xB xd xD W HxD1.out (by omega) v HDV)
 clear HxN HxD
 go_enter Tryz.func74,Tryz.ntmps74
 go_wp2_with fail
 rw [<- hW]
 clear hW
 refine T1.out.mono ?_
 rintro e w2 ⟨A3,c3,rfl,s1,s2,s3,s4⟩
 have D3:=zH (Jy s1 s2 s3)
 have SV:=zH s4
 clear s1 s2 s3 s4 T1
 by_cases hv0:v = 0
 ·subst hv0
  have hl:(nd 0).length = 0:=by rw [Jz];rfl
  rw [hl]
  clear hl
  have HE:Hid (q = fq xn n 1):=zH (by rw [HQ.out];rfl)
  have S1:=zH (XQ 1 w2 (by decide))
  clear D3 HQ
  go_wp2_with fail
  refine S1.out.mono ?_
  rintro e w3 ⟨A3,c3,rfl,s1,s2,s3,s4⟩
  have D3:=zH (Jy s1 s2 s3)
  have SV3:=zH (SV.out.trans (s4.mono SV.out.size))
  clear s1 s2 s3 s4 S1 SV
  have L1:Hid ((nd 1).length <= 400000):=zH (by rw [Zh];decide)
  have HxN3:=zH (HxN1.out.below SV3.out)
  have HBXV:=zH (HBX.out.below SV3.out)
  have HB0V:=zH (HB0.out.trans (SV3.out.mono HB0.out.size))
  have HC:=zH (fun u' (hu':Below w3.heap.size w3 u')=>(fun h=>(⟨h.1,h.2.1⟩ : _ /\ _)) (HC0.out u' (SV3.out.trans (hu'.mono SV3.out.size))))
  clear HBX HB0 HC0 HxN1 HxD1 SV3
  obtain ⟨V,rfl⟩:∃ X,X = w3:=⟨_,rfl⟩
  have HBX:=HBXV
  have HB0:=HB0V
  go_wp2_with fail
  refine Jj 7 18 rfl (by kernel_rfl) (by kernel_rfl) (by kernel_rfl) (by kernel_rfl) (fun u=>Below V.heap.size V u) (fun u u'=>Below u.heap.size u u') (Gl [isV (.pointer (some ⟨w.heap.size,0,none⟩)),isV (.bool xn),isV (.pointer (some ⟨w.heap.size,1,none⟩)),isV (.slice xA xN.length xc),isNd (n),isV (.slice A3 (nd 1).length c3),isNm (fq (xn) (n) (1))]) (Gl.keep (by
    intro p hp
    simp only [List.mem_cons,List.not_mem_nil,or_false] at hp
    rcases hp with rfl | rfl | rfl | rfl | rfl | rfl | rfl
    ·exact Keeps.isV _
    ·exact Keeps.isV _
    ·exact Keeps.isV _
    ·exact Keeps.isV _
    ·exact Keeps.isNd _
    ·exact Keeps.isV _
    ·exact Keeps.isNm _)) ?_ ?_ ?_
  ·exact (Below.refl _ V).drew
  ·simp only [List.pop_toArray,List.dropLast,Jp]
   refine ⟨?_,?_,?_,?_,?_,?_,?_,trivial⟩
   ·intro bb u su dp kp K hK
    have e1:gT bb 1 = .pointer (some ⟨w.heap.size,0,none⟩):=kp 1 (by kernel_rfl)
    go_simp
    exact hK _ _ su bR rfl
   ·intro bb u su dp kp K hK
    have e11:gT bb 11 = .pointer (some ⟨w.heap.size,0,none⟩):=dp 0 _ rfl (by kernel_rfl)
    obtain ⟨cc0,cc1⟩:=HC.out u su
    go_simp
    exact hK _ _ su bR rfl
   ·intro bb u su dp kp K hK
    have e1:gT bb 1 = .pointer (some ⟨w.heap.size,0,none⟩):=kp 1 (by kernel_rfl)
    go_simp
    exact hK _ _ su bR rfl
   ·intro bb u su dp kp K hK
    have e13:gT bb 13 = .pointer (some ⟨w.heap.size,1,none⟩):=dp 2 _ rfl (by kernel_rfl)
    obtain ⟨cc0,cc1⟩:=HC.out u su
    go_simp
    exact hK _ _ su bR rfl
   ·intro bb u su dp kp K hK
    have e14:gT bb 14 = .slice xA xN.length xc:=dp 3 _ rfl (by kernel_rfl)
    go_simp
    refine (YP xA xc xN u (HxN3.out.below su) (by omega) (n) (zH HNV.out)).mono ?_
    rintro e w' ⟨A,c,rfl,h1,h2,h3,h4⟩
    go_simp
    exact hK _ _ (su.trans (h4.mono su.size)) h4 ⟨A,c,rfl,zH (Jy h1 h2 h3)⟩
   ·intro bb u su dp kp K hK
    have e3:gT bb 3 = .slice A3 (nd 1).length c3:=kp 3 (by kernel_rfl)
    go_simp
    exact hK _ _ su bR rfl
   ·intro bb u su dp kp K hK
    have e12:gT bb 12 = .bool xn:=dp 1 _ rfl (by kernel_rfl)
    obtain ⟨A15,c15,e15,D15⟩:∃ A c,gT bb 15 = .slice A (nd (n)).length c /\ Hid (Dg u A c (nd (n))):=dp 4 _ rfl (by kernel_rfl)
    have e16:gT bb 16 = .slice A3 (nd 1).length c3:=dp 5 _ rfl (by kernel_rfl)
    go_simp
    refine (Xr (xn) A15 A3 c15 c3 (n) (1) u D15.out (D3.out.below su) LN.out L1.out (by decide)).mono ?_
    rintro e w' ⟨r,rfl,hr,h4⟩
    go_simp
    exact hK _ _ (su.trans (h4.mono su.size)) h4 ⟨r,rfl,zH hr⟩
  ·intro bb u hN hdf su hG sm
   obtain ⟨r,e17,hr⟩:∃ r:Fr,gT bb 17 = r.val /\ Hid (Nm u r (fq (xn) (n) (1))):=hG 6 _ rfl
   have e2:gT bb 2 = .pointer (some ⟨w.heap.size + 1,0,none⟩):=sm 2 (by kernel_rfl)
   have BX2:=zH (HBX.out.below su)
   obtain ⟨c0,c1,c2,f0,f1,f2⟩:=BX2.out.facts
   have HB2:=zH (HB0.out.trans (su.mono HB0.out.size))
   clear su hG sm
   rw [JS bb 18 hN]
   simp only [show List.range 18 = [0,1,2,3,4,5,6,7,8,9,10,11,12,13,14,15,16,17] from rfl,List.map_cons,List.map_nil,e2,e17,hdf]
   clear e2 e17 hN hdf
   generalize gT bb 0 = z0,gT bb 1 = z1,gT bb 3 = z3,gT bb 4 = z4,gT bb 5 = z5,gT bb 6 = z6,gT bb 7 = z7,gT bb 8 = z8,gT bb 9 = z9,gT bb 10 = z10,gT bb 11 = z11,gT bb 12 = z12,gT bb 13 = z13,gT bb 14 = z14,gT bb 15 = z15,gT bb 16 = z16
   obtain ⟨rn,rA,rc,rN,rB,rd,rD⟩:=r
   refine PopQ.last rfl rfl (fun K hK=>?_)
   go_simp
   refine hK _ _ ?_
   clear hK K
   go_wp2_with fail
   obtain ⟨g0,g1,g2⟩:=Zy (.bool rn) (.slice rA rN.length rc) (.slice rB rD.length rd) c0 c1 c2
   refine bodyPost_ret (v:=.agg #[.bool rn,.slice rA rN.length rc,.slice rB rD.length rd]) (by simp [results,Tryz.results74,go_sem,g0,g1,g2]) rfl ?_
   exact ⟨⟨rn,rA,rc,rN,rB,rd,rD⟩,rfl,(by rw [HE.out];exact Yj hr.out BX2.out _ _ _),Jh HB2.out (by omega) _ _ _⟩
 ·have hl0:(nd v).length ≠ 0:=fun e=>hv0 (Jt.1 e)
  have hq:(((nd v).length:Int) == 0) = false:=beq_eq_false_iff_ne.2 (by omega)
  have HE:=HQ
  have HxN3:=zH (HxN1.out.below SV.out)
  have HBXV:=zH (HBX.out.below SV.out)
  have HB0V:=zH (HB0.out.trans (SV.out.mono HB0.out.size))
  have HC:=zH (fun u' (hu':Below w2.heap.size w2 u')=>(fun h=>(⟨h.1,h.2.1⟩ : _ /\ _)) (HC0.out u' (SV.out.trans (hu'.mono SV.out.size))))
  clear HBX HB0 HC0 HxN1 HxD1 SV hl0
  obtain ⟨V,rfl⟩:∃ X,X = w2:=⟨_,rfl⟩
  have HBX:=HBXV
  have HB0:=HB0V
  go_wp2_with fail
  refine Jj 7 18 rfl (by kernel_rfl) (by kernel_rfl) (by kernel_rfl) (by kernel_rfl) (fun u=>Below V.heap.size V u) (fun u u'=>Below u.heap.size u u') (Gl [isV (.pointer (some ⟨w.heap.size,0,none⟩)),isV (.bool xn),isV (.pointer (some ⟨w.heap.size,1,none⟩)),isV (.slice xA xN.length xc),isNd (n),isV (.slice A3 (nd v).length c3),isNm (fq (xn) (n) (v))]) (Gl.keep (by
    intro p hp
    simp only [List.mem_cons,List.not_mem_nil,or_false] at hp
    rcases hp with rfl | rfl | rfl | rfl | rfl | rfl | rfl
    ·exact Keeps.isV _
    ·exact Keeps.isV _
    ·exact Keeps.isV _
    ·exact Keeps.isV _
    ·exact Keeps.isNd _
    ·exact Keeps.isV _
    ·exact Keeps.isNm _)) ?_ ?_ ?_
  ·exact (Below.refl _ V).drew
  ·simp only [List.pop_toArray,List.dropLast,Jp]
   refine ⟨?_,?_,?_,?_,?_,?_,?_,trivial⟩
   ·intro bb u su dp kp K hK
    have e1:gT bb 1 = .pointer (some ⟨w.heap.size,0,none⟩):=kp 1 (by kernel_rfl)
    go_simp
    exact hK _ _ su bR rfl
   ·intro bb u su dp kp K hK
    have e11:gT bb 11 = .pointer (some ⟨w.heap.size,0,none⟩):=dp 0 _ rfl (by kernel_rfl)
    obtain ⟨cc0,cc1⟩:=HC.out u su
    go_simp
    exact hK _ _ su bR rfl
   ·intro bb u su dp kp K hK
    have e1:gT bb 1 = .pointer (some ⟨w.heap.size,0,none⟩):=kp 1 (by kernel_rfl)
    go_simp
    exact hK _ _ su bR rfl
   ·intro bb u su dp kp K hK
    have e13:gT bb 13 = .pointer (some ⟨w.heap.size,1,none⟩):=dp 2 _ rfl (by kernel_rfl)
    obtain ⟨cc0,cc1⟩:=HC.out u su
    go_simp
    exact hK _ _ su bR rfl
   ·intro bb u su dp kp K hK
    have e14:gT bb 14 = .slice xA xN.length xc:=dp 3 _ rfl (by kernel_rfl)
    go_simp
    refine (YP xA xc xN u (HxN3.out.below su) (by omega) (n) (zH HNV.out)).mono ?_
    rintro e w' ⟨A,c,rfl,h1,h2,h3,h4⟩
    go_simp
    exact hK _ _ (su.trans (h4.mono su.size)) h4 ⟨A,c,rfl,zH (Jy h1 h2 h3)⟩
   ·intro bb u su dp kp K hK
    have e3:gT bb 3 = .slice A3 (nd v).length c3:=kp 3 (by kernel_rfl)
    go_simp
    exact hK _ _ su bR rfl
   ·intro bb u su dp kp K hK
    have e12:gT bb 12 = .bool xn:=dp 1 _ rfl (by kernel_rfl)
    obtain ⟨A15,c15,e15,D15⟩:∃ A c,gT bb 15 = .slice A (nd (n)).length c /\ Hid (Dg u A c (nd (n))):=dp 4 _ rfl (by kernel_rfl)
    have e16:gT bb 16 = .slice A3 (nd v).length c3:=dp 5 _ rfl (by kernel_rfl)
    go_simp
    refine (Xr (xn) A15 A3 c15 c3 (n) (v) u D15.out (D3.out.below su) LN.out LD.out hv0).mono ?_
    rintro e w' ⟨r,rfl,hr,h4⟩
    go_simp
    exact hK _ _ (su.trans (h4.mono su.size)) h4 ⟨r,rfl,zH hr⟩
  ·intro bb u hN hdf su hG sm
   obtain ⟨r,e17,hr⟩:∃ r:Fr,gT bb 17 = r.val /\ Hid (Nm u r (fq (xn) (n) (v))):=hG 6 _ rfl
   have e2:gT bb 2 = .pointer (some ⟨w.heap.size + 1,0,none⟩):=sm 2 (by kernel_rfl)
   have BX2:=zH (HBX.out.below su)
   obtain ⟨c0,c1,c2,f0,f1,f2⟩:=BX2.out.facts
   have HB2:=zH (HB0.out.trans (su.mono HB0.out.size))
   clear su hG sm
   rw [JS bb 18 hN]
   simp only [show List.range 18 = [0,1,2,3,4,5,6,7,8,9,10,11,12,13,14,15,16,17] from rfl,List.map_cons,List.map_nil,e2,e17,hdf]
   clear e2 e17 hN hdf
   generalize gT bb 0 = z0,gT bb 1 = z1,gT bb 3 = z3,gT bb 4 = z4,gT bb 5 = z5,gT bb 6 = z6,gT bb 7 = z7,gT bb 8 = z8,gT bb 9 = z9,gT bb 10 = z10,gT bb 11 = z11,gT bb 12 = z12,gT bb 13 = z13,gT bb 14 = z14,gT bb 15 = z15,gT bb 16 = z16
   obtain ⟨rn,rA,rc,rN,rB,rd,rD⟩:=r
   refine PopQ.last rfl rfl (fun K hK=>?_)
   go_simp
   refine hK _ _ ?_
   clear hK K
   go_wp2_with fail
   obtain ⟨g0,g1,g2⟩:=Zy (.bool rn) (.slice rA rN.length rc) (.slice rB rD.length rd) c0 c1 c2
   refine bodyPost_ret (v:=.agg #[.bool rn,.slice rA rN.length rc,.slice rB rD.length rd]) (by simp [results,Tryz.results74,go_sem,g0,g1,g2]) rfl ?_
   exact ⟨⟨rn,rA,rc,rN,rB,rd,rD⟩,rfl,(by rw [HE.out];exact Yj hr.out BX2.out _ _ _),Jh HB2.out (by omega) _ _ _⟩
end Go.Proofs.YtfbdihpllmhcnaaGreatDoor
namespace Ear

def UL (gs:List (List (List Int))):Bool:=gs.all (fun g=>!g.isEmpty) && Zn gs.flatten
def ZdU (gs:List (List (List Int))):Int:=if 60 < gs.length ∨ 10000 < gs.flatten.length then 5 else if UL gs = true then 0 else 2
theorem Zce (vs:List (List Int)) (v:List Int):Zn (vs ++ [v]) = (Zn vs && okV (if vs = [] then v.length else len0 vs) v):=by
 cases vs with
 | nil=>simp [Zn,len0]
 | cons x l=>simp [Zn,len0,Bool.and_assoc]
theorem ZcW {a b:List (List Int)} (h:Zn (a ++ b) = true):Zn a = true:=by
 cases a with
 | nil=>rfl
 | cons x l=>
  unfold Zn at *
  rw [List.all_append,Bool.and_eq_true] at h
  exact h.1
theorem ZdH {vs:List (List Int)} {v:List Int}:len0 (vs ++ [v]) = if vs = [] then v.length else len0 vs:=by
 cases vs <;> simp [len0]
theorem ZdG {vs:List (List Int)} (h:Zn vs = true):len0 vs = 0 ↔ vs = []:=by
 cases vs with
 | nil=>simp [len0]
 | cons x l=>
  have:=(ZB h (List.mem_cons_self ..)).2.1
  simp [len0]
  rintro rfl
  simp at this
def flK (gs:List (List (List Int))) (k:Nat):List (List Int):=(gs.take k).flatten
theorem QL (gs:List (List (List Int))):flK gs 0 = []:=by simp [flK]
theorem QM {gs:List (List (List Int))} {k:Nat} (hk:k < gs.length):flK gs (k + 1) = flK gs k ++ gs[k]:=by
 unfold flK
 rw [List.take_succ_eq_append_getElem hk,List.flatten_append]
 simp only [List.flatten_cons,List.flatten_nil,List.append_nil]
theorem Zbr {gs:List (List (List Int))} {k:Nat} (hk:gs.length <= k):flK gs k = gs.flatten:=by simp [flK,List.take_of_length_le hk]
theorem ZgJ {gs:List (List (List Int))} {k:Nat}:∃ r,gs.flatten = flK gs k ++ r:=⟨(gs.drop k).flatten,by rw [flK,<- List.flatten_append,List.take_append_drop]⟩
theorem ZhO {gs:List (List (List Int))} {k:Nat} (hk:k < gs.length) (j:Nat):∃ r,gs.flatten = flK gs k ++ gs[k].take j ++ r:=by
 obtain ⟨r,hr⟩:=ZgJ (gs:=gs) (k:=k + 1)
 refine ⟨gs[k].drop j ++ r,?_⟩
 rw [hr,QM hk]
 conv=>lhs;rw [<- List.take_append_drop j gs[k]]
 simp only [List.append_assoc]
theorem ZgK {gs:List (List (List Int))} (h:∀ g ∈ gs,g.length <= 10000) (k:Nat) (hk:k <= 1000):(flK gs k).length <= 10000000:=by
 have key:∀ k,(flK gs k).length <= k * 10000:=by
  intro k
  induction k with
  | zero=>simp [flK]
  | succ k ih=>
   by_cases hlt:k < gs.length
   ·rw [QM hlt,List.length_append]
    have:=h _ (List.getElem_mem hlt)
    omega
   ·have e:flK gs (k + 1) = flK gs k:=(Zbr (gs:=gs) (k:=k + 1) (by omega)).trans (Zbr (gs:=gs) (k:=k) (by omega)).symm
    rw [e]
    exact Nat.le_trans ih (Nat.mul_le_mul_right _ (Nat.le_succ k))
 have:=key k
 omega
theorem ZdT {gs:List (List (List Int))} {k:Nat} (hk:k < gs.length) (he:gs[k] = []):UL gs = false:=by
 unfold UL
 rw [Bool.and_eq_false_iff]
 left
 rw [List.all_eq_false]
 exact ⟨_,List.getElem_mem hk,by simp [he]⟩
theorem ZgC {gs:List (List (List Int))} {k j:Nat} (hk:k < gs.length) (hj:j < gs[k].length) (h:Zn (flK gs k ++ gs[k].take j ++ [gs[k][j]]) = false):UL gs = false:=by
 unfold UL
 rw [Bool.and_eq_false_iff]
 right
 obtain ⟨r,hr⟩:=ZhO hk (j + 1)
 rw [List.take_succ_eq_append_getElem hj] at hr
 rw [Bool.eq_false_iff]
 intro ht
 rw [hr] at ht
 have:=ZcW ht
 rw [<- List.append_assoc] at this
 rw [this] at h
 cases h
end Ear
namespace Go.Proofs.YtfbdihpllmhcnaaGreatDoor
open Go.RowKit Ear

abbrev Grp:=Option Addr × Nat × List Inn
abbrev gcs (G:List Grp):List Value:=G.map fun g=>Value.slice g.1 g.2.2.length g.2.1
abbrev gvs (G:List Grp):List (List (List Int)):=G.map fun g=>Ju g.2.2
structure GG (w:World) (A:Option Addr) (G:List Grp):Prop where
 lies:Lies w A (gcs G)
 grp:∀ g ∈ G,LL w g.1 g.2.2
theorem GG.below {w w':World} {A:Option Addr} {G:List Grp} (h:GG w A G) (hb:Below w.heap.size w w'):GG w' A G:=⟨h.lies.below hb,fun g hg=>(h.grp g hg).below hb⟩
theorem Lies.gat {w:World} {A:Option Addr} {l:List Grp} (h:Lies w A (gcs l)) {k:Nat} (hk:k < l.length) :
  ∃ b off,A = some ⟨b,off,none⟩ /\ b < w.heap.size /\ w.cell? ⟨b,off + k,none⟩ = some (.slice l[k].1 l[k].2.2.length l[k].2.1):=by
 obtain ⟨b,off,e,hlt,hc⟩:=h (by simp;omega)
 exact ⟨b,off,e,hlt,hc k _ (by simp [gE hk])⟩
theorem ZaE (x:Int) (w:World):Calls Tryz.prog 68 #[.int .i64 x] w fun e w'=>e = .returned (.bool (!inR (-1048576) 1048576 x)) /\ w = w':=by
 by_cases h1:x < -1048576
 ·go_enter Tryz.func68,Tryz.ntmps68
  go_wp2_with fail
  go_ret
  exact ⟨Js (by simp [inR];omega),rfl⟩
 ·by_cases h2 : 1048576 < x
  ·go_enter Tryz.func68,Tryz.ntmps68
   go_wp2_with fail
   go_ret
   exact ⟨Js (by simp [inR];omega),rfl⟩
  ·go_enter Tryz.func68,Tryz.ntmps68
   go_wp2_with fail
   go_ret
   exact ⟨Js (by simp [inR];omega),rfl⟩
theorem XK:Pred 68 (fun x=>!inR (-1048576) 1048576 x):=⟨enters_of Tryz.func68 (by kernel_rfl) rfl,ZaE⟩
theorem Uo (A:Option Addr) (c:Nat) (G:List Grp) (w:World) (h:GG w A G) (hn:G.length <= 1000) (hg:Hid (∀ g ∈ G,g.2.2.length <= 10000)) (r:Int) (hr:Hid (ZdU (gvs G) = r)) :
  Calls Tryz.prog 34 #[.slice A G.length c] w fun e w'=>e = .returned (.int .i64 r) /\ w = w':=by
 have HGL:Hid ((gvs G).length = G.length):=zH (by simp)
 have HFL:=zH (fun k=>ZgK (gs:=gvs G) (fun g hg'=>by simp only [gvs,List.mem_map] at hg';obtain ⟨x,hx,rfl⟩:=hg';simpa using hg.out x hx) k)
 have HGK:Hid (∀ k (hk:k < G.length),(gvs G)[k]'(by rw [HGL.out];exact hk) = Ju G[k].2.2):=zH (fun k hk=>by simp)
 have HFS:Hid (∀ k (hk:k < G.length),flK (gvs G) (k + 1) = flK (gvs G) k ++ Ju G[k].2.2):=zH (fun k hk=>by rw [QM (by rw [HGL.out];exact hk),HGK.out k hk])
 have HALL:Hid (flK (gvs G) G.length = (gvs G).flatten):=zH (Zbr (by rw [HGL.out];omega))
 have H:=zH h
 clear h
 go_enter Tryz.func34,Tryz.ntmps34
 go_wp2_with fail
 go_loop [3,13] (fun n i=>∃ k:Nat,k <= G.length /\ i = .int .i64 k /\ n = .int .i64 ((flK (gvs G) k).length:Nat)) (fun _ i=>G.length - (intOf i).toNat)
 case atStart=>exact ⟨0,by omega,rfl,by rw [QL];rfl⟩
 case round=>
  obtain ⟨k,hk,rfl,rfl⟩:=hrel
  have hfl:=HFL.out k (by omega)
  by_cases hlt:k < G.length
  ·obtain ⟨bk,off,rfl,hbk,hc⟩:=H.out.lies.gat hlt
   have hgk:=hg.out _ (gM hlt)
   have HS:Hid ((flK (gvs G) (k + 1)).length = (flK (gvs G) k).length + G[k].2.2.length):=zH (by rw [HFS.out k hlt];simp)
   generalize G[k] = g at *
   generalize hm:(flK (gvs G) k).length = m at *
   have HM:=zH hm
   clear hm
   go_wp2_with fail
   exact ⟨⟨k + 1,by omega,by go_num,by rw [HS.out];go_num⟩,by simp [intOf];omega⟩
  ·obtain rfl:k = G.length:=by omega
   rw [HALL.out] at hfl ⊢
   have hr0:=hr.out
   unfold ZdU at hr0
   rw [HGL.out] at hr0
   have HR0:=zH hr0
   clear hr0
   generalize hm:(gvs G).flatten.length = m at *
   by_cases hlong : 60 < G.length ∨ 10000 < m
   ·have e5:r = 5:=by rw [<- HR0.out,if_pos hlong]
    subst e5
    clear hm HR0
    rcases (show 60 < G.length ∨ (¬ 60 < G.length /\ 10000 < m) by omega) with h1 | ⟨h1,h2⟩
    ·go_wp2_with fail
     go_ret
     exact ⟨rfl,rfl⟩
    ·go_wp2_with fail
     go_ret
     exact ⟨rfl,rfl⟩
   ·have h1:¬ 60 < G.length:=by omega
    have h2:¬ 10000 < m:=by omega
    have HBAD:Hid (UL (gvs G) = false -> r = 2):=zH (fun hb=>by rw [<- HR0.out,if_neg hlong,if_neg (by rw [hb];decide)])
    have HGOOD:Hid (UL (gvs G) = true -> r = 0):=zH (fun hb=>by rw [<- HR0.out,if_neg hlong,if_pos hb])
    clear hm HR0 hlong hr
    go_wp2_with fail
    go_loop [6,31] (fun s i=>∃ k:Nat,k <= G.length /\ i = .int .i64 k /\ s = .int .i64 (len0 (flK (gvs G) k):Nat) /\ Hid (∀ g ∈ (gvs G).take k,g ≠ []) /\ Hid (Zn (flK (gvs G) k) = true)) (fun _ i=>G.length - (intOf i).toNat)
    case atStart=>exact ⟨0,by omega,rfl,by rw [QL];rfl,zH (by simp),zH (by rw [QL];rfl)⟩
    case round=>
     obtain ⟨k,hk,rfl,rfl,HNE,HVO⟩:=hrel
     by_cases hlt:k < G.length
     ·obtain ⟨bk,off,rfl,hbk,hc⟩:=H.out.lies.gat hlt
      have hgk:=hg.out _ (gM hlt)
      have HLL:=zH (H.out.grp _ (gM hlt))
      have hgk2:=HGK.out k hlt
      have HEMP:Hid (G[k].2.2.length = 0 -> r = 2):=zH (fun he=>HBAD.out (ZdT (k:=k) (by rw [HGL.out];exact hlt) (by rw [hgk2];simpa using he)))
      have HVEC:Hid (∀ j (hj:j < G[k].2.2.length),Zn (flK (gvs G) k ++ (Ju G[k].2.2).take j ++ [G[k].2.2[j].2.2]) = false -> r = 2):=zH (fun j hj hb=>HBAD.out (ZgC (k:=k) (j:=j) (by rw [HGL.out];exact hlt) (by rw [hgk2];simpa using hj) (by simp only [hgk2];simpa using hb)))
      have HNX:Hid (flK (gvs G) (k + 1) = flK (gvs G) k ++ Ju G[k].2.2):=zH (HFS.out k hlt)
      have HNE2:Hid (G[k].2.2.length ≠ 0 -> ∀ g ∈ (gvs G).take (k + 1),g ≠ []):=zH (fun hne g hg'=>by
       rw [List.take_succ_eq_append_getElem (by rw [HGL.out];exact hlt),List.mem_append] at hg'
       rcases hg' with h' | h'
       ·exact HNE.out g h'
       ·rw [List.mem_singleton] at h'
        rw [h',hgk2]
        intro e
        exact hne (by simpa using e))
      clear hgk2 HNE
      generalize G[k] = g at *
      obtain ⟨gA,gc,gl⟩:=g
      simp only at *
      by_cases h0:gl.length = 0
      ·have hz:=HEMP.out h0
       subst hz
       have q0:((gl.length:Int) == 0) = true:=by simp [h0]
       clear HEMP HVEC HNX HNE2 h0 HBAD HGOOD
       go_wp2_with fail
       go_ret
       exact ⟨rfl,rfl⟩
      ·have q0:((gl.length:Int) == 0) = false:=by rw [beq_eq_false_iff_ne];omega
       have HNE3:=zH (HNE2.out h0)
       clear HEMP HNE2
       go_wp2_with fail
       go_loop [6,40] (fun s i=>∃ j:Nat,j <= gl.length /\ i = .int .i64 j /\ s = .int .i64 (len0 (flK (gvs G) k ++ (Ju gl).take j):Nat) /\ Hid (Zn (flK (gvs G) k ++ (Ju gl).take j) = true)) (fun _ i=>gl.length - (intOf i).toNat)
       case atStart=>exact ⟨0,by omega,rfl,by simp,zH (by simpa using HVO.out)⟩
       case round=>
        obtain ⟨j,hj,rfl,rfl,HV⟩:=hrel
        by_cases hjl:j < gl.length
        ·obtain ⟨bx,ox,rfl,hbx,hcx⟩:=HLL.out.lies.lat hjl
         have hx:=HLL.out.inn _ (gM hjl)
         have HTK:Hid ((Ju gl).take (j + 1) = (Ju gl).take j ++ [gl[j].2.2]):=zH (by rw [List.take_succ_eq_append_getElem (by simpa using hjl)];simp)
         have hbad:=HVEC.out j hjl
         generalize hP:flK (gvs G) k ++ (Ju gl).take j = P at *
         have HP:=zH hP
         clear hP
         have HZ:Hid (len0 P = 0 ↔ P = []):=zH (ZdG HV.out)
         have HSN:=zH (Zce P gl[j].2.2)
         have HL0:=zH (ZdH (vs:=P) (v:=gl[j].2.2))
         generalize gl[j] = X at *
         obtain ⟨XA,Xc,xl⟩:=X
         simp only at *
         obtain ⟨hxl,_,hxn,_,_⟩:=hx
         have HXL:=zH hxl
         obtain ⟨s1,hs1⟩:∃ s1:Nat,s1 = if P = [] then xl.length else len0 P:=⟨_,rfl⟩
         rw [<- hs1] at HSN HL0
         have HBAD2:Hid (okV s1 xl = false -> r = 2):=zH (fun hb=>hbad (by rw [HSN.out,hb,Bool.and_false]))
         have HGD:Hid (okV s1 xl = true -> Zn (flK (gvs G) k ++ (Ju gl).take (j + 1)) = true):=zH (fun hb=>by rw [HTK.out,<- List.append_assoc,HP.out,HSN.out,hb,HV.out];rfl)
         have HGL0:Hid (len0 (flK (gvs G) k ++ (Ju gl).take (j + 1)) = s1):=zH (by rw [HTK.out,<- List.append_assoc,HP.out,HL0.out])
         clear HSN HL0 hbad hxl
         have HS1:Hid (len0 P ≠ 0 -> s1 = len0 P):=zH (fun hne=>by rw [hs1,if_neg (fun e=>hne (HZ.out.2 e))])
         have HS0:Hid (len0 P = 0 -> s1 = xl.length):=zH (fun hne=>by rw [hs1,if_pos (HZ.out.1 hne)])
         clear hs1 HZ
         generalize len0 P = s0 at *
         have hkey:(((s0:Int) == 0) = true /\ s1 = xl.length) ∨ (((s0:Int) == 0) = false /\ s1 = s0):=by
          by_cases z:s0 = 0
          ·exact .inl ⟨by simp [z],HS0.out z⟩
          ·exact .inr ⟨by simp;omega,HS1.out z⟩
         clear HS1 HS0
         cases c0:decide (xl.length = s1) with
         | false=>
          have c1:=of_decide_eq_false c0
          clear c0
          rcases hkey with ⟨_,e⟩ | ⟨qz,rfl⟩
          ·exact absurd e.symm c1
          have hz:=HBAD2.out (by rw [Bool.eq_false_iff];intro ht;exact c1 (Vm.1 ht).1)
          subst hz
          have q1:((xl.length:Int) != (s1:Int)) = true:=by simp;omega
          clear HBAD2 HGD HGL0 c1 HBAD HGOOD HVEC
          go_wp2_with fail
          go_ret
          exact ⟨rfl,rfl⟩
         | true=>
          obtain rfl:xl.length = s1:=of_decide_eq_true c0
          clear c0
          cases c4:Zb (-1048576) 1048576 xl with
          | true=>
           have C4:=zH c4
           clear c4
           by_cases c2 : 1 <= xl.length
           ·by_cases c3:xl.length <= 64
            ·have HY:=zH (HGD.out (Vm.2 ⟨rfl,c2,c3,C4.out⟩))
             clear HGD HBAD2
             rcases hkey with ⟨qz,_⟩ | ⟨qz,e⟩
             ·go_wp2_with fail
              refine (XP _ _ XK XA Xc xl _ HXL.out (by omega)).mono ?_
              rintro e w' ⟨rfl,rfl⟩
              rw [XC,C4.out]
              go_wp2_with fail
              exact ⟨⟨j + 1,by omega,by go_num,by rw [HGL0.out],HY⟩,by simp [intOf];omega⟩
             ·subst e
              go_wp2_with fail
              refine (XP _ _ XK XA Xc xl _ HXL.out (by omega)).mono ?_
              rintro e w' ⟨rfl,rfl⟩
              rw [XC,C4.out]
              go_wp2_with fail
              exact ⟨⟨j + 1,by omega,by go_num,by rw [HGL0.out],HY⟩,by simp [intOf];omega⟩
            ·have hz:=HBAD2.out (by rw [Bool.eq_false_iff];intro ht;exact c3 (Vm.1 ht).2.2.1)
             subst hz
             clear HBAD2 HGD HGL0 HBAD HGOOD HVEC
             rcases hkey with ⟨qz,_⟩ | ⟨qz,e⟩
             ·go_wp2_with fail
              go_ret
              exact ⟨rfl,rfl⟩
             ·subst e
              go_wp2_with fail
              go_ret
              exact ⟨rfl,rfl⟩
           ·have hz:=HBAD2.out (by rw [Bool.eq_false_iff];intro ht;exact c2 (Vm.1 ht).2.1)
            subst hz
            clear HBAD2 HGD HGL0 HBAD HGOOD HVEC
            rcases hkey with ⟨qz,_⟩ | ⟨qz,e⟩
            ·go_wp2_with fail
             go_ret
             exact ⟨rfl,rfl⟩
            ·subst e
             go_wp2_with fail
             go_ret
             exact ⟨rfl,rfl⟩
          | false=>
           have C4:=zH c4
           have hz:=HBAD2.out (by rw [Bool.eq_false_iff];intro ht;have:=(Vm.1 ht).2.2.2;rw [c4] at this;cases this)
           subst hz
           clear c4 HBAD2 HGD HGL0 HBAD HGOOD HVEC
           rcases (show (xl.length < 1) ∨ (1 <= xl.length /\ 64 < xl.length) ∨ (1 <= xl.length /\ xl.length <= 64) by omega) with c2 | ⟨c2,c3⟩ | ⟨c2,c3⟩
           all_goals
            rcases hkey with ⟨qz,_⟩ | ⟨qz,e⟩
            ·go_wp2_with (go_at_call 67;refine (XP _ _ XK XA Xc xl _ HXL.out (by omega)).mono ?_;rintro e w' ⟨rfl,rfl⟩;rw [XC,C4.out])
             go_ret
             exact ⟨rfl,rfl⟩
            ·subst e
             go_wp2_with (go_at_call 67;refine (XP _ _ XK XA Xc xl _ HXL.out (by omega)).mono ?_;rintro e w' ⟨rfl,rfl⟩;rw [XC,C4.out])
             go_ret
             exact ⟨rfl,rfl⟩
        ·obtain rfl:j = gl.length:=by omega
         have HF:Hid (flK (gvs G) k ++ (Ju gl).take gl.length = flK (gvs G) (k + 1)):=zH (by rw [HNX.out,List.take_of_length_le (by simp)])
         rw [HF.out] at HV ⊢
         clear HVEC
         go_wp2_with fail
         exact ⟨⟨k + 1,by omega,by go_num,rfl,HNE3,HV⟩,by simp [intOf];omega⟩
     ·obtain rfl:k = G.length:=by omega
      have hz:r = 0:=HGOOD.out (by
       unfold UL
       rw [Bool.and_eq_true]
       refine ⟨?_,by rw [<- HALL.out];exact HVO.out⟩
       rw [List.all_eq_true]
       intro g hg'
       have:=HNE.out g (by rw [List.take_of_length_le (by rw [HGL.out];omega)];exact hg')
       simpa using this)
      subst hz
      clear HBAD HGOOD
      go_wp2_with fail
      go_ret
      exact ⟨rfl,rfl⟩
end Go.Proofs.YtfbdihpllmhcnaaGreatDoor
namespace Go.Proofs.YtfbdihpllmhcnaaGreatDoor
open Go.RowKit Go.WideShapes Ear

section
variable {H:Type} {enc:TypeId × Value -> H} {P:Program} {w:World} {t e:TypeId} {cs:List Value} {v:Value} {d:DataW H} {p:List MemPlace} {r:Reach} {b0:Nat}
theorem Rd.dg (ht:P.underlying t = some (.slice e)) (he:P.underlying e = some (.int .u32)) (hc:P.cellsOf e = 1) (h:Rd enc P w t cs) :
  ∃ A c,∃ l:List Int,cs = [.slice A l.length c] /\ Dg w A c l /\ l.length <= 9223372036854775807:=by
 obtain ⟨A,c,l,h1,h2,h3,h4,h5,h6⟩:=h.slice ht hc (fun n=>[Value.int .u32 n]) (fun n=>0 <= n /\ n <= 4294967295) (fun cs hcs=>hcs.int he)
 rw [Zft] at h2
 exact ⟨A,c,l,h1,⟨h2,h6,h5,fun hA=>(h3 hA).1⟩,h4⟩
end
end Go.Proofs.YtfbdihpllmhcnaaGreatDoor
namespace Ear

def QX (vs:List (List Int)) (n k j:Nat):List Int:=(List.range n).map fun c=>if c < j then UD vs c (k + 1) else UD vs c k
theorem Zdl (vs:List (List Int)) (n k:Nat):QX vs n k 0 = U0 vs n k:=by
 unfold QX U0
 apply List.map_congr_left
 intro c _
 rw [if_neg (by omega)]
theorem Ze2 (vs:List (List Int)) (n k:Nat):QX vs n k n = U0 vs n (k + 1):=by
 unfold QX U0
 apply List.map_congr_left
 intro c hc
 rw [if_pos (List.mem_range.1 hc)]
theorem Ud (vs:List (List Int)) (n k j:Nat):(QX vs n k j).length = n:=by simp [QX]
theorem Ze1 {vs:List (List Int)} {n k j:Nat} (hj:j < n):(QX vs n k j)[j]?.getD 0 = UD vs j k:=by
 simp [QX,List.getElem?_range hj]
theorem Ze0 {vs:List (List Int)} {n k j:Nat}:(QX vs n k j).set j (UD vs j k + (vs[k]?.getD [])[j]?.getD 0) = QX vs n k (j + 1):=by
 apply List.ext_getElem (by simp [QX])
 intro q h1 h2
 have hq:q < n:=by simpa [QX] using h2
 rw [List.getElem_set]
 simp only [QX,List.getElem_map,List.getElem_range]
 by_cases e:j = q
 ·subst e;rw [if_pos rfl,if_pos (by omega)];rfl
 ·rw [if_neg e]
  by_cases h3:q < j
  ·rw [if_pos h3,if_pos (by omega)]
  ·rw [if_neg h3,if_neg (by omega)]
theorem Zg0 {lo hi:Int} {l:List Int} (h:Zb lo hi l = true) {k:Nat} (hk:k < l.length):lo <= l[k]?.getD 0 /\ l[k]?.getD 0 <= hi:=by
 rw [List.getElem?_eq_getElem hk,Option.getD_some]
 exact Va h (List.getElem_mem hk)
def gD (va vb:List (List Int)) (c:Nat):Int:=UD va c va.length * vb.length - UD vb c vb.length * va.length
def gI (va vb:List (List Int)):Nat -> Int
 | 0=>0
 | c + 1=>gI va vb c + gD va vb c * gD va vb c
def Zfo (va vb:List (List Int)):Rat:=(gI va vb (len0 va):Rat) * (((va.length * vb.length * (va.length + vb.length):Nat):Int):Rat)⁻¹
end Ear
