/- TalkNil -/
import Derived.Test.YtfbdihpllmhcnaaGreatDoorMTNil12
set_option maxRecDepth 100000
set_option maxHeartbeats 32000000
namespace Go.Proofs.YtfbdihpllmhcnaaGreatDoor
open Go.RowKit Ear
set_option linter.unusedVariables false

theorem ZaM (A:Option Addr) (c n:Nat) (w:World) (h:Dg w A c (nd n)) (hn:(nd n).length <= 1000000):Calls Tryz.prog 133 #[.slice A (nd n).length c] w (YN n w):=
 (Zc A c (nd n) w h hn).mono fun _ _ h=>h.nd
theorem Vq (w:World) (p a:Addr) (v:Value):(w.setCell p v).frozen? a = w.frozen? a:=by simp [go_sem]
theorem ZgH (w:World) (k:Nat) (v0 v1 v2:Value) (a:Addr):(((w.setCell ⟨k,0,none⟩ v0).setCell ⟨k,1,none⟩ v1).setCell ⟨k,2,none⟩ v2).frozen? a = w.frozen? a:=by rw [Vq,Vq,Vq]
theorem ZbN {t:TypeId} {w:World} {k:Nat} {u0 u1 u2:Value} (h:w.heap[k]? = some (.cells #[u0,u1,u2] t (0,0))) (v0 v1 v2:Value):(((w.setCell ⟨k,0,none⟩ v0).setCell ⟨k,1,none⟩ v1).setCell ⟨k,2,none⟩ v2).heap[k]? = some (.cells #[v0,v1,v2] t (0,0)):=by
 simp [World.setCell,Array.getElem?_modify,h]
theorem Lies.apartRow {t:TypeId} {w w':World} {A:Option Addr} {l:List Int} {k:Nat} {b0:Bool} {b1 b2:Option Addr} {n1 n2 m1 m2:Nat} (h:Lies w A (ucs l)) (hb:w.heap[k]? = some (.cells #[.bool b0,.slice b1 n1 m1,.slice b2 n2 m2] t (0,0))) (hs:w.heap.size <= w'.heap.size) (hk:∀ b,b ≠ k -> b < w.heap.size -> w'.heap[b]? = w.heap[b]?):Lies w' A (ucs l):=fun h0=>by
 obtain ⟨b,off,e,hlt,hc⟩:=h h0
 have hne:b ≠ k:=by
  rintro rfl
  have hl : 0 < l.length:=by simpa using h0
  have:=hc 0 (.int .u32 l[0]) (by simp [gE hl])
  rw [cell_of_row w b _ _ _ _ hb] at this
  rcases (show off + 0 = 0 ∨ off + 0 = 1 ∨ off + 0 = 2 ∨ 3 <= off + 0 by omega) with e | e | e | e
  ·rw [e] at this;simp at this
  ·rw [e] at this;simp at this
  ·rw [e] at this;simp at this
  ·rw [Array.getElem?_eq_none (by simpa using e)] at this;cases this
 exact ⟨b,off,e,by omega,fun j u hu=>by
  rw [<- hc j u hu]
  exact World.cell?_of_block (a:=⟨b,off + j,none⟩) (hk b hne hlt)⟩
theorem YO (x:Fr) (q:Rat) (w:World) (hx:Nm w x q) (sq:Sz q 900000):Calls Tryz.prog 89 #[x.val] w (Zx q w):=by
 obtain ⟨xn,xA,xc,xN,xB,xd,xD⟩:=x
 obtain ⟨h1,h2,h3,HxN,HxD⟩:=hx
 simp only at h1 h2 h3 HxN HxD
 subst h1 h2 h3
 simp only [Fr.val]
 have s1:=sq.num
 have s2:=sq.den
 clear sq
 obtain ⟨W,hW⟩:∃ W:World,W = (w.alloc (.cells #[.bool (qs q),.slice xA (nd (qn q)).length xc,.slice xB (nd q.den).length xd] 158)).alloc (.cells #[.bool false,.slice none 0 0,.slice none 0 0] 26):=⟨_,rfl⟩
 have hs:W.heap.size = w.heap.size + 2:=by rw [hW];simp
 have HB0:Hid (Below w.heap.size w W):=zH (by rw [hW];exact al2 w _ _)
 have HBX:Hid (Bt 26 W (w.heap.size + 1)):=zH (by rw [hW];have:=Bt.new 26 (w.alloc (.cells #[.bool (qs q),.slice xA (nd (qn q)).length xc,.slice xB (nd q.den).length xd] 158));simpa using this)
 have HC1:Hid (∀ u,Below W.heap.size W u -> u.cell? ⟨w.heap.size,0,none⟩ = some (.bool (qs q)) /\ u.cell? ⟨w.heap.size,1,none⟩ = some (.slice xA (nd (qn q)).length xc) /\ u.cell? ⟨w.heap.size,2,none⟩ = some (.slice xB (nd q.den).length xd)):=zH (fun u hu=>by
  rw [hu.cell (p:=⟨w.heap.size,0,none⟩) (by simp;omega),hu.cell (p:=⟨w.heap.size,1,none⟩) (by simp;omega),hu.cell (p:=⟨w.heap.size,2,none⟩) (by simp;omega),hW]
  simp [go_sem])
 have HxN1:=zH (HxN.below HB0.out)
 have HxD1:=zH (HxD.below HB0.out)
 clear HxN HxD
 go_enter Tryz.func89,Tryz.ntmps89
 go_wp2_with fail
 rw [<- hW]
 clear hW
 refine Jj 7 20 rfl (by kernel_rfl) (by kernel_rfl) (by kernel_rfl) (by kernel_rfl) (fun u=>Below W.heap.size W u) (fun u u'=>Below u.heap.size u u') (Gl [isV (.pointer (some ⟨w.heap.size,0,none⟩)),isV (.bool (qs q)),isV (.pointer (some ⟨w.heap.size,1,none⟩)),isV (.slice xA (nd (qn q)).length xc),isNd (qn q),isAg ((qs q)) (qn q),isBt 26 W.heap.size]) (Gl.keep (by
   intro p hp
   simp only [List.mem_cons,List.not_mem_nil,or_false] at hp
   rcases hp with rfl | rfl | rfl | rfl | rfl | rfl | rfl
   ·exact Keeps.isV _
   ·exact Keeps.isV _
   ·exact Keeps.isV _
   ·exact Keeps.isV _
   ·exact Keeps.isNd _
   ·exact Keeps.isAg _ _
   ·exact Keeps.isBt _ _)) ?_ ?_ ?_
 ·exact (Below.refl _ W).drew
 ·simp only [List.pop_toArray,List.dropLast,Jp]
  refine ⟨?_,?_,?_,?_,?_,?_,?_,trivial⟩
  ·intro bb u su dp kp K hK
   have e1:gT bb 1 = .pointer (some ⟨w.heap.size,0,none⟩):=kp 1 (by kernel_rfl)
   go_simp
   exact hK _ _ su bR rfl
  ·intro bb u su dp kp K hK
   have e4:gT bb 4 = .pointer (some ⟨w.heap.size,0,none⟩):=dp 0 _ rfl (by kernel_rfl)
   obtain ⟨cc0,cc1,cc2⟩:=HC1.out u su
   go_simp
   exact hK _ _ su bR rfl
  ·intro bb u su dp kp K hK
   have e1:gT bb 1 = .pointer (some ⟨w.heap.size,0,none⟩):=kp 1 (by kernel_rfl)
   go_simp
   exact hK _ _ su bR rfl
  ·intro bb u su dp kp K hK
   have e6:gT bb 6 = .pointer (some ⟨w.heap.size,1,none⟩):=dp 2 _ rfl (by kernel_rfl)
   obtain ⟨cc0,cc1,cc2⟩:=HC1.out u su
   go_simp
   exact hK _ _ su bR rfl
  ·intro bb u su dp kp K hK
   have e7:gT bb 7 = .slice xA (nd (qn q)).length xc:=dp 3 _ rfl (by kernel_rfl)
   go_simp
   refine (ZaM xA xc (qn q) u (HxN1.out.below su) (by omega)).mono ?_
   rintro e w' ⟨A,c,rfl,h1,h2,h3,h4⟩
   go_simp
   exact hK _ _ (su.trans (h4.mono su.size)) h4 ⟨A,c,rfl,zH (Jy h1 h2 h3)⟩
  ·intro bb u su dp kp K hK
   have e5:gT bb 5 = .bool (qs q):=dp 1 _ rfl (by kernel_rfl)
   obtain ⟨A8,c8,e8,D8⟩:∃ A c,gT bb 8 = .slice A (nd (qn q)).length c /\ Hid (Dg u A c (nd (qn q))):=dp 4 _ rfl (by kernel_rfl)
   have f5:=e5
   rw [gT,Array.getD_eq_getD_getElem?] at f5
   have f8:=e8
   rw [gT,Array.getD_eq_getD_getElem?] at f8
   go_simp
   exact hK _ _ su bR ⟨A8,c8,rfl,D8⟩
  ·intro bb u su dp kp K hK
   go_simp
   exact hK _ _ (su.alloc su.size _) (bR.alloc nR _) ⟨u.heap.size,rfl,zH (Bt.new _ _),su.size⟩
 ·intro bb u hN hdf su hG sm
  obtain ⟨k,e3,HK,hk⟩:∃ k,gT bb 3 = .pointer (some ⟨k,0,none⟩) /\ Hid (Bt 26 u k) /\ W.heap.size <= k:=hG 6 _ rfl
  obtain ⟨A9,c9,e9,D9⟩:∃ A c,gT bb 9 = .agg #[.bool (qs q),.slice A (nd (qn q)).length c,.slice none 0 0] /\ Hid (Dg u A c (nd (qn q))):=hG 5 _ rfl
  have e1:gT bb 1 = .pointer (some ⟨w.heap.size,0,none⟩):=sm 1 (by kernel_rfl)
  have e2:gT bb 2 = .pointer (some ⟨w.heap.size + 1,0,none⟩):=sm 2 (by kernel_rfl)
  rw [JS bb 20 hN]
  simp only [show List.range 20 = [0,1,2,3,4,5,6,7,8,9,10,11,12,13,14,15,16,17,18,19] from rfl,List.map_cons,List.map_nil,e1,e2,e3,e9,hdf]
  clear e1 e2 e3 e9 hG sm hN hdf
  generalize gT bb 0 = z0,gT bb 4 = z4,gT bb 5 = z5,gT bb 6 = z6,gT bb 7 = z7,gT bb 8 = z8,gT bb 10 = z10,gT bb 11 = z11,gT bb 12 = z12,gT bb 13 = z13,gT bb 14 = z14,gT bb 15 = z15,gT bb 16 = z16,gT bb 17 = z17,gT bb 18 = z18,gT bb 19 = z19
  obtain ⟨c0,c1,c2,f0,f1,f2⟩:=HK.out.facts
  have SV0:Hid (Below W.heap.size W (((u.setCell ⟨k,0,none⟩ (.bool (qs q))).setCell ⟨k,1,none⟩ (.slice A9 (nd (qn q)).length c9)).setCell ⟨k,2,none⟩ (.slice none 0 0))):=zH (Jh su hk _ _ _)
  have DN0:Hid (Dg (((u.setCell ⟨k,0,none⟩ (.bool (qs q))).setCell ⟨k,1,none⟩ (.slice A9 (nd (qn q)).length c9)).setCell ⟨k,2,none⟩ (.slice none 0 0)) A9 c9 (nd (qn q))):=zH (Xp D9.out HK.out _ _ _)
  have HCK:Hid ((((u.setCell ⟨k,0,none⟩ (.bool (qs q))).setCell ⟨k,1,none⟩ (.slice A9 (nd (qn q)).length c9)).setCell ⟨k,2,none⟩ (.slice none 0 0)).cell? ⟨k,0,none⟩ = some (.bool (qs q)) /\ (((u.setCell ⟨k,0,none⟩ (.bool (qs q))).setCell ⟨k,1,none⟩ (.slice A9 (nd (qn q)).length c9)).setCell ⟨k,2,none⟩ (.slice none 0 0)).cell? ⟨k,1,none⟩ = some (.slice A9 (nd (qn q)).length c9) /\ (((u.setCell ⟨k,0,none⟩ (.bool (qs q))).setCell ⟨k,1,none⟩ (.slice A9 (nd (qn q)).length c9)).setCell ⟨k,2,none⟩ (.slice none 0 0)).cell? ⟨k,2,none⟩ = some (.slice none 0 0) /\ (((u.setCell ⟨k,0,none⟩ (.bool (qs q))).setCell ⟨k,1,none⟩ (.slice A9 (nd (qn q)).length c9)).setCell ⟨k,2,none⟩ (.slice none 0 0)).frozen? ⟨k,2,none⟩ = false):=zH (by
   obtain ⟨g0,g1,g2⟩:=Zy (.bool (qs q)) (.slice A9 (nd (qn q)).length c9) (.slice none 0 0) c0 c1 c2
   exact ⟨g0,g1,g2,by rw [ZgH];exact f2⟩)
  have HRK:Hid ((((u.setCell ⟨k,0,none⟩ (.bool (qs q))).setCell ⟨k,1,none⟩ (.slice A9 (nd (qn q)).length c9)).setCell ⟨k,2,none⟩ (.slice none 0 0)).heap[k]? = some (.cells #[.bool (qs q),.slice A9 (nd (qn q)).length c9,.slice none 0 0] 26 (0,0))):=zH (ZbN HK.out _ _ _)
  have hkl:Hid (k < (((u.setCell ⟨k,0,none⟩ (.bool (qs q))).setCell ⟨k,1,none⟩ (.slice A9 (nd (qn q)).length c9)).setCell ⟨k,2,none⟩ (.slice none 0 0)).heap.size):=zH (by have:=HK.out.lt;simpa using this)
  have HBXV:=zH (HBX.out.below SV0.out)
  have HB0V:=zH (HB0.out.trans (SV0.out.mono HB0.out.size))
  have HCV:=zH (fun u' (hu':Below (((u.setCell ⟨k,0,none⟩ (.bool (qs q))).setCell ⟨k,1,none⟩ (.slice A9 (nd (qn q)).length c9)).setCell ⟨k,2,none⟩ (.slice none 0 0)).heap.size (((u.setCell ⟨k,0,none⟩ (.bool (qs q))).setCell ⟨k,1,none⟩ (.slice A9 (nd (qn q)).length c9)).setCell ⟨k,2,none⟩ (.slice none 0 0)) u')=>HC1.out u' (SV0.out.trans (hu'.mono SV0.out.size)))
  have HxN2:=zH (HxN1.out.below SV0.out)
  have HxD2:=zH (HxD1.out.below SV0.out)
  have hk1:w.heap.size + 1 < k:=by omega
  refine PopQ.last rfl rfl (fun K hK=>?_)
  go_simp
  refine hK _ _ ?_
  clear hK K
  clear HK D9 su c0 c1 c2 f0 f1 f2 HBX HB0 HC1 HxN1 HxD1
  generalize hV:(((u.setCell ⟨k,0,none⟩ (.bool (qs q))).setCell ⟨k,1,none⟩ (.slice A9 (nd (qn q)).length c9)).setCell ⟨k,2,none⟩ (.slice none 0 0)) = V at *
  clear hV
  go_wp2_with fail
  refine XX 20 rfl (by kernel_rfl) (by kernel_rfl) (by kernel_rfl) (fun u=>Below V.heap.size V u) (fun u u'=>Below u.heap.size u u') (Gl [isV (.pointer (some ⟨w.heap.size,2,none⟩)),isV (.slice xB (nd q.den).length xd),isNd (1),isV (.int .i64 (VM (q.den) (1))),isV (.bool (VM q.den 1 != 0))]) (Gl.keep (by
    intro p hp
    simp only [List.mem_cons,List.not_mem_nil,or_false] at hp
    rcases hp with rfl | rfl | rfl | rfl | rfl
    ·exact Keeps.isV _
    ·exact Keeps.isV _
    ·exact Keeps.isNd _
    ·exact Keeps.isV _
    ·exact Keeps.isV _)) ?_ ?_ ?_
  ·exact (Below.refl _ V).drew
  ·simp only [Jp]
   refine ⟨?_,?_,?_,?_,?_,trivial⟩
   ·intro bb u su dp kp K hK
    have e1:gT bb 1 = .pointer (some ⟨w.heap.size,0,none⟩):=kp 1 (by kernel_rfl)
    go_simp
    exact hK _ _ su bR rfl
   ·intro bb u su dp kp K hK
    have e10:gT bb 10 = .pointer (some ⟨w.heap.size,2,none⟩):=dp 0 _ rfl (by kernel_rfl)
    obtain ⟨cc0,cc1,cc2⟩:=HCV.out u su
    go_simp
    exact hK _ _ su bR rfl
   ·intro bb u su dp kp K hK
    go_simp
    refine (XQ 1 u (by decide)).mono ?_
    rintro e w' ⟨A,c,rfl,h1,h2,h3,h4⟩
    go_simp
    exact hK _ _ (su.trans (h4.mono su.size)) h4 ⟨A,c,rfl,zH (Jy h1 h2 h3)⟩
   ·intro bb u su dp kp K hK
    have e11:gT bb 11 = .slice xB (nd q.den).length xd:=dp 1 _ rfl (by kernel_rfl)
    obtain ⟨A12,c12,e12,D12⟩:∃ A c,gT bb 12 = .slice A (nd (1)).length c /\ Hid (Dg u A c (nd (1))):=dp 2 _ rfl (by kernel_rfl)
    go_simp
    refine (Yf xB A12 xd c12 (q.den) (1) u (HxD2.out.below su) D12.out (by omega) (VM (q.den) (1)) (zH rfl)).mono ?_
    rintro e w' ⟨rfl,n9,rfl⟩
    go_simp
    exact hK _ _ (su.trans (Ja _ _)) (Ja _ _) rfl
   ·intro bb u su dp kp K hK
    have e13:gT bb 13 = .int .i64 (VM (q.den) (1)):=dp 3 _ rfl (by kernel_rfl)
    go_simp
    exact hK _ _ su bR rfl
  ·intro bb u hN hdf su hG sm
   have e14:gT bb 14 = .bool (VM q.den 1 != 0):=hG 4 _ rfl
   have e1:gT bb 1 = .pointer (some ⟨w.heap.size,0,none⟩):=sm 1 (by kernel_rfl)
   have e2:gT bb 2 = .pointer (some ⟨w.heap.size + 1,0,none⟩):=sm 2 (by kernel_rfl)
   have e3:gT bb 3 = .pointer (some ⟨k,0,none⟩):=sm 3 (by kernel_rfl)
   rw [JS bb 20 hN]
   simp only [show List.range 20 = [0,1,2,3,4,5,6,7,8,9,10,11,12,13,14,15,16,17,18,19] from rfl,List.map_cons,List.map_nil,e1,e2,e3,e14,hdf]
   clear e1 e2 e3 e14 hG sm hN hdf
   generalize gT bb 0 = y0,gT bb 4 = y4,gT bb 5 = y5,gT bb 6 = y6,gT bb 7 = y7,gT bb 8 = y8,gT bb 9 = y9,gT bb 10 = y10,gT bb 11 = y11,gT bb 12 = y12,gT bb 13 = y13,gT bb 15 = y15,gT bb 16 = y16,gT bb 17 = y17,gT bb 18 = y18,gT bb 19 = y19
   have X3:=zH (HBXV.out.below su)
   have B3:=zH (HB0V.out.trans (su.mono HB0V.out.size))
   have C3:=zH (fun u' (hu':Below u.heap.size u u')=>HCV.out u' (su.trans (hu'.mono su.size)))
   have N3:=zH (HxN2.out.below su)
   have D3:=zH (HxD2.out.below su)
   have M3:=zH (DN0.out.below su)
   have HK3:Hid (∀ u',Below u.heap.size u u' -> u'.cell? ⟨k,0,none⟩ = some (.bool (qs q)) /\ u'.cell? ⟨k,1,none⟩ = some (.slice A9 (nd (qn q)).length c9) /\ u'.cell? ⟨k,2,none⟩ = some (.slice none 0 0) /\ u'.frozen? ⟨k,2,none⟩ = false):=zH (fun u' hu'=>by
    have hb:=su.trans (hu'.mono su.size)
    obtain ⟨x0,x1,x2,x3⟩:=HCK.out
    exact ⟨(hb.cell (p:=⟨k,0,none⟩) hkl.out).trans x0,(hb.cell (p:=⟨k,1,none⟩) hkl.out).trans x1,(hb.cell (p:=⟨k,2,none⟩) hkl.out).trans x2,(hb.frozen (p:=⟨k,2,none⟩) hkl.out).trans x3⟩)
   have HRK3:=zH ((su.block k hkl.out).trans HRK.out)
   have hkl3:k < u.heap.size:=Nat.lt_of_lt_of_le hkl.out su.size
   clear HBXV HB0V HCV HxN2 HxD2 DN0 HCK hkl SV0 su
   by_cases h1:q.den = 1
   ·have hq:(VM q.den 1 != 0) = false:=by rw [Yl h1];rfl
    rw [hq]
    have HD:Hid (den q.den = []):=zH (by unfold den;rw [if_pos h1])
    clear hq h1
    obtain ⟨c0,c1,c2,f2'⟩:=HK3.out u bR
    obtain ⟨k0,k1,k2,f0,f1,f2⟩:=X3.out.facts
    go_wp2_with fail
    obtain ⟨g0,g1,g2⟩:=Zy (.bool (qs q)) (.slice A9 (nd (qn q)).length c9) (.slice none 0 0) k0 k1 k2
    refine bodyPost_ret (v:=.agg #[.bool (qs q),.slice A9 (nd (qn q)).length c9,.slice none 0 0]) (by simp [results,Tryz.results89,go_sem,g0,g1,g2]) rfl ?_
    exact ⟨⟨qs q,A9,c9,_,none,0,[]⟩,rfl,JU (x:=⟨qs q,A9,c9,_,none,0,[]⟩) ⟨⟨M3.out,Dg.none _⟩,rfl,rfl,HD.out.symm⟩ X3.out _ _ _,Jh B3.out (by omega) _ _ _⟩
   ·have hq:(VM q.den 1 != 0) = true:=by
     have hne:VM q.den 1 ≠ 0:=by unfold VM;split <;> simp_all
     simpa using hne
    rw [hq]
    have HD:Hid (den q.den = nd q.den):=zH (by unfold den;rw [if_neg h1])
    obtain ⟨cc0,cc1,cc2⟩:=C3.out u bR
    have CL:=zH (ZaM xB xd q.den u D3.out (by omega))
    clear hq h1 C3
    go_wp2_with fail
    refine CL.out.mono ?_
    rintro e w6 ⟨A6,c6,rfl,s1,s2,s3,s4⟩
    have D6:=zH (Jy s1 s2 s3)
    have B6:=zH s4
    have X6:=zH (X3.out.below s4)
    have M6:=zH (M3.out.below s4)
    obtain ⟨c0,c1,c2,f2'⟩:=HK3.out w6 s4
    have hne:¬ w.heap.size + 1 = k:=by omega
    have hne':¬ k = w.heap.size + 1:=by omega
    obtain ⟨k0,k1,k2,f0,f1,f2⟩:=X6.out.facts
    clear s1 s2 s3 s4 CL cc0 cc1 cc2 HK3 M3
    go_wp2_with fail
    have HR6:=zH ((B6.out.block k hkl3).trans HRK3.out)
    have hap:∀ b,b ≠ k -> b < w6.heap.size -> (w6.setCell ⟨k,2,none⟩ (.slice A6 (nd q.den).length c6)).heap[b]? = w6.heap[b]?:=fun b hb _=>Below.heap_setCell w6 ⟨k,2,none⟩ _ b hb
    have M7:Hid (Dg (w6.setCell ⟨k,2,none⟩ (.slice A6 (nd q.den).length c6)) A9 c9 (nd (qn q))):=zH ⟨M6.out.lies.apartRow HR6.out (by simp) hap,M6.out.dig,M6.out.cap,M6.out.nil⟩
    have D7:Hid (Dg (w6.setCell ⟨k,2,none⟩ (.slice A6 (nd q.den).length c6)) A6 c6 (nd q.den)):=zH ⟨D6.out.lies.apartRow HR6.out (by simp) hap,D6.out.dig,D6.out.cap,D6.out.nil⟩
    have X7:Hid (Bt 26 (w6.setCell ⟨k,2,none⟩ (.slice A6 (nd q.den).length c6)) (w.heap.size + 1)):=zH ((hap _ hne X6.out.lt).trans X6.out)
    have B7:=zH ((B3.out.trans (B6.out.mono B3.out.size)).setCell (p:=⟨k,2,none⟩) (by simp;omega) (.slice A6 (nd q.den).length c6))
    obtain ⟨m0,m1,m2,-,-,-⟩:=X7.out.facts
    obtain ⟨g0,g1,g2⟩:=Zy (.bool (qs q)) (.slice A9 (nd (qn q)).length c9) (.slice A6 (nd q.den).length c6) m0 m1 m2
    refine bodyPost_ret (v:=.agg #[.bool (qs q),.slice A9 (nd (qn q)).length c9,.slice A6 (nd q.den).length c6]) (by simp [results,Tryz.results89,go_sem,g0,g1,g2]) rfl ?_
    exact ⟨⟨qs q,A9,c9,_,A6,c6,_⟩,rfl,JU (x:=⟨qs q,A9,c9,_,A6,c6,_⟩) ⟨⟨M7.out,D7.out⟩,rfl,rfl,HD.out.symm⟩ X7.out _ _ _,Jh B7.out (by omega) _ _ _⟩
end Go.Proofs.YtfbdihpllmhcnaaGreatDoor
