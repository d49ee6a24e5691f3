/- TalkNil -/
import Derived.Test.YtfbdihpllmhcnaaGreatDoorMTNil15
set_option maxRecDepth 100000
set_option maxHeartbeats 32000000
namespace Go.Proofs.YtfbdihpllmhcnaaGreatDoor
open Go.RowKit Ear
set_option linter.unusedVariables false

def FL (w:World) (A:Option Addr) (n:Nat) (X:Nat -> Fr) (Q:Nat -> Rat):Prop:=
 ∀ k,k < n -> ∃ b off,A = some ⟨b,off,none⟩ /\ b < w.heap.size /\ w.cell? ⟨b,off + k * 3,none⟩ = some (.bool (X k).neg) /\ w.cell? ⟨b,off + k * 3 + 1,none⟩ = some (.slice (X k).A (X k).N.length (X k).c) /\ w.cell? ⟨b,off + k * 3 + 2,none⟩ = some (.slice (X k).B (X k).D.length (X k).d) /\ Fv w (X k) (Q k)
theorem FL.below {w w':World} {A:Option Addr} {n:Nat} {X:Nat -> Fr} {Q:Nat -> Rat} (h:FL w A n X Q) (hb:Below w.heap.size w w'):FL w' A n X Q:=fun k hk=>by
 obtain ⟨b,off,e,hlt,h0,h1,h2,h3⟩:=h k hk
 exact ⟨b,off,e,Nat.lt_of_lt_of_le hlt hb.size,(hb.cell (p:=⟨b,off + k * 3,none⟩) hlt).trans h0,(hb.cell (p:=⟨b,off + k * 3 + 1,none⟩) hlt).trans h1,(hb.cell (p:=⟨b,off + k * 3 + 2,none⟩) hlt).trans h2,h3.below hb⟩
def Nb (w:World) (k:Nat) (x:Fr):Prop:=w.heap[k]? = some (.cells #[.bool x.neg,.slice x.A x.N.length x.c,.slice x.B x.D.length x.d] 158 (0,0))
theorem Nb.lt {w:World} {k:Nat} {x:Fr} (h:Nb w k x):k < w.heap.size:=(aE h).1
theorem Nb.below {w w':World} {k:Nat} {x:Fr} (h:Nb w k x) (hb:Below w.heap.size w w'):Nb w' k x:=(hb.block k h.lt).trans h
theorem Nb.facts {w:World} {k:Nat} {x:Fr} (h:Nb w k x):w.cell? ⟨k,0,none⟩ = some (.bool x.neg) /\ w.cell? ⟨k,1,none⟩ = some (.slice x.A x.N.length x.c) /\ w.cell? ⟨k,2,none⟩ = some (.slice x.B x.D.length x.d) /\ w.frozen? ⟨k,0,none⟩ = false /\ w.frozen? ⟨k,1,none⟩ = false /\ w.frozen? ⟨k,2,none⟩ = false:=
 ⟨(Qk h).1,(Qk h).2.1,(Qk h).2.2,Jl h 0,Jl h 1,Jl h 2⟩
theorem Nm.rowed {w:World} {x r:Fr} {q:Rat} {k:Nat} (h:Nm w r q) (hb:Nb w k x) (v0 v1 v2:Value):Nm (((w.setCell ⟨k,0,none⟩ v0).setCell ⟨k,1,none⟩ v1).setCell ⟨k,2,none⟩ v2) r q:=by
 have hk:∀ b,b ≠ k -> b < w.heap.size -> (((w.setCell ⟨k,0,none⟩ v0).setCell ⟨k,1,none⟩ v1).setCell ⟨k,2,none⟩ v2).heap[b]? = w.heap[b]?:=fun b hne _=>
  (Below.heap_setCell _ ⟨k,2,none⟩ v2 b hne).trans ((Below.heap_setCell _ ⟨k,1,none⟩ v1 b hne).trans (Below.heap_setCell _ ⟨k,0,none⟩ v0 b hne))
 exact ⟨h.neg,h.num,h.dn,⟨h.n.lies.apartRow hb (by simp) hk,h.n.dig,h.n.cap,h.n.nil⟩,⟨h.d.lies.apartRow hb (by simp) hk,h.d.dig,h.d.cap,h.d.nil⟩⟩
theorem Zfq (n:Nat) (X:Nat -> Fr) (Q acc:Nat -> Rat) (A:Option Addr) (c:Nat) (s:Fr) (w:World) (hs:Nm w s (acc 0)) (hl:FL w A n X Q) (hn:n <= 1000000) (hacc:∀ k,k < n -> acc (k + 1) = acc k + Q k) (hsz:∀ k,k <= n -> Sz (acc k) 190000) (hq:∀ k,k < n -> Few (X k) 190000) :
  Calls Tryz.prog 164 #[s.val,.func (.func 76) #[] #[],.slice A n c] w (Uw (acc n) w):=by
 obtain ⟨W,hW⟩:∃ W:World,W = (w.alloc (.cells #[.bool s.neg,.slice s.A s.N.length s.c,.slice s.B s.D.length s.d] 158)).alloc (.cells #[.bool false,.slice none 0 0,.slice none 0 0] 158):=⟨_,rfl⟩
 have HB0:Hid (Below w.heap.size w W):=zH (by rw [hW];exact al2 w _ _)
 have HBX:Hid (Bt 158 W (w.heap.size + 1)):=zH (by rw [hW];have:=Bt.new 158 (w.alloc (.cells #[.bool s.neg,.slice s.A s.N.length s.c,.slice s.B s.D.length s.d] 158));simpa using this)
 have HNB:Hid (Nb W w.heap.size s):=zH (by rw [hW];exact (Below.heap_alloc _ _ _ (by simp)).trans (heap_alloc_new w _))
 have HS:=zH (hs.below HB0.out)
 have HA:=zH hacc
 have HSZ:=zH hsz
 have HF:=zH hq
 have HL:=zH hl
 clear hs hacc hsz hq hl
 go_enter Tryz.func164,Tryz.ntmps164
 go_wp2_with fail
 rw [<- hW]
 clear hW
 go_loopw [8,11] (fun _ i wr=>∃ k:Nat,k <= n /\ i = .int .i64 k /\ ∃ a:Fr,Hid (Nm wr a (acc k)) /\ Hid (Nb wr w.heap.size a) /\ Hid (Bt 158 wr (w.heap.size + 1)) /\ Hid (Below w.heap.size w wr)) (fun _ i _=>n - (intOf i).toNat)
 case atStart=>exact ⟨0,by omega,rfl,s,HS,HNB,HBX,HB0⟩
 case round=>
  obtain ⟨k,hk,rfl,a,HN,HRB,HRX,HRW⟩:=hrel
  clear HNB HBX HB0 HS
  by_cases hlt:k < n
  ·obtain ⟨b,off,rfl,hb,x0,x1,x2,x3⟩:=(HL.out.below HRW.out) k hlt
   have SA:=zH (HSZ.out k (by omega))
   have XF0:=HF.out k hlt
   have XF:Hid (Few (X k) 390000):=zH ⟨tR XF0.n (by decide),tR XF0.d (by decide)⟩
   have SQ:=zH (x3.sz XF0 (by decide))
   have HX3:=zH x3
   have HAK:=zH (HA.out k hlt)
   obtain ⟨V,hV⟩:∃ V:World,V = wr.alloc (.cells #[.bool (X k).neg,.slice (X k).A (X k).N.length (X k).c,.slice (X k).B (X k).D.length (X k).d] 26):=⟨_,rfl⟩
   have BV:Hid (Below wr.heap.size wr V):=zH (by rw [hV];exact bR.alloc nR _)
   have hwl:w.heap.size < wr.heap.size:=HRB.out.lt
   have hwx:w.heap.size + 1 < wr.heap.size:=HRX.out.lt
   have HC:Hid (∀ u,Below V.heap.size V u -> u.cell? ⟨w.heap.size,0,none⟩ = some (.bool a.neg) /\ u.cell? ⟨w.heap.size,1,none⟩ = some (.slice a.A a.N.length a.c) /\ u.cell? ⟨w.heap.size,2,none⟩ = some (.slice a.B a.D.length a.d) /\ u.cell? ⟨wr.heap.size,0,none⟩ = some (.bool (X k).neg) /\ u.cell? ⟨wr.heap.size,1,none⟩ = some (.slice (X k).A (X k).N.length (X k).c) /\ u.cell? ⟨wr.heap.size,2,none⟩ = some (.slice (X k).B (X k).D.length (X k).d)):=zH (fun u hu=>by
    obtain ⟨a0,a1,a2,-,-,-⟩:=((HRB.out.below BV.out).below hu).facts
    have hvs:wr.heap.size < V.heap.size:=by rw [hV];simp
    refine ⟨a0,a1,a2,?_,?_,?_⟩
    ·rw [hu.cell (p:=⟨wr.heap.size,0,none⟩) hvs,hV];simp [go_sem]
    ·rw [hu.cell (p:=⟨wr.heap.size,1,none⟩) hvs,hV];simp [go_sem]
    ·rw [hu.cell (p:=⟨wr.heap.size,2,none⟩) hvs,hV];simp [go_sem])
   have HNV:=zH (HN.out.below BV.out)
   have HXV:=zH (HX3.out.below BV.out)
   have HRBV:=zH (HRB.out.below BV.out)
   have HRXV:=zH (HRX.out.below BV.out)
   have HRWV:=zH (HRW.out.trans (BV.out.mono HRW.out.size))
   clear x3 XF0 HN HRB HRX HRW HX3 BV
   go_wp2_with fail
   rw [<- hV]
   clear hV x0 x1 x2
   refine Jj 5 22 rfl (by kernel_rfl) (by kernel_rfl) (by kernel_rfl) (by kernel_rfl) (fun u=>Below V.heap.size V u) (fun u u'=>Below u.heap.size u u') (Gl [isV (.func (.func 76) #[] #[]),isV (a.val),isV ((X k).val),isNm (Q k),isNm (acc k + Q k)]) (Gl.keep (by
     intro p hp
     simp only [List.mem_cons,List.not_mem_nil,or_false] at hp
     rcases hp with rfl | rfl | rfl | rfl | rfl
     ·exact Keeps.isV _
     ·exact Keeps.isV _
     ·exact Keeps.isV _
     ·exact Keeps.isNm _
     ·exact Keeps.isNm _)) ?_ ?_ ?_
   ·exact (Below.refl _ V).drew
   ·simp only [List.pop_toArray,List.dropLast,Jp]
    refine ⟨?_,?_,?_,?_,?_,trivial⟩
    ·intro bb u su dp kp K hK
     have e1:gT bb 1 = .func (.func 76) #[] #[]:=kp 1 (by kernel_rfl)
     go_simp
     exact hK _ _ su bR rfl
    ·intro bb u su dp kp K hK
     have e3:gT bb 3 = .pointer (some ⟨w.heap.size,0,none⟩):=kp 3 (by kernel_rfl)
     obtain ⟨cc0,cc1,cc2,cc3,cc4,cc5⟩:=HC.out u su
     go_simp
     exact hK _ _ su bR rfl
    ·intro bb u su dp kp K hK
     have e8:gT bb 8 = .pointer (some ⟨wr.heap.size,0,none⟩):=kp 8 (by kernel_rfl)
     obtain ⟨cc0,cc1,cc2,cc3,cc4,cc5⟩:=HC.out u su
     go_simp
     exact hK _ _ su bR rfl
    ·intro bb u su dp kp K hK
     have e17:gT bb 17 = (X k).val:=dp 2 _ rfl (by kernel_rfl)
     go_simp
     refine (Xy (X k) (Q k) u (HXV.out.below su) XF.out).mono ?_
     rintro e w' ⟨r,rfl,hr,h4⟩
     go_simp
     exact hK _ _ (su.trans (h4.mono su.size)) h4 ⟨r,rfl,zH hr⟩
    ·intro bb u su dp kp K hK
     have e15:gT bb 15 = .func (.func 76) #[] #[]:=dp 0 _ rfl (by kernel_rfl)
     have e16:gT bb 16 = a.val:=dp 1 _ rfl (by kernel_rfl)
     obtain ⟨r18,e18,D18⟩:∃ r:Fr,gT bb 18 = r.val /\ Hid (Nm u r (Q k)):=dp 3 _ rfl (by kernel_rfl)
     go_simp
     refine (ZbB a r18 (acc k) (Q k) u (HNV.out.below su) D18.out (SA.out.mono (by decide)) (SQ.out.mono (by decide))).mono ?_
     rintro e w' ⟨r,rfl,hr,h4⟩
     go_simp
     exact hK _ _ (su.trans (h4.mono su.size)) h4 ⟨r,rfl,zH hr⟩
   ·intro bb u hN hdf su hG sm
    obtain ⟨r,e19,hr⟩:∃ r:Fr,gT bb 19 = r.val /\ Hid (Nm u r (acc k + Q k)):=hG 4 _ rfl
    have e1:gT bb 1 = .func (.func 76) #[] #[]:=sm 1 (by kernel_rfl)
    have e3:gT bb 3 = .pointer (some ⟨w.heap.size,0,none⟩):=sm 3 (by kernel_rfl)
    have e6:gT bb 6 = .pointer (some ⟨w.heap.size + 1,0,none⟩):=sm 6 (by kernel_rfl)
    have e9:gT bb 9 = .slice (some ⟨b,off,none⟩) n c:=sm 9 (by kernel_rfl)
    have e10:gT bb 10 = .int .i64 n:=sm 10 (by kernel_rfl)
    have e11:gT bb 11 = .int .i64 k:=sm 11 (by kernel_rfl)
    have e0:gT bb 0 = s.val:=sm 0 (by kernel_rfl)
    have e2:gT bb 2 = .slice (some ⟨b,off,none⟩) n c:=sm 2 (by kernel_rfl)
    have e4:gT bb 4 = undef:=sm 4 (by kernel_rfl)
    have e5:gT bb 5 = undef:=sm 5 (by kernel_rfl)
    have e7:gT bb 7 = undef:=sm 7 (by kernel_rfl)
    have e21:=sm 21 (by kernel_rfl)
    have RB:=zH (HRBV.out.below su)
    have RX:=zH (HRXV.out.below su)
    have RW:=zH (HRWV.out.trans (su.mono HRWV.out.size))
    obtain ⟨c0,c1,c2,f0,f1,f2⟩:=RB.out.facts
    clear su hG sm
    rw [JS bb 22 hN]
    simp only [show List.range 22 = [0,1,2,3,4,5,6,7,8,9,10,11,12,13,14,15,16,17,18,19,20,21] from rfl,List.map_cons,List.map_nil,e0,e1,e2,e3,e4,e5,e6,e7,e9,e10,e11,e19,e21,hdf]
    clear e0 e1 e2 e3 e4 e5 e6 e7 e9 e10 e11 e19 e21 hN hdf
    generalize gT bb 8 = z8,gT bb 12 = z12,gT bb 13 = z13,gT bb 14 = z14,gT bb 15 = z15,gT bb 16 = z16,gT bb 17 = z17,gT bb 18 = z18,gT bb 20 = z20
    obtain ⟨rn,rA,rc,rN,rB,rd,rD⟩:=r
    have NR:Hid (Nm (((u.setCell ⟨w.heap.size,0,none⟩ (.bool rn)).setCell ⟨w.heap.size,1,none⟩ (.slice rA rN.length rc)).setCell ⟨w.heap.size,2,none⟩ (.slice rB rD.length rd)) ⟨rn,rA,rc,rN,rB,rd,rD⟩ (acc (k + 1))):=zH (by rw [HAK.out];exact hr.out.rowed RB.out _ _ _)
    have BR:Hid (Nb (((u.setCell ⟨w.heap.size,0,none⟩ (.bool rn)).setCell ⟨w.heap.size,1,none⟩ (.slice rA rN.length rc)).setCell ⟨w.heap.size,2,none⟩ (.slice rB rD.length rd)) w.heap.size ⟨rn,rA,rc,rN,rB,rd,rD⟩):=zH (ZbN RB.out _ _ _)
    have XR:Hid (Bt 158 (((u.setCell ⟨w.heap.size,0,none⟩ (.bool rn)).setCell ⟨w.heap.size,1,none⟩ (.slice rA rN.length rc)).setCell ⟨w.heap.size,2,none⟩ (.slice rB rD.length rd)) (w.heap.size + 1)):=zH ((Below.heap_setCell _ ⟨w.heap.size,2,none⟩ _ _ (by simp)).trans ((Below.heap_setCell _ ⟨w.heap.size,1,none⟩ _ _ (by simp)).trans ((Below.heap_setCell _ ⟨w.heap.size,0,none⟩ _ _ (by simp)).trans RX.out)))
    have WR:Hid (Below w.heap.size w (((u.setCell ⟨w.heap.size,0,none⟩ (.bool rn)).setCell ⟨w.heap.size,1,none⟩ (.slice rA rN.length rc)).setCell ⟨w.heap.size,2,none⟩ (.slice rB rD.length rd))):=zH (Jh RW.out nR _ _ _)
    refine PopQ.last rfl rfl (fun K hK=>?_)
    go_simp
    refine hK _ _ ?_
    clear hK K
    go_wp2_with fail
    exact ⟨⟨k + 1,by omega,by go_num,_,NR,BR,XR,WR⟩,by simp [intOf];omega⟩
  ·obtain rfl:k = n:=by omega
   obtain ⟨c0,c1,c2,-,-,-⟩:=HRB.out.facts
   obtain ⟨k0,k1,k2,f0,f1,f2⟩:=HRX.out.facts
   go_wp2_with fail
   obtain ⟨g0,g1,g2⟩:=Zy (.bool a.neg) (.slice a.A a.N.length a.c) (.slice a.B a.D.length a.d) k0 k1 k2
   refine bodyPost_ret (v:=.agg #[.bool a.neg,.slice a.A a.N.length a.c,.slice a.B a.D.length a.d]) (by simp [results,Tryz.results164,go_sem,g0,g1,g2]) rfl ?_
   exact ⟨a,rfl,Yj HN.out HRX.out _ _ _,Jh HRW.out (by omega) _ _ _⟩
theorem Zfp (n:Nat) (X:Nat -> Fr) (Q acc:Nat -> Rat) (A:Option Addr) (c:Nat) (s:Fr) (w:World) (hs:Nm w s (acc 0)) (hl:FL w A n X Q) (hn:n <= 1000000) (hacc:∀ k,k < n -> acc (k + 1) = acc k * Q k) (hsz:∀ k,k <= n -> Sz (acc k) 190000) (hq:∀ k,k < n -> Few (X k) 190000) :
  Calls Tryz.prog 164 #[s.val,.func (.func 116) #[] #[],.slice A n c] w (Uw (acc n) w):=by
 obtain ⟨W,hW⟩:∃ W:World,W = (w.alloc (.cells #[.bool s.neg,.slice s.A s.N.length s.c,.slice s.B s.D.length s.d] 158)).alloc (.cells #[.bool false,.slice none 0 0,.slice none 0 0] 158):=⟨_,rfl⟩
 have HB0:Hid (Below w.heap.size w W):=zH (by rw [hW];exact al2 w _ _)
 have HBX:Hid (Bt 158 W (w.heap.size + 1)):=zH (by rw [hW];have:=Bt.new 158 (w.alloc (.cells #[.bool s.neg,.slice s.A s.N.length s.c,.slice s.B s.D.length s.d] 158));simpa using this)
 have HNB:Hid (Nb W w.heap.size s):=zH (by rw [hW];exact (Below.heap_alloc _ _ _ (by simp)).trans (heap_alloc_new w _))
 have HS:=zH (hs.below HB0.out)
 have HA:=zH hacc
 have HSZ:=zH hsz
 have HF:=zH hq
 have HL:=zH hl
 clear hs hacc hsz hq hl
 go_enter Tryz.func164,Tryz.ntmps164
 go_wp2_with fail
 rw [<- hW]
 clear hW
 go_loopw [8,11] (fun _ i wr=>∃ k:Nat,k <= n /\ i = .int .i64 k /\ ∃ a:Fr,Hid (Nm wr a (acc k)) /\ Hid (Nb wr w.heap.size a) /\ Hid (Bt 158 wr (w.heap.size + 1)) /\ Hid (Below w.heap.size w wr)) (fun _ i _=>n - (intOf i).toNat)
 case atStart=>exact ⟨0,by omega,rfl,s,HS,HNB,HBX,HB0⟩
 case round=>
  obtain ⟨k,hk,rfl,a,HN,HRB,HRX,HRW⟩:=hrel
  clear HNB HBX HB0 HS
  by_cases hlt:k < n
  ·obtain ⟨b,off,rfl,hb,x0,x1,x2,x3⟩:=(HL.out.below HRW.out) k hlt
   have SA:=zH (HSZ.out k (by omega))
   have XF0:=HF.out k hlt
   have XF:Hid (Few (X k) 390000):=zH ⟨tR XF0.n (by decide),tR XF0.d (by decide)⟩
   have SQ:=zH (x3.sz XF0 (by decide))
   have HX3:=zH x3
   have HAK:=zH (HA.out k hlt)
   obtain ⟨V,hV⟩:∃ V:World,V = wr.alloc (.cells #[.bool (X k).neg,.slice (X k).A (X k).N.length (X k).c,.slice (X k).B (X k).D.length (X k).d] 26):=⟨_,rfl⟩
   have BV:Hid (Below wr.heap.size wr V):=zH (by rw [hV];exact bR.alloc nR _)
   have hwl:w.heap.size < wr.heap.size:=HRB.out.lt
   have hwx:w.heap.size + 1 < wr.heap.size:=HRX.out.lt
   have HC:Hid (∀ u,Below V.heap.size V u -> u.cell? ⟨w.heap.size,0,none⟩ = some (.bool a.neg) /\ u.cell? ⟨w.heap.size,1,none⟩ = some (.slice a.A a.N.length a.c) /\ u.cell? ⟨w.heap.size,2,none⟩ = some (.slice a.B a.D.length a.d) /\ u.cell? ⟨wr.heap.size,0,none⟩ = some (.bool (X k).neg) /\ u.cell? ⟨wr.heap.size,1,none⟩ = some (.slice (X k).A (X k).N.length (X k).c) /\ u.cell? ⟨wr.heap.size,2,none⟩ = some (.slice (X k).B (X k).D.length (X k).d)):=zH (fun u hu=>by
    obtain ⟨a0,a1,a2,-,-,-⟩:=((HRB.out.below BV.out).below hu).facts
    have hvs:wr.heap.size < V.heap.size:=by rw [hV];simp
    refine ⟨a0,a1,a2,?_,?_,?_⟩
    ·rw [hu.cell (p:=⟨wr.heap.size,0,none⟩) hvs,hV];simp [go_sem]
    ·rw [hu.cell (p:=⟨wr.heap.size,1,none⟩) hvs,hV];simp [go_sem]
    ·rw [hu.cell (p:=⟨wr.heap.size,2,none⟩) hvs,hV];simp [go_sem])
   have HNV:=zH (HN.out.below BV.out)
   have HXV:=zH (HX3.out.below BV.out)
   have HRBV:=zH (HRB.out.below BV.out)
   have HRXV:=zH (HRX.out.below BV.out)
   have HRWV:=zH (HRW.out.trans (BV.out.mono HRW.out.size))
   clear x3 XF0 HN HRB HRX HRW HX3 BV
   go_wp2_with fail
   rw [<- hV]
   clear hV x0 x1 x2
   refine Jj 5 22 rfl (by kernel_rfl) (by kernel_rfl) (by kernel_rfl) (by kernel_rfl) (fun u=>Below V.heap.size V u) (fun u u'=>Below u.heap.size u u') (Gl [isV (.func (.func 116) #[] #[]),isV (a.val),isV ((X k).val),isNm (Q k),isNm (acc k * Q k)]) (Gl.keep (by
     intro p hp
     simp only [List.mem_cons,List.not_mem_nil,or_false] at hp
     rcases hp with rfl | rfl | rfl | rfl | rfl
     ·exact Keeps.isV _
     ·exact Keeps.isV _
     ·exact Keeps.isV _
     ·exact Keeps.isNm _
     ·exact Keeps.isNm _)) ?_ ?_ ?_
   ·exact (Below.refl _ V).drew
   ·simp only [List.pop_toArray,List.dropLast,Jp]
    refine ⟨?_,?_,?_,?_,?_,trivial⟩
    ·intro bb u su dp kp K hK
     have e1:gT bb 1 = .func (.func 116) #[] #[]:=kp 1 (by kernel_rfl)
     go_simp
     exact hK _ _ su bR rfl
    ·intro bb u su dp kp K hK
     have e3:gT bb 3 = .pointer (some ⟨w.heap.size,0,none⟩):=kp 3 (by kernel_rfl)
     obtain ⟨cc0,cc1,cc2,cc3,cc4,cc5⟩:=HC.out u su
     go_simp
     exact hK _ _ su bR rfl
    ·intro bb u su dp kp K hK
     have e8:gT bb 8 = .pointer (some ⟨wr.heap.size,0,none⟩):=kp 8 (by kernel_rfl)
     obtain ⟨cc0,cc1,cc2,cc3,cc4,cc5⟩:=HC.out u su
     go_simp
     exact hK _ _ su bR rfl
    ·intro bb u su dp kp K hK
     have e17:gT bb 17 = (X k).val:=dp 2 _ rfl (by kernel_rfl)
     go_simp
     refine (Xy (X k) (Q k) u (HXV.out.below su) XF.out).mono ?_
     rintro e w' ⟨r,rfl,hr,h4⟩
     go_simp
     exact hK _ _ (su.trans (h4.mono su.size)) h4 ⟨r,rfl,zH hr⟩
    ·intro bb u su dp kp K hK
     have e15:gT bb 15 = .func (.func 116) #[] #[]:=dp 0 _ rfl (by kernel_rfl)
     have e16:gT bb 16 = a.val:=dp 1 _ rfl (by kernel_rfl)
     obtain ⟨r18,e18,D18⟩:∃ r:Fr,gT bb 18 = r.val /\ Hid (Nm u r (Q k)):=dp 3 _ rfl (by kernel_rfl)
     go_simp
     refine (ZbA a r18 (acc k) (Q k) u (HNV.out.below su) D18.out (SA.out.mono (by decide)) (SQ.out.mono (by decide))).mono ?_
     rintro e w' ⟨r,rfl,hr,h4⟩
     go_simp
     exact hK _ _ (su.trans (h4.mono su.size)) h4 ⟨r,rfl,zH hr⟩
   ·intro bb u hN hdf su hG sm
    obtain ⟨r,e19,hr⟩:∃ r:Fr,gT bb 19 = r.val /\ Hid (Nm u r (acc k * Q k)):=hG 4 _ rfl
    have e1:gT bb 1 = .func (.func 116) #[] #[]:=sm 1 (by kernel_rfl)
    have e3:gT bb 3 = .pointer (some ⟨w.heap.size,0,none⟩):=sm 3 (by kernel_rfl)
    have e6:gT bb 6 = .pointer (some ⟨w.heap.size + 1,0,none⟩):=sm 6 (by kernel_rfl)
    have e9:gT bb 9 = .slice (some ⟨b,off,none⟩) n c:=sm 9 (by kernel_rfl)
    have e10:gT bb 10 = .int .i64 n:=sm 10 (by kernel_rfl)
    have e11:gT bb 11 = .int .i64 k:=sm 11 (by kernel_rfl)
    have e0:gT bb 0 = s.val:=sm 0 (by kernel_rfl)
    have e2:gT bb 2 = .slice (some ⟨b,off,none⟩) n c:=sm 2 (by kernel_rfl)
    have e4:gT bb 4 = undef:=sm 4 (by kernel_rfl)
    have e5:gT bb 5 = undef:=sm 5 (by kernel_rfl)
    have e7:gT bb 7 = undef:=sm 7 (by kernel_rfl)
    have e21:=sm 21 (by kernel_rfl)
    have RB:=zH (HRBV.out.below su)
    have RX:=zH (HRXV.out.below su)
    have RW:=zH (HRWV.out.trans (su.mono HRWV.out.size))
    obtain ⟨c0,c1,c2,f0,f1,f2⟩:=RB.out.facts
    clear su hG sm
    rw [JS bb 22 hN]
    simp only [show List.range 22 = [0,1,2,3,4,5,6,7,8,9,10,11,12,13,14,15,16,17,18,19,20,21] from rfl,List.map_cons,List.map_nil,e0,e1,e2,e3,e4,e5,e6,e7,e9,e10,e11,e19,e21,hdf]
    clear e0 e1 e2 e3 e4 e5 e6 e7 e9 e10 e11 e19 e21 hN hdf
    generalize gT bb 8 = z8,gT bb 12 = z12,gT bb 13 = z13,gT bb 14 = z14,gT bb 15 = z15,gT bb 16 = z16,gT bb 17 = z17,gT bb 18 = z18,gT bb 20 = z20
    obtain ⟨rn,rA,rc,rN,rB,rd,rD⟩:=r
    have NR:Hid (Nm (((u.setCell ⟨w.heap.size,0,none⟩ (.bool rn)).setCell ⟨w.heap.size,1,none⟩ (.slice rA rN.length rc)).setCell ⟨w.heap.size,2,none⟩ (.slice rB rD.length rd)) ⟨rn,rA,rc,rN,rB,rd,rD⟩ (acc (k + 1))):=zH (by rw [HAK.out];exact hr.out.rowed RB.out _ _ _)
    have BR:Hid (Nb (((u.setCell ⟨w.heap.size,0,none⟩ (.bool rn)).setCell ⟨w.heap.size,1,none⟩ (.slice rA rN.length rc)).setCell ⟨w.heap.size,2,none⟩ (.slice rB rD.length rd)) w.heap.size ⟨rn,rA,rc,rN,rB,rd,rD⟩):=zH (ZbN RB.out _ _ _)
    have XR:Hid (Bt 158 (((u.setCell ⟨w.heap.size,0,none⟩ (.bool rn)).setCell ⟨w.heap.size,1,none⟩ (.slice rA rN.length rc)).setCell ⟨w.heap.size,2,none⟩ (.slice rB rD.length rd)) (w.heap.size + 1)):=zH ((Below.heap_setCell _ ⟨w.heap.size,2,none⟩ _ _ (by simp)).trans ((Below.heap_setCell _ ⟨w.heap.size,1,none⟩ _ _ (by simp)).trans ((Below.heap_setCell _ ⟨w.heap.size,0,none⟩ _ _ (by simp)).trans RX.out)))
    have WR:Hid (Below w.heap.size w (((u.setCell ⟨w.heap.size,0,none⟩ (.bool rn)).setCell ⟨w.heap.size,1,none⟩ (.slice rA rN.length rc)).setCell ⟨w.heap.size,2,none⟩ (.slice rB rD.length rd))):=zH (Jh RW.out nR _ _ _)
    refine PopQ.last rfl rfl (fun K hK=>?_)
    go_simp
    refine hK _ _ ?_
    clear hK K
    go_wp2_with fail
    exact ⟨⟨k + 1,by omega,by go_num,_,NR,BR,XR,WR⟩,by simp [intOf];omega⟩
  ·obtain rfl:k = n:=by omega
   obtain ⟨c0,c1,c2,-,-,-⟩:=HRB.out.facts
   obtain ⟨k0,k1,k2,f0,f1,f2⟩:=HRX.out.facts
   go_wp2_with fail
   obtain ⟨g0,g1,g2⟩:=Zy (.bool a.neg) (.slice a.A a.N.length a.c) (.slice a.B a.D.length a.d) k0 k1 k2
   refine bodyPost_ret (v:=.agg #[.bool a.neg,.slice a.A a.N.length a.c,.slice a.B a.D.length a.d]) (by simp [results,Tryz.results164,go_sem,g0,g1,g2]) rfl ?_
   exact ⟨a,rfl,Yj HN.out HRX.out _ _ _,Jh HRW.out (by omega) _ _ _⟩
end Go.Proofs.YtfbdihpllmhcnaaGreatDoor
