/- a part of TalkSettles -/
import Derived.Test.YtcjicjfbippmnaaGreatMTSett19
set_option maxRecDepth 100000
set_option maxHeartbeats 32000000
namespace Go.Proofs.YtcjicjfbippmnaaGreat
open Go.RowKit Ear

theorem grp_two {va vb:List (List Int)} (h:grpR [va,vb] = 0) : 0 < va.length /\ 0 < vb.length /\ va.length <= 10000 /\ vb.length <= 10000 /\ len0 va <= 64 /\ Vcs (len0 va) va /\ Vcs (len0 va) vb:=by
 unfold grpR at h
 split at h
 ·cases h
 ·rename_i hl
  split at h
  ·rename_i hg
   simp [grpOk] at hg hl
   obtain ⟨⟨h1,h2⟩,h3⟩:=hg
   cases va with
   | nil=>exact absurd rfl h1
   | cons x l=>
    have e:len0 (x :: l ++ vb) = x.length:=rfl
    have hx:=fun y hy=>vecOk_mem (vs:=x :: (l ++ vb)) (by simpa using h3) (x:=y) hy
    have e2:len0 (x :: (l ++ vb)) = len0 (x :: l):=rfl
    rw [e2] at hx
    have h0 : 0 < vb.length:=List.length_pos_iff.2 h2
    refine ⟨by simp,h0,by omega,by omega,(hx x (by simp)).2.2.1,fun y hy=>?_,fun y hy=>?_⟩
    ·have:=hx y (by simp at hy ⊢;rcases hy with h | h;exact .inl h;exact .inr (.inl h))
     exact ⟨this.1,this.2.2.2⟩
    ·have:=hx y (by simp;exact .inr (.inr hy))
     exact ⟨this.1,this.2.2.2⟩
  ·cases h
def gapE (r:Int) (va vb:List (List Int)):Rat:=if r = 0 then gapQ va vb else ((0:Int):Rat)
def RetFqE (r:Int) (q:Rat) (w:World) (e:Ending) (w':World):Prop:=∃ x:Fr,e = .returned (.tuple #[x.val,.int .i64 r]) /\ Fq w' x q /\ Below w.heap.size w w' /\ (r ≠ 0 -> x = zeroFr)
theorem lies_2g (w:World) (u v:Value) (t:TypeId):Lies (w.alloc (.cells #[u,v] t)) (some ⟨w.heap.size,0,none⟩) [u,v]:=fun _=>
 ⟨w.heap.size,0,rfl,by simp,fun k x hx=>by rw [Nat.zero_add,cell_of_row _ _ k _ _ _ (heap_alloc_new w _)];simpa using hx⟩
theorem gg_two {w:World} {A B:Option Addr} {c d:Nat} {L M:List Inn} (hA:LL w A L) (hB:LL w B M) (t:TypeId):GG (w.alloc (.cells #[.slice A L.length c,.slice B M.length d] t)) (some ⟨w.heap.size,0,none⟩) [(A,c,L),(B,d,M)]:=
 ⟨lies_2g _ _ _ _,fun g hg=>by
  rcases List.mem_cons.1 hg with rfl | hg
  ·exact hA.below (bR.alloc nR _)
  ·rw [List.mem_singleton] at hg
   subst hg
   exact hB.below (bR.alloc nR _)⟩
theorem tGap_any (A B:Option Addr) (c d:Nat) (L M:List Inn) (w:World) (hA:LL w A L) (hB:LL w B M) (hl:L.length <= 10000) (hm:M.length <= 10000) (r:Int) (hr:Hid (grpR [vsOf L,vsOf M] = r)) :
  Calls Tryz.prog 15 #[.slice A L.length c,.slice B M.length d] w (RetFqE r (gapE r (vsOf L) (vsOf M)) w):=by
 obtain ⟨W,hW⟩:∃ W:World,W = w.alloc (.cells #[.bool false,.slice none 0 0,.slice none 0 0] 28):=⟨_,rfl⟩
 have HB0:Hid (Below w.heap.size w W):=zH (by rw [hW];exact bR.alloc nR _)
 have HBX:Hid (Bt 28 W w.heap.size):=zH (by rw [hW];exact Bt.new _ w)
 have hWs:W.heap.size = w.heap.size + 1:=by rw [hW];simp
 have hAW:=hA.below HB0.out
 have hBW:=hB.below HB0.out
 obtain ⟨V,hV⟩:∃ V:World,V = W.alloc (.cells #[.slice A L.length c,.slice B M.length d] 22):=⟨_,rfl⟩
 have HGG:Hid (GG V (some ⟨w.heap.size + 1,0,none⟩) [(A,c,L),(B,d,M)]):=zH (by rw [hV,<- hWs];exact gg_two hAW hBW _)
 have HBV:Hid (Below W.heap.size W V):=zH (by rw [hV];exact bR.alloc nR _)
 have C1:Hid (Calls Tryz.prog 55 #[.slice (some ⟨w.heap.size + 1,0,none⟩) 2 2] V fun e w'=>e = .returned (.int .i64 r) /\ V = w'):=zH (grouped_any (some ⟨w.heap.size + 1,0,none⟩) 2 [(A,c,L),(B,d,M)] V HGG.out (by simp) (zH (by intro g hg;simp at hg;rcases hg with rfl | rfl <;> simpa)) r hr)
 have HAV:=zH (hAW.below HBV.out)
 have HBV':=zH (hBW.below HBV.out)
 have HX:=zH (HBX.out.below HBV.out)
 have HW:=zH (HB0.out.trans (HBV.out.mono HB0.out.size))
 clear hAW hBW HB0 HBX hA hB HGG HBV hWs
 by_cases h0:r = 0
 ·obtain ⟨g1,g2,-,-,g3,g4,g5⟩:=grp_two (hr.out.trans h0)
  have C2:=zH (tgap_any A B c d _ L M V HAV.out HBV'.out (zH g4) (zH g5) (by simpa using g1) (by simpa using g2) hl hm (by omega))
  subst h0
  clear g1 g2 g3 g4 g5 HAV HBV'
  go_enter Tryz.func15,Tryz.ntmps15
  go_wp2_with fail
  rw [<- hW]
  rw [<- hV]
  clear hW hV
  refine C1.out.mono ?_
  rintro e w' ⟨rfl,rfl⟩
  clear C1
  go_wp2_with fail
  refine C2.out.mono ?_
  rintro e w1 ⟨x,rfl,hx,hb⟩
  have HX1:=zH (HX.out.below hb)
  have HW1:=zH (HW.out.trans (hb.mono HW.out.size))
  have HQ:=zH hx
  obtain ⟨c0,c1,c2,f0,f1,f2⟩:=HX1.out.facts
  clear hx hb C2 HX HW
  go_wp2_with fail
  obtain ⟨g0,g1,g2⟩:=box3 (.bool x.neg) (.slice x.A x.N.length x.c) (.slice x.B x.D.length x.d) c0 c1 c2
  refine bodyPost_ret (v:=.tuple #[x.val,.int .i64 0]) (by simp [results,Tryz.results15,go_sem,g0,g1,g2]) rfl ?_
  exact ⟨x,rfl,fq_boxed HQ.out HX1.out _ _ _,below_boxed HW1.out nR _ _ _,fun h=>absurd rfl h⟩
 ·have hE:gapE r (vsOf L) (vsOf M) = ((0:Int):Rat):=if_neg h0
  rw [hE]
  have q0:(r != 0) = true:=by simp [h0]
  clear hE
  obtain ⟨c0,c1,c2,f0,f1,f2⟩:=HX.out.facts
  go_enter Tryz.func15,Tryz.ntmps15
  go_wp2_with fail
  rw [<- hW]
  rw [<- hV]
  clear hW hV
  refine C1.out.mono ?_
  rintro e w' ⟨rfl,rfl⟩
  clear C1
  go_wp2_with fail
  obtain ⟨g0,g1,g2⟩:=box3 (.bool false) (.slice none 0 0) (.slice none 0 0) c0 c1 c2
  refine bodyPost_ret (v:=.tuple #[zeroFr.val,.int .i64 r]) (by simp [results,Tryz.results15,go_sem,g0,g1,g2,zeroFr]) rfl ?_
  exact ⟨zeroFr,rfl,fq_boxed (Fq.zero _) HX.out _ _ _,below_boxed HW.out nR _ _ _,fun _=>rfl⟩
end Go.Proofs.YtcjicjfbippmnaaGreat
