/- a part of TalkGrows -/
import Derived.Test.YtcjicjfbippmnaaGreatMTGrow3
import Derived.Test.YtcjicjfbippmnaaGreatMTGrow1
import Derived.Test.YtcjicjfbippmnaaGreatMTGrow0
import Derived.Test.YtcjicjfbippmnaaGreatMTGrow2
import Derived.Test.YtcjicjfbippmnaaGreatMTGrow18
import Derived.Test.YtcjicjfbippmnaaGreatMTGrow40
import Derived.Test.YtcjicjfbippmnaaGreatMTGrow30
set_option maxRecDepth 100000
set_option maxHeartbeats 32000000
namespace Go.Proofs.YtcjicjfbippmnaaGreat
open Go.RowKit Ear

def few1 (v:List Int):Bool:=decide (v.length <= 70)
def few2 (g:List (List Int)):Bool:=decide (g.length <= 8) && g.all few1
def few3 (n m:Nat):Bool:=!((decide (m < n) && decide (n <= 60)) || decide (100 < n))
def fewG (m:Nat) (gs:List (List (List Int))):Bool:=few3 gs.length m && gs.all few2
theorem fall_at {α:Type} {p : α -> Bool} {l:List α} {k:Nat} (hk:k < l.length) (h:p l[k] = false):l.all p = false:=by
 rw [List.all_eq_false];exact ⟨_,List.getElem_mem hk,by rw [h];decide⟩
theorem fall_succ {α:Type} {p : α -> Bool} {l:List α} {k:Nat} (hk:k < l.length) (h:(l.take k).all p = true) (h2:p l[k] = true):(l.take (k + 1)).all p = true:=by
 rw [List.take_succ_eq_append_getElem hk,List.all_append,h];simp [h2]

theorem few10_any (A:Option Addr) (c m:Nat) (G:List Grp) (w:World) (h:GG w A G) (hn:G.length <= 1000000) (hm:m <= 1000) (hg:Hid (∀ g ∈ G,g.2.2.length <= 9223372036854775807)) (r:Bool) (hr:Hid (fewG m (gvs G) = r)) :
  Calls Tryz.prog 13 #[.slice A G.length c,.int .i64 m] w fun e w'=>e = .returned (.bool r) /\ w = w':=by
 have HGL:Hid ((gvs G).length = G.length):=zH (by simp)
 have HGK:Hid (∀ k (hk:k < G.length),(gvs G)[k]'(by rw [HGL.out];exact hk) = vsOf G[k].2.2):=zH (fun k hk=>by simp)
 have H:=zH h
 clear h
 have hb:=hr.out
 unfold fewG at hb
 rw [HGL.out] at hb
 by_cases h3:few3 G.length m = true
 ·rw [h3,Bool.true_and] at hb
  have HB:=zH hb
  clear hb hr
  have h4:(¬ m < G.length ∨ 60 < G.length) /\ ¬ 100 < G.length:=by
   simp only [few3,Bool.not_eq_true',Bool.or_eq_false_iff,Bool.and_eq_false_iff,decide_eq_false_iff_not] at h3
   exact ⟨h3.1.imp id (by omega),h3.2⟩
  obtain ⟨h4,h5⟩:=h4
  clear h3
  go_enter Tryz.func13,Tryz.ntmps13
  rcases (show (G.length <= m) ∨ (m < G.length /\ 60 < G.length) by omega) with h6 | ⟨h6,h7⟩
  all_goals
   clear h4
   go_wp2_with fail
   go_loop [5] (fun i=>∃ k:Nat,k <= G.length /\ i = .int .i64 k /\ Hid (((gvs G).take k).all few2 = true)) (fun i=>G.length - (intOf i).toNat)
   case atStart=>exact ⟨0,by omega,rfl,zH rfl⟩
   case round=>
    obtain ⟨k,hk,rfl,HP⟩:=hrel
    by_cases hlt:k < G.length
    ·obtain ⟨bk,off,rfl,hbk,hc⟩:=H.out.lies.gat hlt
     have hgk:=hg.out _ (List.getElem_mem hlt)
     have HLL:=zH (H.out.grp _ (List.getElem_mem hlt))
     have HFB:Hid (few2 (vsOf G[k].2.2) = false -> r = false):=zH (fun hf=>by rw [<- HB.out];exact fall_at (k:=k) (by rw [HGL.out];exact hlt) (by rw [HGK.out k hlt];exact hf))
     have HFG:Hid (few2 (vsOf G[k].2.2) = true -> ((gvs G).take (k + 1)).all few2 = true):=zH (fun hf=>fall_succ (by rw [HGL.out];exact hlt) HP.out (by rw [HGK.out k hlt];exact hf))
     clear HP
     generalize G[k] = g at *
     obtain ⟨gA,gc,gl⟩:=g
     simp only at *
     have HVL:Hid ((vsOf gl).length = gl.length):=zH (by simp)
     by_cases h8:gl.length <= 8
     ·go_wp2_with fail
      go_loop [6] (fun i=>∃ j:Nat,j <= gl.length /\ i = .int .i64 j /\ Hid (((vsOf gl).take j).all few1 = true)) (fun i=>gl.length - (intOf i).toNat)
      case atStart=>exact ⟨0,by omega,rfl,zH rfl⟩
      case round=>
       obtain ⟨j,hj,rfl,HP⟩:=hrel
       by_cases hjl:j < gl.length
       ·obtain ⟨bx,ox,rfl,hbx,hcx⟩:=HLL.out.lies.lat hjl
        have hget:(vsOf gl)[j]'(by rw [HVL.out];exact hjl) = gl[j].2.2:=by simp
        by_cases h70:gl[j].2.2.length <= 70
        ·have HY:=zH (fall_succ (by rw [HVL.out];exact hjl) HP.out (p:=few1) (by rw [hget];simpa [few1] using h70))
         clear HFB HFG hget HP
         generalize gl[j] = X at *
         obtain ⟨XA,Xc,xl⟩:=X
         simp only at *
         go_wp2_with fail
         exact ⟨⟨j + 1,by omega,by go_num,HY⟩,by simp [intOf];omega⟩
        ·have hz:r = false:=HFB.out (by
          unfold few2
          rw [fall_at (k:=j) (p:=few1) (by rw [HVL.out];exact hjl) (by rw [hget];simpa [few1] using h70),Bool.and_false])
         subst hz
         clear HFB HFG hget HP HB
         generalize gl[j] = X at *
         obtain ⟨XA,Xc,xl⟩:=X
         simp only at *
         go_wp2_with fail
         go_ret
         exact ⟨rfl,rfl⟩
       ·obtain rfl:j = gl.length:=by omega
        have HY:=zH (HFG.out (by
         unfold few2
         rw [Bool.and_eq_true]
         refine ⟨by rw [HVL.out];simpa using h8,?_⟩
         rw [<- List.take_of_length_le (l:=vsOf gl) (i:=gl.length) (by rw [HVL.out];omega)]
         exact HP.out))
        clear HFB HFG HP
        go_wp2_with fail
        exact ⟨⟨k + 1,by omega,by go_num,HY⟩,by simp [intOf];omega⟩
     ·have hz:r = false:=HFB.out (by unfold few2;rw [HVL.out,decide_eq_false h8,Bool.false_and])
      subst hz
      clear HFB HFG HB
      go_wp2_with fail
      go_ret
      exact ⟨rfl,rfl⟩
    ·obtain rfl:k = G.length:=by omega
     have hz:r = true:=by
      rw [<- HB.out,<- List.take_of_length_le (l:=gvs G) (i:=G.length) (by rw [HGL.out];omega)]
      exact HP.out
     subst hz
     clear HB HP
     go_wp2_with fail
     go_ret
     exact ⟨rfl,rfl⟩
 ·have h3':few3 G.length m = false:=by simpa using h3
  rw [h3',Bool.false_and] at hb
  subst hb
  clear hr h3
  have h4:(m < G.length /\ G.length <= 60) ∨ 100 < G.length:=by
   simp only [few3,Bool.not_eq_false',Bool.or_eq_true,Bool.and_eq_true,decide_eq_true_eq] at h3'
   exact h3'
  clear h3'
  rcases (show (m < G.length /\ G.length <= 60) ∨ (m < G.length /\ 60 < G.length /\ 100 < G.length) ∨ (G.length <= m /\ 100 < G.length) by omega) with ⟨h5,h6⟩ | ⟨h5,h6,h7⟩ | ⟨h5,h6⟩
  all_goals
   clear h4
   go_enter Tryz.func13,Tryz.ntmps13
   go_wp2_with fail
   go_ret
   exact ⟨rfl,rfl⟩
theorem All_quietG (A:Option Addr) (c:Nat) (l:List Int) (lo hi:Int) (w:World) (h:Lies w A (ics l)) (hn:l.length <= 9223372036854775807) (b:Bool) (hb':Hid (allR lo hi l = b)) (m:Nat) :
  Calls Tryz.prog 118 #[.slice A l.length c,.int .i64 lo,.int .i64 hi] (w.drewN m) fun e w'=>e = .returned (.bool b) /\ w' = w.drewN m:=
 (All_any A c l lo hi (w.drewN m) (h.drewN m) hn b hb').mono fun _ _ ⟨h1,h2⟩=>⟨h1,h2.symm⟩

theorem rVecs_any (A:Option Addr) (c:Nat) (L:List Inn) (w:World) (hA:LL w A L) (hn:L.length <= 9223372036854775807) (r:Bool) (hr:Hid (vecOk (vsOf L) = r)) :
  Calls Tryz.prog 57 #[.slice A L.length c] w (RetBool r w):=by
 have HVL:Hid ((vsOf L).length = L.length):=zH (by simp)
 go_enter Tryz.func57,Tryz.ntmps57
 go_wp2_with fail
 go_loopw [3] (fun i wr=>∃ k:Nat,k <= L.length /\ i = .int .i64 k /\ Hid (((vsOf L).take k).all (okV (len0 (vsOf L))) = true) /\ ∃ n,wr = w.drewN n) (fun i _=>L.length - (intOf i).toNat)
 case atStart=>exact ⟨0,by omega,rfl,rfl,0,rfl⟩
 case round=>
  obtain ⟨k,hk,rfl,hp,n,rfl⟩:=hrel
  by_cases hlt:k < L.length
  ·obtain ⟨bk,off,rfl,hbk,hc⟩:=(show Lies (w.drewN n) A (lcs L) from hA.lies).lat hlt
   obtain ⟨b0,o0,eA,hb0,hc0⟩:=(show Lies (w.drewN n) _ (lcs L) from hA.lies).lat (k:=0) (by omega)
   cases eA
   rw [Nat.add_zero] at hc0
   have hx:InOk (w.drewN n) L[k]:=hA.inn _ (List.getElem_mem hlt)
   have hL0:=len0_at (L:=L) (by omega)
   have hget:(vsOf L)[k]'(by rw [HVL.out];exact hlt) = L[k].2.2:=by simp
   have hno:okV L[0].2.2.length L[k].2.2 = false -> r = false:=fun hf=>by
    rw [<- hr.out]
    exact vall_false_at (L:=vsOf L) (k:=k) (by rw [HVL.out];exact hlt) (by rw [hget,hL0];exact hf)
   have hyes:okV L[0].2.2.length L[k].2.2 = true -> Hid (((vsOf L).take (k + 1)).all (okV (len0 (vsOf L))) = true):=fun ht=>
    zH <| vall_take_succ (L:=vsOf L) (k:=k) (by rw [HVL.out];exact hlt) hp.out (by rw [hget,hL0];exact ht)
   have HNO:=zH hno
   have HYES:=zH hyes
   clear hno hyes hget hL0 hp
   obtain ⟨hxl,_,hxn,_,_⟩:=hx
   generalize L[0] = X0 at *
   generalize L[k] = X at *
   obtain ⟨XA,Xc,xl⟩:=X
   obtain ⟨YA,Yc,yl⟩:=X0
   simp only at *
   generalize hwd:w.drewN n = wd at *
   have WD:=zH hwd
   clear hwd
   by_cases c2:xl.length < 1
   ·have hz:=HNO.out (by rw [Bool.eq_false_iff];intro ht;have:=(okV_iff.1 ht).2.1;omega)
    subst hz
    have d1:decide ((xl.length:Int) < 1) = true:=by simp;omega
    clear HYES HNO hr
    go_wp2_with fail
    go_quiet (fail)
    go_wp2_with fail
    go_ret
    exact ⟨rfl,by rw [<- WD.out];exact drewN_ex _ _ _⟩
   ·have d1:decide ((xl.length:Int) < 1) = false:=by simp;omega
    by_cases c3 : 64 < xl.length
    ·have hz:=HNO.out (by rw [Bool.eq_false_iff];intro ht;have:=(okV_iff.1 ht).2.2.1;omega)
     subst hz
     have d2:decide ((64:Int) < (xl.length:Int)) = true:=by simp;omega
     clear HYES HNO hr
     go_wp2_with fail
     go_quiet (fail)
     go_wp2_with fail
     go_ret
     exact ⟨rfl,by rw [<- WD.out];exact drewN_ex _ _ _⟩
    ·have d2:decide ((64:Int) < (xl.length:Int)) = false:=by simp;omega
     by_cases c1:xl.length = yl.length
     ·have q1:((xl.length:Int) != (yl.length:Int)) = false:=by simp [c1]
      cases c4:allR (-1048576) 1048576 xl with
      | true=>
       have H4:=zH c4
       have HY:=HYES.out (okV_iff.2 ⟨c1,by omega,by omega,c4⟩)
       have HQ:=zH (All_quietG XA Xc xl (-1048576) 1048576 wd hxl (by omega) true H4)
       clear c4 HYES HNO c1
       go_wp2_with fail
       go_quiet ((go_at_call 118;exact Calls.quiet_of_same (HQ.out _)))
       go_wp2_with fail
       exact ⟨⟨k + 1,by omega,by go_num,HY,by rw [<- WD.out];exact drewN_ex _ _ _⟩,by simp [intOf];omega⟩
      | false=>
       have H4:=zH c4
       have hz:=HNO.out (by rw [Bool.eq_false_iff];intro ht;have:=(okV_iff.1 ht).2.2.2;rw [c4] at this;cases this)
       subst hz
       have HQ:=zH (All_quietG XA Xc xl (-1048576) 1048576 wd hxl (by omega) false H4)
       clear c4 HYES HNO c1 hr
       go_wp2_with fail
       go_quiet ((go_at_call 118;exact Calls.quiet_of_same (HQ.out _)))
       go_wp2_with fail
       go_ret
       exact ⟨rfl,by rw [<- WD.out];exact drewN_ex _ _ _⟩
     ·have hz:=HNO.out (by rw [Bool.eq_false_iff];intro ht;exact c1 (okV_iff.1 ht).1)
      subst hz
      have q1:((xl.length:Int) != (yl.length:Int)) = true:=by simp;omega
      clear HYES HNO c1 hr
      go_wp2_with fail
      go_quiet (fail)
      go_wp2_with fail
      go_ret
      exact ⟨rfl,by rw [<- WD.out];exact drewN_ex _ _ _⟩
  ·have hz:r = true:=by
    have:=hp.out
    rw [List.take_of_length_le (by rw [HVL.out];omega)] at this
    rw [<- hr.out]
    exact this
   subst hz
   clear hr
   go_wp2_with fail
   go_ret
   exact ⟨rfl,n,rfl⟩
theorem rDist_any (A B:Option Addr) (c d:Nat) (v u:List Int) (w:World) (hA:Lies w A (ics v)) (hB:Lies w B (ics u)) (hl:Hid (u.length = v.length)) (hv:Hid (allR (-1048576) 1048576 v = true)) (hu:Hid (allR (-1048576) 1048576 u = true)) (h64:v.length <= 64) :
  Calls Tryz.prog 68 #[.slice A v.length c,.slice B u.length d] w (RetI (dst v u) w):=by
 go_enter Tryz.func68,Tryz.ntmps68
 go_wp2_with fail
 go_loopw [5,6] (fun s i wr=>∃ k:Nat,k <= v.length /\ i = .int .i64 k /\ s = .int .i64 (dsK v u k) /\ ∃ n,wr = w.drewN n) (fun _ i _=>v.length - (intOf i).toNat)
 case atStart=>exact ⟨0,by omega,rfl,rfl,0,rfl⟩
 case round=>
  obtain ⟨k,hk,rfl,rfl,n,hwd⟩:=hrel
  by_cases hlt:k < v.length
  ·obtain ⟨b1,o1,rfl,hb1,hc1⟩:=(show Lies wr A (ics v) by rw [hwd];exact hA).at_ hlt
   obtain ⟨b2,o2,rfl,hb2,hc2⟩:=(show Lies wr B (ics u) by rw [hwd];exact hB).at_ (k:=k) (by rw [hl.out];exact hlt)
   have WD:=zH hwd
   have hlu:k < u.length:=by rw [hl.out];exact hlt
   have m1:=getD_bd hv.out (by omega) (by omega) k
   have m2:=getD_bd hu.out (by omega) (by omega) k
   have m3:=dsK_nn v u k
   have m4:=dsK_bd hv.out hu.out k
   have m5:=ds_term hv.out hu.out k
   have m6:=sq_nn (v[k]?.getD 0 - u[k]?.getD 0)
   have hnx:Hid (dsK v u (k + 1) = dsK v u k + (v[k]?.getD 0 - u[k]?.getD 0) * (v[k]?.getD 0 - u[k]?.getD 0)):=zH rfl
   clear hwd
   generalize v[k]?.getD 0 = x at *
   generalize u[k]?.getD 0 = y at *
   generalize hy:dsK v u k = s at *
   have HY:=zH hy
   clear hy
   have p1:IntKind.i64.wrap (x - y) = x - y:=IntWalk.i64_in _ (by omega)
   generalize hz:(x - y) * (x - y) = z at *
   have p2:IntKind.i64.wrap ((x - y) * (x - y)) = z:=by rw [hz];exact IntWalk.i64_in _ (by omega)
   have p3:IntKind.i64.wrap (s + z) = s + z:=IntWalk.i64_in _ (by omega)
   have HZ:=zH hz
   clear hz
   go_wp2_with fail
   go_quiet (fail)
   go_wp2_with fail
   exact ⟨⟨k + 1,by omega,by go_num,by rw [hnx.out],by rw [WD.out];exact drewN_ex _ _ _⟩,by simp [intOf];omega⟩
  ·obtain rfl:k = v.length:=by omega
   have E:Hid (dsK v u v.length = dst v u):=zH (by unfold dst;rw [hl.out])
   go_wp2_with fail
   go_ret
   exact ⟨by rw [E.out];rfl,n,rfl⟩
def flI (G:List Grp) (k:Nat):List Inn:=((G.take k).map (·.2.2)).flatten
theorem below_dN {B:Nat} {a w:World} (h:Below B a w) (n:Nat):Below B a (w.drewN n):=⟨h.os,h.tape,h.output,h.size,h.block⟩
theorem flI_zero (G:List Grp):flI G 0 = []:=by simp [flI]
theorem flI_succ {G:List Grp} {k:Nat} (hk:k < G.length):flI G (k + 1) = flI G k ++ G[k].2.2:=by
 unfold flI
 rw [List.take_succ_eq_append_getElem hk,List.map_append,List.flatten_append];simp only [List.map_cons,List.map_nil,List.flatten_cons,List.flatten_nil,List.append_nil]
theorem flI_vs (G:List Grp):∀ k,k <= G.length -> vsOf (flI G k) = flK (gvs G) k:=by
 intro k
 induction k with
 | zero=>intro _;rw [flI_zero,flK_zero];rfl
 | succ k ih=>
  intro hk
  rw [flI_succ hk,flK_succ (by simp;omega),vsOf,List.map_append,<- vsOf,ih (by omega)]
  simp
theorem flI_mem {G:List Grp} {k:Nat} {x:Inn} (h:x ∈ flI G k):∃ g ∈ G,x ∈ g.2.2:=by
 unfold flI at h
 simp only [List.mem_flatten,List.mem_map] at h
 obtain ⟨l,⟨g,hg,rfl⟩,hx⟩:=h
 exact ⟨g,List.mem_of_mem_take hg,hx⟩

theorem rGroups_any (A:Option Addr) (c:Nat) (G:List Grp) (w:World) (h:GG w A G) (hn:G.length <= 1000) (hg:Hid (∀ g ∈ G,g.2.2.length <= 10000)) (hnil:Hid (∀ g ∈ G,g.1 = none -> g.2.1 = 0)) (r:Int) (hr:Hid (grpR (gvs G) = r)) :
  Calls Tryz.prog 16 #[.slice A G.length c] w (RetIB r w):=by
 obtain ⟨i0,hi0,hz0,hz1,hz2⟩:=info_parts info_ints
 have TI:=zH hi0;have TZ0:=zH hz0;have TZ1:=zH hz1;have TZ2:=zH hz2
 clear hi0 hz0 hz1 hz2
 have HGL:Hid ((gvs G).length = G.length):=zH (by simp)
 have HFL:Hid (∀ k,k <= G.length -> (flI G k).length = (flK (gvs G) k).length):=zH (fun k hk=>by rw [<- flI_vs G k hk];simp)
 have HGK:Hid (∀ k (hk:k < G.length),(gvs G)[k]'(by rw [HGL.out];exact hk) = vsOf G[k].2.2):=zH (fun k hk=>by simp)
 have HALL:Hid (flK (gvs G) G.length = (gvs G).flatten):=zH (flK_all (by rw [HGL.out];omega))
 have H:=zH h
 clear h
 have hr0:=hr.out
 unfold grpR at hr0
 rw [HGL.out] at hr0
 by_cases hlong : 60 < G.length
 ·rw [if_pos (.inl hlong)] at hr0
  subst hr0
  clear hr
  go_enter Tryz.func16,Tryz.ntmps16
  go_wp2_with fail
  go_ret
  exact ⟨rfl,Below.refl _ _⟩
 ·have HR0:=zH hr0
  clear hr0
  go_enter Tryz.func16,Tryz.ntmps16
  go_wp2_with fail
  go_loopw [3,4] (fun v i wr=>∃ k N:Nat,k <= G.length /\ i = .int .i64 k /\ Hid (N = (flI G k).length) /\ N <= 10000 /\ ∃ B b,v = .slice B N b /\ Hid (wr.ownsRow w.heap.size 40 1 (.slice B N b) N (lcs (flI G k))) /\ Hid (Below w.heap.size w wr)) (fun _ i _=>G.length - (intOf i).toNat)
  case atStart=>exact ⟨0,0,by omega,rfl,zH (by rw [flI_zero];rfl),by omega,none,0,rfl,zH (World.ownsRow_nil _ _ _ _),zH (Below.refl _ _)⟩
  case round=>
   obtain ⟨k,N,hk,rfl,HN,hN,B,b,rfl,HO,HB⟩:=hrel
   by_cases hlt:k < G.length
   ·obtain ⟨bk,off,rfl,hbk,hc0⟩:=H.out.lies.gat hlt
    have hc:wr.cell? ⟨bk,off + k,none⟩ = some (.slice G[k].1 G[k].2.2.length G[k].2.1):=(HB.out.cell (p:=⟨bk,off + k,none⟩) hbk).trans hc0
    have hgk:=hg.out _ (List.getElem_mem hlt)
    have HNG:=zH (hnil.out _ (List.getElem_mem hlt))
    have HLL:=zH ((H.out.grp _ (List.getElem_mem hlt)).below HB.out)
    have HS:=zH (flI_succ hlt)
    have HTOT:Hid ((flI G (k + 1)).length <= (gvs G).flatten.length):=zH (by
     rw [HFL.out _ (by omega)]
     obtain ⟨r',hr'⟩:=flK_pre (gs:=gvs G) (k:=k + 1)
     rw [hr',List.length_append];omega)
    clear hc0
    generalize G[k] = g at *
    obtain ⟨gA,gc,gl⟩:=g
    simp only at *
    have HSL:Hid ((flI G (k + 1)).length = N + gl.length):=zH (by rw [HS.out,List.length_append,HN.out])
    have hsz:w.heap.size <= wr.heap.size:=HB.out.size
    by_cases hbig : 10000 < N + gl.length
    ·have hz:r = 5:=by rw [<- HR0.out,if_pos (.inr (by have:=HTOT.out;rw [HSL.out] at this;omega))]
     subst hz
     clear HTOT HR0 hr
     go_wp2_with fail
     go_ret
     exact ⟨rfl,HB.out⟩
    ·clear HTOT
     go_wp2_with (at_builtin;refine wpList_append_srcG _ rfl (.tmp 24) (.tmp 28) _ rfl w.heap.size 40 i0 _ 1 24 Tryz.underlying22 TI.out TZ0.out TZ1.out TZ2.out rfl (by omega) (.slice B N b) N (lcs (flI G k)) rfl HO.out gA gl.length gc (lcs gl) rfl HNG.out HLL.out.lies (by simp) (by intro u hu;simp only [lcs,List.mem_map] at hu;obtain ⟨x,_,rfl⟩:=hu;rfl) (by unfold maxLen;omega) (by omega) hsz (N + gl.length) rfl ?_;intro A4 c4 w4 ho4 hg4 _)
     refine ⟨⟨k + 1,N + gl.length,by omega,by go_num,zH HSL.out.symm,by omega,A4,c4,rfl,zH ?_,zH (HB.out.grown hg4 hsz (fun k hk=>(HO.out.lt k (by simpa [Value.ownBlock] using hk)).1))⟩,by simp [intOf];omega⟩
     rw [HS.out,lcs,List.map_append];exact ho4
   ·obtain rfl:k = G.length:=by omega
    have HT:Hid ((gvs G).flatten.length = N):=zH (by rw [<- HALL.out,<- HFL.out _ (by omega),HN.out])
    have hR1:=HR0.out
    rw [HT.out,if_neg (by omega)] at hR1
    have HBAD:Hid (grpOk (gvs G) = false -> r = 2):=zH (fun hb=>by rw [<- hR1,if_neg (by rw [hb];decide)])
    have HGOOD:Hid (grpOk (gvs G) = true -> r = 0):=zH (fun hb=>by rw [<- hR1,if_pos hb])
    clear hR1 HR0 hr
    have hsz:w.heap.size <= wr.heap.size:=HB.out.size
    go_wp2_with fail
    go_loop [5] (fun i=>∃ k:Nat,k <= G.length /\ i = .int .i64 k /\ Hid (∀ g ∈ (gvs G).take k,g ≠ [])) (fun i=>G.length - (intOf i).toNat)
    case atStart=>exact ⟨0,by omega,rfl,zH (by simp)⟩
    case round=>
     obtain ⟨k,hk,rfl,HNE⟩:=hrel
     by_cases hlt:k < G.length
     ·obtain ⟨bk,off,rfl,hbk,hc0⟩:=H.out.lies.gat hlt
      have hc:wr.cell? ⟨bk,off + k,none⟩ = some (.slice G[k].1 G[k].2.2.length G[k].2.1):=(HB.out.cell (p:=⟨bk,off + k,none⟩) hbk).trans hc0
      have hgk:=hg.out _ (List.getElem_mem hlt)
      have hgk2:=HGK.out k hlt
      have HEMP:Hid (G[k].2.2.length = 0 -> r = 2):=zH (fun he=>HBAD.out (grp_empty (k:=k) (by rw [HGL.out];exact hlt) (by rw [hgk2];simpa using he)))
      have HNE2:Hid (G[k].2.2.length ≠ 0 -> ∀ g ∈ (gvs G).take (k + 1),g ≠ []):=zH (fun hne g hg'=>by
       rw [List.take_succ_eq_append_getElem (by rw [HGL.out];exact hlt),List.mem_append] at hg'
       rcases hg' with h' | h'
       ·exact HNE.out g h'
       ·rw [List.mem_singleton] at h'
        rw [h',hgk2]
        intro e
        exact hne (by simpa using e))
      clear hgk2 HNE hc0
      generalize G[k] = g at *
      obtain ⟨gA,gc,gl⟩:=g
      simp only at *
      by_cases h0:gl.length = 0
      ·have hz:=HEMP.out h0
       subst hz
       have q0:((gl.length:Int) == 0) = true:=by simp [h0]
       clear HEMP HNE2 h0 HBAD HGOOD
       go_wp2_with fail
       go_ret
       exact ⟨rfl,HB.out⟩
      ·have q0:((gl.length:Int) == 0) = false:=by rw [beq_eq_false_iff_ne];omega
       have HNE3:=zH (HNE2.out h0)
       clear HEMP HNE2
       go_wp2_with fail
       exact ⟨⟨k + 1,by omega,by go_num,HNE3⟩,by simp [intOf];omega⟩
     ·obtain rfl:k = G.length:=by omega
      have hAL:LL wr B (flI G G.length):=⟨Lies.of_own HO.out,fun x hx=>by
       obtain ⟨g,hg1,hg2⟩:=flI_mem hx
       exact ((H.out.grp g hg1).below HB.out).inn x hg2⟩
      have HC:=zH (rVecs_any B b (flI G G.length) wr hAL (by rw [<- HN.out];omega) (vecOk (gvs G).flatten) (zH (by rw [flI_vs G _ (by omega),HALL.out])))
      rw [<- HN.out] at HC
      have HE:Hid (grpOk (gvs G) = vecOk (gvs G).flatten):=zH (by
       have:((gvs G).all fun g=>!g.isEmpty) = true:=by
        rw [List.all_eq_true]
        intro g hg'
        have:=HNE.out g (by rw [List.take_of_length_le (by rw [HGL.out];omega)];exact hg')
        simpa using this
       unfold grpOk;rw [this,Bool.true_and])
      cases hv:vecOk (gvs G).flatten with
      | true=>
       rw [hv] at HC HE
       have hz:=HGOOD.out HE.out
       subst hz
       clear hv HE HBAD HGOOD HNE
       go_wp2_with fail
       refine HC.out.mono ?_
       rintro e w' ⟨rfl,m,rfl⟩
       go_wp2_with fail
       go_ret
       exact ⟨rfl,below_dN HB.out m⟩
      | false=>
       rw [hv] at HC HE
       have hz:=HBAD.out HE.out
       subst hz
       clear hv HE HBAD HGOOD HNE
       go_wp2_with fail
       refine HC.out.mono ?_
       rintro e w' ⟨rfl,m,rfl⟩
       go_wp2_with fail
       go_ret
       exact ⟨rfl,below_dN HB.out m⟩
theorem fq_mk {a b:Int} (hb : 0 < b):fq (decide (a < 0) != decide (b < 0)) a.natAbs b.natAbs = (a:Rat) * ((b:Int):Rat)⁻¹:=by
 have hb0:¬ b < 0:=by omega
 rw [decide_eq_false hb0,Bool.bne_false,fq_d (by omega)]
 have e1:sg (decide (a < 0)) a.natAbs = a:=by
  unfold sg
  by_cases h:a < 0
  ·rw [decide_eq_true h];simp;omega
  ·rw [decide_eq_false h];simp;omega
 rw [e1,Rat.mkRat_eq_div,Rat.div_def]
 have e2:((b.natAbs:Nat):Int) = b:=by omega
 congr 2
 rw [<- e2];rfl
theorem sz_mk {a b:Int} (h1 : -9223372036854775808 <= a) (h2:a <= 9223372036854775807) (h3 : 0 < b) (h4:b <= 9223372036854775807):Sz ((a:Rat) * ((b:Int):Rat)⁻¹) 2:=by
 rw [<- fq_mk h3]
 exact Sz.fq (by omega) (nd_len_le (by simp;omega)) (nd_len_le (by simp;omega))
theorem gM_sz {va vb:List (List Int)} (ha:∀ x ∈ va,allR (-1048576) 1048576 x = true) (hb:∀ x ∈ vb,allR (-1048576) 1048576 x = true) (h1 : 0 < va.length) (h2:va.length <= 10000) (h3 : 0 < vb.length) (h4:vb.length <= 10000) (c:Nat):Sz (gM va vb c) 5:=by
 have b1:=colS_bd ha c va.length
 have b2:=colS_bd hb c vb.length
 unfold gM
 refine (Sz.add (k:=2) (l:=2) (sz_mk (by omega) (by omega) (by omega) (by omega)) ?_)
 exact (sz_mk (by omega) (by omega) (by omega) (by omega)).neg
theorem gR_sz {va vb:List (List Int)} (ha:∀ x ∈ va,allR (-1048576) 1048576 x = true) (hb:∀ x ∈ vb,allR (-1048576) 1048576 x = true) (h1 : 0 < va.length) (h2:va.length <= 10000) (h3 : 0 < vb.length) (h4:vb.length <= 10000) (c:Nat):Sz (gR va vb c) (2 + 11 * c):=by
 induction c with
 | zero=>exact Sz.i64 (by omega) (by omega)
 | succ c ih=>
  have hm:=gM_sz ha hb h1 h2 h3 h4 c
  refine (Sz.add ih (hm.mul hm)).mono ?_
  omega

end Go.Proofs.YtcjicjfbippmnaaGreat
namespace Ear

def sumC (f:Nat -> Int):Nat -> Int
 | 0=>0
 | k + 1=>sumC f k + f k
theorem sumC_add (f g:Nat -> Int) (k:Nat):sumC (fun c=>f c + g c) k = sumC f k + sumC g k:=by
 induction k with
 | zero=>rfl
 | succ k ih=>simp only [sumC,ih];omega
def rowP (vs:List (List Int)) (i:Nat):Nat -> Int
 | 0=>0
 | j + 1=>rowP vs i j + dst (vs[i]?.getD []) (vs[j]?.getD [])
def spS (vs:List (List Int)):Nat -> Int
 | 0=>0
 | i + 1=>spS vs i + rowP vs i i
def spQ (vs:List (List Int)):Rat:=(spS vs vs.length:Rat) * ((vs.length:Int):Rat)⁻¹
def cX (vs:List (List Int)) (i c:Nat):Int:=(vs[i]?.getD [])[c]?.getD 0
def colQ (vs:List (List Int)) (c:Nat):Nat -> Int
 | 0=>0
 | t + 1=>colQ vs c t + cX vs t c * cX vs t c
def rowC (vs:List (List Int)) (i c:Nat):Nat -> Int
 | 0=>0
 | j + 1=>rowC vs i c j + (cX vs i c - cX vs j c) * (cX vs i c - cX vs j c)
def spC (vs:List (List Int)) (c:Nat):Nat -> Int
 | 0=>0
 | i + 1=>spC vs c i + rowC vs i c i
theorem colS_x (vs:List (List Int)) (c t:Nat):colS vs c (t + 1) = colS vs c t + cX vs t c:=rfl
theorem rowC_eq (vs:List (List Int)) (i c j:Nat):rowC vs i c j = (j:Int) * (cX vs i c * cX vs i c) - 2 * cX vs i c * colS vs c j + colQ vs c j:=by
 induction j with
 | zero=>simp [rowC,colS,colQ]
 | succ j ih=>
  simp only [rowC,ih,colS_x,colQ,Int.natCast_add,Int.natCast_one]
  grind
theorem spC_eq (vs:List (List Int)) (c i:Nat):spC vs c i = (i:Int) * colQ vs c i - colS vs c i * colS vs c i:=by
 induction i with
 | zero=>simp [spC,colS,colQ]
 | succ i ih=>
  simp only [spC,ih,rowC_eq,colS_x,colQ,Int.natCast_add,Int.natCast_one]
  grind
theorem dsK_sum (v u:List Int) (k:Nat):dsK v u k = sumC (fun c=>(v[c]?.getD 0 - u[c]?.getD 0) * (v[c]?.getD 0 - u[c]?.getD 0)) k:=by
 induction k with
 | zero=>rfl
 | succ k ih=>simp only [dsK,sumC,ih]
theorem sumC_zero (k:Nat):sumC (fun _=>0) k = 0:=by
 induction k with
 | zero=>rfl
 | succ k ih=>simp only [sumC,ih];rfl
theorem rowP_sum {vs:List (List Int)} {n:Nat} (h:∀ x ∈ vs,x.length = n) (i:Nat):∀ j,j <= vs.length -> rowP vs i j = sumC (fun c=>rowC vs i c j) n:=by
 intro j
 induction j with
 | zero=>intro _;exact (sumC_zero n).symm
 | succ j ih=>
  intro hj
  have e:(vs[j]?.getD []).length = n:=by rw [List.getElem?_eq_getElem (by omega),Option.getD_some];exact h _ (List.getElem_mem _)
  simp only [rowP,rowC]
  rw [sumC_add,ih (by omega),dst,e,dsK_sum];rfl
theorem spS_sum {vs:List (List Int)} {n:Nat} (h:∀ x ∈ vs,x.length = n):∀ i,i <= vs.length -> spS vs i = sumC (fun c=>spC vs c i) n:=by
 intro i
 induction i with
 | zero=>intro _;exact (sumC_zero n).symm
 | succ i ih=>
  intro hi
  simp only [spS,spC]
  rw [sumC_add,ih (by omega),rowP_sum h i i (by omega)]
theorem cX_left {a b:List (List Int)} {t c:Nat} (h:t < a.length):cX (a ++ b) t c = cX a t c:=by unfold cX;rw [List.getElem?_append_left h]
theorem cX_right {a b:List (List Int)} {t c:Nat}:cX (a ++ b) (a.length + t) c = cX b t c:=by
 unfold cX;rw [List.getElem?_append_right (Nat.le_add_right _ _),Nat.add_sub_cancel_left]
theorem col_left {a b:List (List Int)} {c:Nat}:∀ t,t <= a.length -> colS (a ++ b) c t = colS a c t /\ colQ (a ++ b) c t = colQ a c t:=by
 intro t
 induction t with
 | zero=>intro _;exact ⟨rfl,rfl⟩
 | succ t ih=>
  intro h
  obtain ⟨h1,h2⟩:=ih (by omega)
  rw [colS_x,colS_x,h1,colQ,colQ,h2,cX_left (by omega)]
  exact ⟨rfl,rfl⟩
theorem col_right {a b:List (List Int)} {c:Nat}:∀ t,colS (a ++ b) c (a.length + t) = colS a c a.length + colS b c t /\ colQ (a ++ b) c (a.length + t) = colQ a c a.length + colQ b c t:=by
 intro t
 induction t with
 | zero=>
  obtain ⟨h1,h2⟩:=col_left (a:=a) (b:=b) (c:=c) a.length (Nat.le_refl _)
  rw [Nat.add_zero,h1,h2]
  exact ⟨by simp [colS],by simp [colQ]⟩
 | succ t ih=>
  obtain ⟨h1,h2⟩:=ih
  rw [<- Nat.add_assoc,colS_x,colS_x,h1,colQ,colQ,h2,cX_right]
  omega
theorem spr_int (a b:List (List Int)) (k:Nat):(b.length:Int) * ((a.length:Int) + b.length) * sumC (fun c=>spC a c a.length) k + (a.length:Int) * ((a.length:Int) + b.length) * sumC (fun c=>spC b c b.length) k + gI a b k
  = (a.length:Int) * b.length * sumC (fun c=>spC (a ++ b) c (a.length + b.length)) k:=by
 induction k with
 | zero=>simp [sumC,gI]
 | succ k ih=>
  simp only [sumC,gI]
  have e:(a.length:Int) * b.length * (sumC (fun c=>spC (a ++ b) c (a.length + b.length)) k + spC (a ++ b) k (a.length + b.length)) = (a.length:Int) * b.length * sumC (fun c=>spC (a ++ b) c (a.length + b.length)) k + (a.length:Int) * b.length * spC (a ++ b) k (a.length + b.length):=Int.mul_add ..
  rw [e,<- ih]
  obtain ⟨h1,h2⟩:=col_right (a:=a) (b:=b) (c:=k) b.length
  rw [spC_eq (a ++ b),h1,h2,spC_eq a,spC_eq b,gD,Int.natCast_add]
  generalize (a.length:Int) = n,(b.length:Int) = m
  generalize sumC (fun c=>spC a c a.length) k = s1
  generalize sumC (fun c=>spC b c b.length) k = s2,colS a k a.length = x,colS b k b.length = y,colQ a k a.length = p,colQ b k b.length = q
  grind
theorem spQ_join {a b:List (List Int)} (ha : 0 < a.length) (hb : 0 < b.length) (h1:∀ x ∈ a,x.length = len0 a) (h2:∀ x ∈ b,x.length = len0 a):spQ a + spQ b + gapQ a b = spQ (a ++ b):=by
 have hi:=spr_int a b (len0 a)
 rw [<- spS_sum h1 _ (Nat.le_refl _),<- spS_sum h2 _ (Nat.le_refl _),<- spS_sum (vs:=a ++ b) (fun x hx=>by rcases List.mem_append.1 hx with h | h;exact h1 x h;exact h2 x h) _ (by simp)] at hi
 unfold spQ gapQ
 rw [List.length_append]
 have hq:=congrArg (fun z:Int=>(z:Rat)) hi
 simp only [Rat.intCast_add,Rat.intCast_mul] at hq
 have e1:(((a.length + b.length:Nat):Int):Rat) = ((a.length:Int):Rat) + ((b.length:Int):Rat):=by simp
 have e2:(((a.length * b.length * (a.length + b.length):Nat):Int):Rat) = ((a.length:Int):Rat) * ((b.length:Int):Rat) * (((a.length:Int):Rat) + ((b.length:Int):Rat)):=by simp
 have n0:((a.length:Int):Rat) ≠ 0:=by
  have:(a.length:Int) ≠ 0:=by omega
  exact_mod_cast this
 have m0:((b.length:Int):Rat) ≠ 0:=by
  have:(b.length:Int) ≠ 0:=by omega
  exact_mod_cast this
 have s0:((a.length:Int):Rat) + ((b.length:Int):Rat) ≠ 0:=by
  rw [<- e1]
  have:((a.length + b.length:Nat):Int) ≠ 0:=by omega
  exact_mod_cast this
 rw [e1,e2]
 generalize ((a.length:Int):Rat) = n at *
 generalize ((b.length:Int):Rat) = m at *
 generalize ((spS a a.length:Int):Rat) = x at *
 generalize ((spS b b.length:Int):Rat) = y at *
 generalize ((gI a b (len0 a):Int):Rat) = g at *
 generalize ((spS (a ++ b) (a.length + b.length):Int):Rat) = z at *
 clear hi e1 e2 h1 h2 ha hb
 grind
end Ear
