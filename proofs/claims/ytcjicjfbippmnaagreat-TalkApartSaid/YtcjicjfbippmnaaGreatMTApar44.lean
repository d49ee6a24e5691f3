/- a part of TalkApart -/
import Derived.Test.YtcjicjfbippmnaaGreatMTApar3
import Derived.Test.YtcjicjfbippmnaaGreatMTApar1
import Derived.Test.YtcjicjfbippmnaaGreatMTApar2
import Derived.Test.YtcjicjfbippmnaaGreatMTApar40
import Derived.Test.YtcjicjfbippmnaaGreatMTApar0
set_option maxRecDepth 100000
set_option maxHeartbeats 32000000
namespace Go.Proofs.YtcjicjfbippmnaaGreat
open Go.RowKit Ear

def few1 (v:List Int):Bool:=decide (v.length <= 70)
def few2 (g:List (List Int)):Bool:=decide (g.length <= 8) && g.all few1
def few3 (n m:Nat):Bool:=!((decide (m < n) && decide (n <= 60)) || decide (100 < n))
def fewG (m:Nat) (gs:List (List (List Int))):Bool:=few3 gs.length m && gs.all few2
theorem fall_at {α:Type} {p : α -> Bool} {l:List α} {k:Nat} (hk:k < l.length) (h:p l[k] = false):l.all p = false:=by
 rw [List.all_eq_false];exact ⟨_,List.getElem_mem hk,by rw [h];decide⟩
theorem fall_succ {α:Type} {p : α -> Bool} {l:List α} {k:Nat} (hk:k < l.length) (h:(l.take k).all p = true) (h2:p l[k] = true):(l.take (k + 1)).all p = true:=by
 rw [List.take_succ_eq_append_getElem hk,List.all_append,h];simp [h2]

theorem few10_any (A:Option Addr) (c m:Nat) (G:List Grp) (w:World) (h:GG w A G) (hn:G.length <= 9223372036854775807) (hm:m <= 1000) (hg:Hid (∀ g ∈ G,g.2.2.length <= 9223372036854775807)) (r:Bool) (hr:Hid (fewG m (gvs G) = r)) :
  Calls Tryz.prog 13 #[.slice A G.length c,.int .i64 m] w fun e w'=>e = .returned (.bool r) /\ w = w':=by
 have HGL:Hid ((gvs G).length = G.length):=zH (by simp)
 have HGK:Hid (∀ k (hk:k < G.length),(gvs G)[k]'(by rw [HGL.out];exact hk) = vsOf G[k].2.2):=zH (fun k hk=>by simp)
 have H:=zH h
 clear h
 have hb:=hr.out
 unfold fewG at hb
 rw [HGL.out] at hb
 by_cases h3:few3 G.length m = true
 ·rw [h3,Bool.true_and] at hb
  have HB:=zH hb
  clear hb hr
  have h4:(¬ m < G.length ∨ 60 < G.length) /\ ¬ 100 < G.length:=by
   simp only [few3,Bool.not_eq_true',Bool.or_eq_false_iff,Bool.and_eq_false_iff,decide_eq_false_iff_not] at h3
   exact ⟨h3.1.imp id (by omega),h3.2⟩
  obtain ⟨h4,h5⟩:=h4
  clear h3
  go_enter Tryz.func13,Tryz.ntmps13
  rcases (show (G.length <= m) ∨ (m < G.length /\ 60 < G.length) by omega) with h6 | ⟨h6,h7⟩
  all_goals
   clear h4
   go_wp2_with fail
   go_loop [5] (fun i=>∃ k:Nat,k <= G.length /\ i = .int .i64 k /\ Hid (((gvs G).take k).all few2 = true)) (fun i=>G.length - (intOf i).toNat)
   case atStart=>exact ⟨0,by omega,rfl,zH rfl⟩
   case round=>
    obtain ⟨k,hk,rfl,HP⟩:=hrel
    by_cases hlt:k < G.length
    ·obtain ⟨bk,off,rfl,hbk,hc⟩:=H.out.lies.gat hlt
     have hgk:=hg.out _ (List.getElem_mem hlt)
     have HLL:=zH (H.out.grp _ (List.getElem_mem hlt))
     have HFB:Hid (few2 (vsOf G[k].2.2) = false -> r = false):=zH (fun hf=>by rw [<- HB.out];exact fall_at (k:=k) (by rw [HGL.out];exact hlt) (by rw [HGK.out k hlt];exact hf))
     have HFG:Hid (few2 (vsOf G[k].2.2) = true -> ((gvs G).take (k + 1)).all few2 = true):=zH (fun hf=>fall_succ (by rw [HGL.out];exact hlt) HP.out (by rw [HGK.out k hlt];exact hf))
     clear HP
     generalize G[k] = g at *
     obtain ⟨gA,gc,gl⟩:=g
     simp only at *
     have HVL:Hid ((vsOf gl).length = gl.length):=zH (by simp)
     by_cases h8:gl.length <= 8
     ·go_wp2_with fail
      go_loop [6] (fun i=>∃ j:Nat,j <= gl.length /\ i = .int .i64 j /\ Hid (((vsOf gl).take j).all few1 = true)) (fun i=>gl.length - (intOf i).toNat)
      case atStart=>exact ⟨0,by omega,rfl,zH rfl⟩
      case round=>
       obtain ⟨j,hj,rfl,HP⟩:=hrel
       by_cases hjl:j < gl.length
       ·obtain ⟨bx,ox,rfl,hbx,hcx⟩:=HLL.out.lies.lat hjl
        have hget:(vsOf gl)[j]'(by rw [HVL.out];exact hjl) = gl[j].2.2:=by simp
        by_cases h70:gl[j].2.2.length <= 70
        ·have HY:=zH (fall_succ (by rw [HVL.out];exact hjl) HP.out (p:=few1) (by rw [hget];simpa [few1] using h70))
         clear HFB HFG hget HP
         generalize gl[j] = X at *
         obtain ⟨XA,Xc,xl⟩:=X
         simp only at *
         go_wp2_with fail
         exact ⟨⟨j + 1,by omega,by go_num,HY⟩,by simp [intOf];omega⟩
        ·have hz:r = false:=HFB.out (by
          unfold few2
          rw [fall_at (k:=j) (p:=few1) (by rw [HVL.out];exact hjl) (by rw [hget];simpa [few1] using h70),Bool.and_false])
         subst hz
         clear HFB HFG hget HP HB
         generalize gl[j] = X at *
         obtain ⟨XA,Xc,xl⟩:=X
         simp only at *
         go_wp2_with fail
         go_ret
         exact ⟨rfl,rfl⟩
       ·obtain rfl:j = gl.length:=by omega
        have HY:=zH (HFG.out (by
         unfold few2
         rw [Bool.and_eq_true]
         refine ⟨by rw [HVL.out];simpa using h8,?_⟩
         rw [<- List.take_of_length_le (l:=vsOf gl) (i:=gl.length) (by rw [HVL.out];omega)]
         exact HP.out))
        clear HFB HFG HP
        go_wp2_with fail
        exact ⟨⟨k + 1,by omega,by go_num,HY⟩,by simp [intOf];omega⟩
     ·have hz:r = false:=HFB.out (by unfold few2;rw [HVL.out,decide_eq_false h8,Bool.false_and])
      subst hz
      clear HFB HFG HB
      go_wp2_with fail
      go_ret
      exact ⟨rfl,rfl⟩
    ·obtain rfl:k = G.length:=by omega
     have hz:r = true:=by
      rw [<- HB.out,<- List.take_of_length_le (l:=gvs G) (i:=G.length) (by rw [HGL.out];omega)]
      exact HP.out
     subst hz
     clear HB HP
     go_wp2_with fail
     go_ret
     exact ⟨rfl,rfl⟩
 ·have h3':few3 G.length m = false:=by simpa using h3
  rw [h3',Bool.false_and] at hb
  subst hb
  clear hr h3
  have h4:(m < G.length /\ G.length <= 60) ∨ 100 < G.length:=by
   simp only [few3,Bool.not_eq_false',Bool.or_eq_true,Bool.and_eq_true,decide_eq_true_eq] at h3'
   exact h3'
  clear h3'
  rcases (show (m < G.length /\ G.length <= 60) ∨ (m < G.length /\ 60 < G.length /\ 100 < G.length) ∨ (G.length <= m /\ 100 < G.length) by omega) with ⟨h5,h6⟩ | ⟨h5,h6,h7⟩ | ⟨h5,h6⟩
  all_goals
   clear h4
   go_enter Tryz.func13,Tryz.ntmps13
   go_wp2_with fail
   go_ret
   exact ⟨rfl,rfl⟩
theorem All_quietG (A:Option Addr) (c:Nat) (l:List Int) (lo hi:Int) (w:World) (h:Lies w A (ics l)) (hn:l.length <= 9223372036854775807) (b:Bool) (hb':Hid (allR lo hi l = b)) (m:Nat) :
  Calls Tryz.prog 118 #[.slice A l.length c,.int .i64 lo,.int .i64 hi] (w.drewN m) fun e w'=>e = .returned (.bool b) /\ w' = w.drewN m:=
 (All_any A c l lo hi (w.drewN m) (h.drewN m) hn b hb').mono fun _ _ ⟨h1,h2⟩=>⟨h1,h2.symm⟩

theorem rVecs_any (A:Option Addr) (c:Nat) (L:List Inn) (w:World) (hA:LL w A L) (hn:L.length <= 9223372036854775807) (r:Bool) (hr:Hid (vecOk (vsOf L) = r)) :
  Calls Tryz.prog 57 #[.slice A L.length c] w (RetBool r w):=by
 have HVL:Hid ((vsOf L).length = L.length):=zH (by simp)
 go_enter Tryz.func57,Tryz.ntmps57
 go_wp2_with fail
 go_loopw [3] (fun i wr=>∃ k:Nat,k <= L.length /\ i = .int .i64 k /\ Hid (((vsOf L).take k).all (okV (len0 (vsOf L))) = true) /\ ∃ n,wr = w.drewN n) (fun i _=>L.length - (intOf i).toNat)
 case atStart=>exact ⟨0,by omega,rfl,rfl,0,rfl⟩
 case round=>
  obtain ⟨k,hk,rfl,hp,n,rfl⟩:=hrel
  by_cases hlt:k < L.length
  ·obtain ⟨bk,off,rfl,hbk,hc⟩:=(show Lies (w.drewN n) A (lcs L) from hA.lies).lat hlt
   obtain ⟨b0,o0,eA,hb0,hc0⟩:=(show Lies (w.drewN n) _ (lcs L) from hA.lies).lat (k:=0) (by omega)
   cases eA
   rw [Nat.add_zero] at hc0
   have hx:InOk (w.drewN n) L[k]:=hA.inn _ (List.getElem_mem hlt)
   have hL0:=len0_at (L:=L) (by omega)
   have hget:(vsOf L)[k]'(by rw [HVL.out];exact hlt) = L[k].2.2:=by simp
   have hno:okV L[0].2.2.length L[k].2.2 = false -> r = false:=fun hf=>by
    rw [<- hr.out]
    exact vall_false_at (L:=vsOf L) (k:=k) (by rw [HVL.out];exact hlt) (by rw [hget,hL0];exact hf)
   have hyes:okV L[0].2.2.length L[k].2.2 = true -> Hid (((vsOf L).take (k + 1)).all (okV (len0 (vsOf L))) = true):=fun ht=>
    zH <| vall_take_succ (L:=vsOf L) (k:=k) (by rw [HVL.out];exact hlt) hp.out (by rw [hget,hL0];exact ht)
   have HNO:=zH hno
   have HYES:=zH hyes
   clear hno hyes hget hL0 hp
   obtain ⟨hxl,_,hxn,_,_⟩:=hx
   generalize L[0] = X0 at *
   generalize L[k] = X at *
   obtain ⟨XA,Xc,xl⟩:=X
   obtain ⟨YA,Yc,yl⟩:=X0
   simp only at *
   generalize hwd:w.drewN n = wd at *
   have WD:=zH hwd
   clear hwd
   by_cases c2:xl.length < 1
   ·have hz:=HNO.out (by rw [Bool.eq_false_iff];intro ht;have:=(okV_iff.1 ht).2.1;omega)
    subst hz
    have d1:decide ((xl.length:Int) < 1) = true:=by simp;omega
    clear HYES HNO hr
    go_wp2_with fail
    go_quiet (fail)
    go_wp2_with fail
    go_ret
    exact ⟨rfl,by rw [<- WD.out];exact drewN_ex _ _ _⟩
   ·have d1:decide ((xl.length:Int) < 1) = false:=by simp;omega
    by_cases c3 : 64 < xl.length
    ·have hz:=HNO.out (by rw [Bool.eq_false_iff];intro ht;have:=(okV_iff.1 ht).2.2.1;omega)
     subst hz
     have d2:decide ((64:Int) < (xl.length:Int)) = true:=by simp;omega
     clear HYES HNO hr
     go_wp2_with fail
     go_quiet (fail)
     go_wp2_with fail
     go_ret
     exact ⟨rfl,by rw [<- WD.out];exact drewN_ex _ _ _⟩
    ·have d2:decide ((64:Int) < (xl.length:Int)) = false:=by simp;omega
     by_cases c1:xl.length = yl.length
     ·have q1:((xl.length:Int) != (yl.length:Int)) = false:=by simp [c1]
      cases c4:allR (-1048576) 1048576 xl with
      | true=>
       have H4:=zH c4
       have HY:=HYES.out (okV_iff.2 ⟨c1,by omega,by omega,c4⟩)
       have HQ:=zH (All_quietG XA Xc xl (-1048576) 1048576 wd hxl (by omega) true H4)
       clear c4 HYES HNO c1
       go_wp2_with fail
       go_quiet ((go_at_call 118;exact Calls.quiet_of_same (HQ.out _)))
       go_wp2_with fail
       exact ⟨⟨k + 1,by omega,by go_num,HY,by rw [<- WD.out];exact drewN_ex _ _ _⟩,by simp [intOf];omega⟩
      | false=>
       have H4:=zH c4
       have hz:=HNO.out (by rw [Bool.eq_false_iff];intro ht;have:=(okV_iff.1 ht).2.2.2;rw [c4] at this;cases this)
       subst hz
       have HQ:=zH (All_quietG XA Xc xl (-1048576) 1048576 wd hxl (by omega) false H4)
       clear c4 HYES HNO c1 hr
       go_wp2_with fail
       go_quiet ((go_at_call 118;exact Calls.quiet_of_same (HQ.out _)))
       go_wp2_with fail
       go_ret
       exact ⟨rfl,by rw [<- WD.out];exact drewN_ex _ _ _⟩
     ·have hz:=HNO.out (by rw [Bool.eq_false_iff];intro ht;exact c1 (okV_iff.1 ht).1)
      subst hz
      have q1:((xl.length:Int) != (yl.length:Int)) = true:=by simp;omega
      clear HYES HNO c1 hr
      go_wp2_with fail
      go_quiet (fail)
      go_wp2_with fail
      go_ret
      exact ⟨rfl,by rw [<- WD.out];exact drewN_ex _ _ _⟩
  ·have hz:r = true:=by
    have:=hp.out
    rw [List.take_of_length_le (by rw [HVL.out];omega)] at this
    rw [<- hr.out]
    exact this
   subst hz
   clear hr
   go_wp2_with fail
   go_ret
   exact ⟨rfl,n,rfl⟩
def flI (G:List Grp) (k:Nat):List Inn:=((G.take k).map (·.2.2)).flatten
theorem below_dN {B:Nat} {a w:World} (h:Below B a w) (n:Nat):Below B a (w.drewN n):=⟨h.os,h.tape,h.output,h.size,h.block⟩
theorem flI_zero (G:List Grp):flI G 0 = []:=by simp [flI]
theorem flI_succ {G:List Grp} {k:Nat} (hk:k < G.length):flI G (k + 1) = flI G k ++ G[k].2.2:=by
 unfold flI
 rw [List.take_succ_eq_append_getElem hk,List.map_append,List.flatten_append];simp only [List.map_cons,List.map_nil,List.flatten_cons,List.flatten_nil,List.append_nil]
theorem flI_vs (G:List Grp):∀ k,k <= G.length -> vsOf (flI G k) = flK (gvs G) k:=by
 intro k
 induction k with
 | zero=>intro _;rw [flI_zero,flK_zero];rfl
 | succ k ih=>
  intro hk
  rw [flI_succ hk,flK_succ (by simp;omega),vsOf,List.map_append,<- vsOf,ih (by omega)]
  simp
theorem flI_mem {G:List Grp} {k:Nat} {x:Inn} (h:x ∈ flI G k):∃ g ∈ G,x ∈ g.2.2:=by
 unfold flI at h
 simp only [List.mem_flatten,List.mem_map] at h
 obtain ⟨l,⟨g,hg,rfl⟩,hx⟩:=h
 exact ⟨g,List.mem_of_mem_take hg,hx⟩

theorem rGroups_any (A:Option Addr) (c:Nat) (G:List Grp) (w:World) (h:GG w A G) (hn:G.length <= 1000) (hg:Hid (∀ g ∈ G,g.2.2.length <= 10000)) (hnil:Hid (∀ g ∈ G,g.1 = none -> g.2.1 = 0)) (r:Int) (hr:Hid (grpR (gvs G) = r)) :
  Calls Tryz.prog 16 #[.slice A G.length c] w (RetIB r w):=by
 obtain ⟨i0,hi0,hz0,hz1,hz2⟩:=info_parts info_ints
 have TI:=zH hi0;have TZ0:=zH hz0;have TZ1:=zH hz1;have TZ2:=zH hz2
 clear hi0 hz0 hz1 hz2
 have HGL:Hid ((gvs G).length = G.length):=zH (by simp)
 have HFL:Hid (∀ k,k <= G.length -> (flI G k).length = (flK (gvs G) k).length):=zH (fun k hk=>by rw [<- flI_vs G k hk];simp)
 have HGK:Hid (∀ k (hk:k < G.length),(gvs G)[k]'(by rw [HGL.out];exact hk) = vsOf G[k].2.2):=zH (fun k hk=>by simp)
 have HALL:Hid (flK (gvs G) G.length = (gvs G).flatten):=zH (flK_all (by rw [HGL.out];omega))
 have H:=zH h
 clear h
 have hr0:=hr.out
 unfold grpR at hr0
 rw [HGL.out] at hr0
 by_cases hlong : 60 < G.length
 ·rw [if_pos (.inl hlong)] at hr0
  subst hr0
  clear hr
  go_enter Tryz.func16,Tryz.ntmps16
  go_wp2_with fail
  go_ret
  exact ⟨rfl,Below.refl _ _⟩
 ·have HR0:=zH hr0
  clear hr0
  go_enter Tryz.func16,Tryz.ntmps16
  go_wp2_with fail
  go_loopw [3,4] (fun v i wr=>∃ k N:Nat,k <= G.length /\ i = .int .i64 k /\ Hid (N = (flI G k).length) /\ N <= 10000 /\ ∃ B b,v = .slice B N b /\ Hid (wr.ownsRow w.heap.size 40 1 (.slice B N b) N (lcs (flI G k))) /\ Hid (Below w.heap.size w wr)) (fun _ i _=>G.length - (intOf i).toNat)
  case atStart=>exact ⟨0,0,by omega,rfl,zH (by rw [flI_zero];rfl),by omega,none,0,rfl,zH (World.ownsRow_nil _ _ _ _),zH (Below.refl _ _)⟩
  case round=>
   obtain ⟨k,N,hk,rfl,HN,hN,B,b,rfl,HO,HB⟩:=hrel
   by_cases hlt:k < G.length
   ·obtain ⟨bk,off,rfl,hbk,hc0⟩:=H.out.lies.gat hlt
    have hc:wr.cell? ⟨bk,off + k,none⟩ = some (.slice G[k].1 G[k].2.2.length G[k].2.1):=(HB.out.cell (p:=⟨bk,off + k,none⟩) hbk).trans hc0
    have hgk:=hg.out _ (List.getElem_mem hlt)
    have HNG:=zH (hnil.out _ (List.getElem_mem hlt))
    have HLL:=zH ((H.out.grp _ (List.getElem_mem hlt)).below HB.out)
    have HS:=zH (flI_succ hlt)
    have HTOT:Hid ((flI G (k + 1)).length <= (gvs G).flatten.length):=zH (by
     rw [HFL.out _ (by omega)]
     obtain ⟨r',hr'⟩:=flK_pre (gs:=gvs G) (k:=k + 1)
     rw [hr',List.length_append];omega)
    clear hc0
    generalize G[k] = g at *
    obtain ⟨gA,gc,gl⟩:=g
    simp only at *
    have HSL:Hid ((flI G (k + 1)).length = N + gl.length):=zH (by rw [HS.out,List.length_append,HN.out])
    have hsz:w.heap.size <= wr.heap.size:=HB.out.size
    by_cases hbig : 10000 < N + gl.length
    ·have hz:r = 5:=by rw [<- HR0.out,if_pos (.inr (by have:=HTOT.out;rw [HSL.out] at this;omega))]
     subst hz
     clear HTOT HR0 hr
     go_wp2_with fail
     go_ret
     exact ⟨rfl,HB.out⟩
    ·clear HTOT
     go_wp2_with (at_builtin;refine wpList_append_srcG _ rfl (.tmp 24) (.tmp 28) _ rfl w.heap.size 40 i0 _ 1 24 Tryz.underlying22 TI.out TZ0.out TZ1.out TZ2.out rfl (by omega) (.slice B N b) N (lcs (flI G k)) rfl HO.out gA gl.length gc (lcs gl) rfl HNG.out HLL.out.lies (by simp) (by intro u hu;simp only [lcs,List.mem_map] at hu;obtain ⟨x,_,rfl⟩:=hu;rfl) (by unfold maxLen;omega) (by omega) hsz (N + gl.length) rfl ?_;intro A4 c4 w4 ho4 hg4 _)
     refine ⟨⟨k + 1,N + gl.length,by omega,by go_num,zH HSL.out.symm,by omega,A4,c4,rfl,zH ?_,zH (HB.out.grown hg4 hsz (fun k hk=>(HO.out.lt k (by simpa [Value.ownBlock] using hk)).1))⟩,by simp [intOf];omega⟩
     rw [HS.out,lcs,List.map_append];exact ho4
   ·obtain rfl:k = G.length:=by omega
    have HT:Hid ((gvs G).flatten.length = N):=zH (by rw [<- HALL.out,<- HFL.out _ (by omega),HN.out])
    have hR1:=HR0.out
    rw [HT.out,if_neg (by omega)] at hR1
    have HBAD:Hid (grpOk (gvs G) = false -> r = 2):=zH (fun hb=>by rw [<- hR1,if_neg (by rw [hb];decide)])
    have HGOOD:Hid (grpOk (gvs G) = true -> r = 0):=zH (fun hb=>by rw [<- hR1,if_pos hb])
    clear hR1 HR0 hr
    have hsz:w.heap.size <= wr.heap.size:=HB.out.size
    go_wp2_with fail
    go_loop [5] (fun i=>∃ k:Nat,k <= G.length /\ i = .int .i64 k /\ Hid (∀ g ∈ (gvs G).take k,g ≠ [])) (fun i=>G.length - (intOf i).toNat)
    case atStart=>exact ⟨0,by omega,rfl,zH (by simp)⟩
    case round=>
     obtain ⟨k,hk,rfl,HNE⟩:=hrel
     by_cases hlt:k < G.length
     ·obtain ⟨bk,off,rfl,hbk,hc0⟩:=H.out.lies.gat hlt
      have hc:wr.cell? ⟨bk,off + k,none⟩ = some (.slice G[k].1 G[k].2.2.length G[k].2.1):=(HB.out.cell (p:=⟨bk,off + k,none⟩) hbk).trans hc0
      have hgk:=hg.out _ (List.getElem_mem hlt)
      have hgk2:=HGK.out k hlt
      have HEMP:Hid (G[k].2.2.length = 0 -> r = 2):=zH (fun he=>HBAD.out (grp_empty (k:=k) (by rw [HGL.out];exact hlt) (by rw [hgk2];simpa using he)))
      have HNE2:Hid (G[k].2.2.length ≠ 0 -> ∀ g ∈ (gvs G).take (k + 1),g ≠ []):=zH (fun hne g hg'=>by
       rw [List.take_succ_eq_append_getElem (by rw [HGL.out];exact hlt),List.mem_append] at hg'
       rcases hg' with h' | h'
       ·exact HNE.out g h'
       ·rw [List.mem_singleton] at h'
        rw [h',hgk2]
        intro e
        exact hne (by simpa using e))
      clear hgk2 HNE hc0
      generalize G[k] = g at *
      obtain ⟨gA,gc,gl⟩:=g
      simp only at *
      by_cases h0:gl.length = 0
      ·have hz:=HEMP.out h0
       subst hz
       have q0:((gl.length:Int) == 0) = true:=by simp [h0]
       clear HEMP HNE2 h0 HBAD HGOOD
       go_wp2_with fail
       go_ret
       exact ⟨rfl,HB.out⟩
      ·have q0:((gl.length:Int) == 0) = false:=by rw [beq_eq_false_iff_ne];omega
       have HNE3:=zH (HNE2.out h0)
       clear HEMP HNE2
       go_wp2_with fail
       exact ⟨⟨k + 1,by omega,by go_num,HNE3⟩,by simp [intOf];omega⟩
     ·obtain rfl:k = G.length:=by omega
      have hAL:LL wr B (flI G G.length):=⟨Lies.of_own HO.out,fun x hx=>by
       obtain ⟨g,hg1,hg2⟩:=flI_mem hx
       exact ((H.out.grp g hg1).below HB.out).inn x hg2⟩
      have HC:=zH (rVecs_any B b (flI G G.length) wr hAL (by rw [<- HN.out];omega) (vecOk (gvs G).flatten) (zH (by rw [flI_vs G _ (by omega),HALL.out])))
      rw [<- HN.out] at HC
      have HE:Hid (grpOk (gvs G) = vecOk (gvs G).flatten):=zH (by
       have:((gvs G).all fun g=>!g.isEmpty) = true:=by
        rw [List.all_eq_true]
        intro g hg'
        have:=HNE.out g (by rw [List.take_of_length_le (by rw [HGL.out];omega)];exact hg')
        simpa using this
       unfold grpOk;rw [this,Bool.true_and])
      cases hv:vecOk (gvs G).flatten with
      | true=>
       rw [hv] at HC HE
       have hz:=HGOOD.out HE.out
       subst hz
       clear hv HE HBAD HGOOD HNE
       go_wp2_with fail
       refine HC.out.mono ?_
       rintro e w' ⟨rfl,m,rfl⟩
       go_wp2_with fail
       go_ret
       exact ⟨rfl,below_dN HB.out m⟩
      | false=>
       rw [hv] at HC HE
       have hz:=HBAD.out HE.out
       subst hz
       clear hv HE HBAD HGOOD HNE
       go_wp2_with fail
       refine HC.out.mono ?_
       rintro e w' ⟨rfl,m,rfl⟩
       go_wp2_with fail
       go_ret
       exact ⟨rfl,below_dN HB.out m⟩
theorem fq_nz (a:Bool) (n d:Nat):∃ d',d' ≠ 0 /\ fq a n d = fq a n d':=by
 by_cases h:d = 0
 ·subst h;exact ⟨1,by decide,by unfold fq;rw [if_pos rfl,if_neg (by decide)]⟩
 ·exact ⟨d,h,rfl⟩
theorem rqSignG_any (x:Fr) (p:Rat) (w:World) (hx:Fv w x p) (hN:x.N.length <= 9223372036854775807) (r:Int) (hr:Hid (qsgn p = r)):Calls Tryz.prog 24 #[x.val] w fun e w'=>e = .returned (.int .i64 r) /\ Below w.heap.size w w':=by
 obtain ⟨n,hn⟩:∃ n,n = (vl x.N).toNat:=⟨_,rfl⟩
 obtain ⟨d',d0,hd⟩:=fq_nz x.neg n (vl x.D).toNat
 have hp:p = fq x.neg n d':=by rw [<- hd,hn];exact hx.val.symm
 have HR:Hid (r = if n = 0 then 0 else if x.neg then -1 else 1):=zH (by rw [<- hr.out,hp,fq_sgn d0])
 have HT:=zH (trim_any x.A x.c x.N (w.alloc (.cells #[.bool x.neg,.slice x.A x.N.length x.c,.slice x.B x.D.length x.d] 28)) (hx.n.below ((Below.refl _ _).alloc (Nat.le_refl _) _)).lies (zH hx.n.dig) hx.n.cap hN n (zH (by rw [hn,Int.toNat_of_nonneg (vl_nonneg hx.n.dig)])))
 obtain ⟨xn,xA,xc,xN,xB,xd,xD⟩:=x
 simp only at HR HT
 clear hx hp hr hd d0 hn hN
 by_cases h0:n = 0
 ·have hl:(nd n).length = 0:=by rw [h0,nd_zero];rfl
  have HR1:Hid (r = 0):=zH (by rw [HR.out,if_pos h0])
  rw [hl] at HT
  clear HR hl h0
  go_enter Tryz.func24,Tryz.ntmps24
  go_wp2_with fail
  refine HT.out.mono ?_
  rintro e w' ⟨rfl,rfl⟩
  go_wp2_with fail
  go_ret
  exact ⟨ret_int (by rw [HR1.out]),(Below.refl _ _).alloc (Nat.le_refl _) _⟩
 ·have hl:(nd n).length ≠ 0:=fun e=>h0 (nd_len_zero.1 e)
  have hq:(((nd n).length:Int) == 0) = false:=beq_eq_false_iff_ne.2 (by omega)
  cases xn with
  | true=>
   have HR1:Hid (r = -1):=zH (by rw [HR.out,if_neg h0];rfl)
   clear HR hl h0
   go_enter Tryz.func24,Tryz.ntmps24
   go_wp2_with fail
   refine HT.out.mono ?_
   rintro e w' ⟨rfl,rfl⟩
   go_wp2_with fail
   go_ret
   exact ⟨ret_int (by rw [HR1.out]),(Below.refl _ _).alloc (Nat.le_refl _) _⟩
  | false=>
   have HR1:Hid (r = 1):=zH (by rw [HR.out,if_neg h0];rfl)
   clear HR hl h0
   go_enter Tryz.func24,Tryz.ntmps24
   go_wp2_with fail
   refine HT.out.mono ?_
   rintro e w' ⟨rfl,rfl⟩
   go_wp2_with fail
   go_ret
   exact ⟨ret_int (by rw [HR1.out]),(Below.refl _ _).alloc (Nat.le_refl _) _⟩
structure JG (w0 w:World) (base:Nat) (A:Option Addr) (c:Nat) (Js:List Grp):Prop where
 row:w.ownsRow base 22 1 (.slice A Js.length c) Js.length (gcs Js)
 ent:∀ g ∈ Js,w.ownsRow base 40 1 (.slice g.1 g.2.2.length g.2.1) g.2.2.length (lcs g.2.2)
 vec:∀ g ∈ Js,∀ x ∈ g.2.2,InOk w0 x
theorem JG.nil (w0 w:World) (base:Nat):JG w0 w base none 0 []:=⟨World.ownsRow_nil _ _ _ _,fun g h=>by simp at h,fun g h=>by simp at h⟩
theorem JG.below {w0 w w':World} {base c:Nat} {A:Option Addr} {Js:List Grp} (h:JG w0 w base A c Js) (hb:Below w.heap.size w w'):JG w0 w' base A c Js:=⟨own_below h.row hb,fun g hg=>own_below (h.ent g hg) hb,h.vec⟩
theorem JG.ll {w0 w:World} {base c:Nat} {A:Option Addr} {Js:List Grp} (h:JG w0 w base A c Js) (hb:Below w0.heap.size w0 w) {g:Grp} (hg:g ∈ Js):LL w g.1 g.2.2:=⟨Lies.of_own (h.ent g hg),fun x hx=>(h.vec g hg x hx).below hb⟩
theorem JG.snoc {w0 w w':World} {base c c':Nat} {A A':Option Addr} {Js:List Grp} (h:JG w0 w base A c Js) (hg:w.grownBy w' (Value.slice A Js.length c).ownBlock)
  (ho:w'.ownsRow base 22 1 (.slice A' (Js.length + 1) c') (Js.length + 1) (gcs Js ++ [.slice none 0 0])):JG w0 w' base A' c' (Js ++ [(none,0,[])]):=by
 refine ⟨by simpa using ho,fun g hgm=>?_,fun g hgm=>?_⟩
 ·rcases List.mem_append.1 hgm with h1 | h1
  ·refine own_apart (h.ent g h1) hg (fun k hk e=>?_)
   exact (BT.of_own (h.ent g h1) hk).ne (BT.of_own h.row e) (by decide) rfl
  ·simp at h1;subst h1;exact World.ownsRow_nil _ _ _ _
 ·rcases List.mem_append.1 hgm with h1 | h1
  ·exact h.vec g h1
  ·simp at h1;subst h1;intro x hx;simp at hx
theorem JG.put {w0 w:World} {base c g k c1:Nat} {A1:Option Addr} {m:List Inn} {Js:List Grp} (h:JG w0 w base (some ⟨g,0,none⟩) c Js)
  (ho:w.ownsRow base 40 1 (.slice A1 m.length c1) m.length (lcs m)) (hm:∀ x ∈ m,InOk w0 x) :
  JG w0 (w.setCell ⟨g,k,none⟩ (.slice A1 m.length c1)) base (some ⟨g,0,none⟩) c (Js.set k (A1,c1,m)):=by
 have hbt:BT w g 22:=BT.of_own h.row rfl
 refine ⟨?_,fun y hy=>?_,fun y hy=>?_⟩
 ·have h1:=(h.row.stored k (.slice A1 m.length c1)).1
  have e:(gcs Js).set k (.slice A1 m.length c1) = gcs (Js.set k (A1,c1,m)):=by simp [gcs,List.map_set]
  rw [e] at h1
  rw [List.length_set]
  exact h1
 ·rcases List.mem_or_eq_of_mem_set hy with hy | rfl
  ·exact ownsRow_setCell_other (h.ent y hy) (fun e7=>(BT.of_own (h.ent y hy) e7).ne hbt (by decide) rfl) _
  ·exact ownsRow_setCell_other ho (fun e7=>(BT.of_own ho e7).ne hbt (by decide) rfl) _
 ·rcases List.mem_or_eq_of_mem_set hy with hy | rfl
  ·exact h.vec y hy
  ·exact hm
end Go.Proofs.YtcjicjfbippmnaaGreat
namespace Ear

theorem grp2 {a b:List (List Int)}:grpOk [a,b] = true ↔ a ≠ [] /\ b ≠ [] /\ len0 b = len0 a /\ (∀ x ∈ a,okV (len0 a) x = true) /\ ∀ x ∈ b,okV (len0 a) x = true:=by
 unfold grpOk
 rw [Bool.and_eq_true]
 cases a with
 | nil=>simp
 | cons x a=>
  cases b with
  | nil=>simp
  | cons y b=>
   have e:[x :: a,y :: b].flatten = (x :: a) ++ (y :: b):=by simp
   have e2:vecOk ((x :: a) ++ (y :: b)) = ((x :: a) ++ (y :: b)).all (okV (len0 (x :: a))):=rfl
   have e3:∀ l:List (List Int),l.all (okV (len0 (x :: a))) = true ↔ ∀ z ∈ l,okV (len0 (x :: a)) z = true:=fun l=>List.all_eq_true
   rw [e,e2,List.all_append,Bool.and_eq_true,e3,e3]
   constructor
   ·rintro ⟨_,h1,h2⟩
    exact ⟨by simp,by simp,(okV_iff.1 (h2 y (by simp))).1,h1,h2⟩
   ·rintro ⟨_,_,_,h1,h2⟩
    exact ⟨by simp,h1,h2⟩
end Ear
namespace Ear
open Go.Proofs.YtcjicjfbippmnaaGreat (Vcs)

theorem clu_end {most:Int} {lim:Rat}:∀ (f:Nat) (S:List Clu),S.length <= f + 1 -> (clu most lim f S).length <= 1 ∨ stopS most lim (clu most lim f S) = true:=by
 intro f
 induction f with
 | zero=>intro S h;exact .inl h
 | succ f ih=>
  intro S h
  unfold clu
  split
  ·rename_i h1;exact .inl h1
  ·rename_i h1
   split
   ·rename_i h2;exact .inr h2
   ·refine ih _ ?_
    obtain ⟨a,b,q,hs,hab,hb,-,-⟩:=scanS_some (G:=cG S) (n:=S.length) (by omega)
    have e:near S = some (a,b,q):=hs
    rw [e]
    show (joinS S ((a:Int)).toNat ((b:Int)).toNat).length <= _
    rw [Int.toNat_natCast,Int.toNat_natCast,joinS_length hb]
    omega
def hd (x:Clu):Int:=x.1.headD 0
structure CluA (gs:List (List (List Int))) (S:List Clu):Prop where
 ne:∀ x ∈ S,x.1 ≠ []
 all:((S.flatMap (·.1))).Perm ((List.range gs.length).map (fun k:Nat=>(k:Int)))
 vec:∀ x ∈ S,x.2 = x.1.flatMap (fun g=>gs[g.toNat]?.getD [])
 low:∀ x ∈ S,∀ g ∈ x.1,hd x <= g
 inc:S.Pairwise (fun x y=>hd x < hd y)
theorem CluA.start (gs:List (List (List Int))):CluA gs (startS gs):=by
 have key:∀ (l:List (List (List Int))) (n:Nat),((l.zipIdx n).map fun g=>(([(g.2:Int)],g.1):Clu)).flatMap (·.1) = (List.range' n l.length).map (fun k:Nat=>(k:Int)):=by
  intro l
  induction l with
  | nil=>intro n;rfl
  | cons g l ih=>intro n;simp only [List.zipIdx_cons,List.map_cons,List.flatMap_cons,ih,List.length_cons,List.range'_succ];rfl
 have hm:∀ x ∈ startS gs,∃ (k:Nat) (hk:k < gs.length),x = ([(k:Int)],gs[k]):=by
  intro x hx
  obtain ⟨g,hg,rfl⟩:=List.mem_map.1 hx
  obtain ⟨k,hk,e⟩:=List.getElem_of_mem hg
  simp only [List.length_zipIdx] at hk
  rw [List.getElem_zipIdx] at e
  exact ⟨k,hk,by rw [<- e];simp⟩
 refine ⟨?_,?_,?_,?_,?_⟩
 ·intro x hx;obtain ⟨k,hk,rfl⟩:=hm x hx;simp
 ·unfold startS;rw [key gs 0,List.range_eq_range']
 ·intro x hx;obtain ⟨k,hk,rfl⟩:=hm x hx;simp [List.getElem?_eq_getElem hk]
 ·intro x hx g hg;obtain ⟨k,hk,rfl⟩:=hm x hx;simp at hg;subst hg;exact Int.le_refl _
 ·have key2:∀ (l:List (List (List Int))) (n:Nat),((l.zipIdx n).map fun g=>(([(g.2:Int)],g.1):Clu)).Pairwise (fun x y=>hd x < hd y):=by
   intro l
   induction l with
   | nil=>intro n;exact List.Pairwise.nil
   | cons g l ih=>
    intro n
    rw [List.zipIdx_cons,List.map_cons,List.pairwise_cons]
    refine ⟨fun y hy=>?_,ih _⟩
    obtain ⟨z,hz,rfl⟩:=List.mem_map.1 hy
    obtain ⟨k,hk,e⟩:=List.getElem_of_mem hz
    rw [List.getElem_zipIdx] at e
    rw [<- e]
    show (n:Int) < ((n + 1 + k:Nat):Int)
    omega
  exact key2 gs 0
theorem hd_app {x y:Clu} (h:x.1 ≠ []):hd (x.1 ++ y.1,x.2 ++ y.2) = hd x:=by
 unfold hd
 cases e:x.1 with
 | nil=>exact absurd e h
 | cons a l=>rfl
theorem CluA.join {gs:List (List (List Int))} {S:List Clu} (h:CluA gs S) {a b:Nat} (hab:a < b) (hb:b < S.length):CluA gs (joinS S a b):=by
 obtain ⟨O,M,R,x,y,rfl,rfl,rfl⟩:=cut_two S hab hb
 rw [joinS_cut]
 obtain ⟨h1,h2,h3,h4,h5⟩:=h
 have hx:x ∈ O ++ x :: (M ++ y :: R):=by simp
 have hy:y ∈ O ++ x :: (M ++ y :: R):=by simp
 have hsub:∀ z,z ∈ O ++ (x.1 ++ y.1,x.2 ++ y.2) :: (M ++ R) -> z = (x.1 ++ y.1,x.2 ++ y.2) ∨ z ∈ O ++ x :: (M ++ y :: R):=by
  intro z hz
  simp only [List.mem_append,List.mem_cons] at hz ⊢
  rcases hz with h | h | h | h
  ·exact .inr (.inl h)
  ·exact .inl h
  ·exact .inr (.inr (.inr (.inl h)))
  ·exact .inr (.inr (.inr (.inr (.inr h))))
 rw [List.pairwise_append,List.pairwise_cons,List.pairwise_append,List.pairwise_cons] at h5
 obtain ⟨p1,⟨p2,p3,⟨p4,p5⟩,p6⟩,p7⟩:=h5
 have hxy:hd x < hd y:=p2 y (by simp)
 refine ⟨?_,?_,?_,?_,?_⟩
 ·intro z hz
  rcases hsub z hz with rfl | hz
  ·simp [h1 x hx]
  ·exact h1 z hz
 ·refine List.Perm.trans ?_ h2
  simp only [List.flatMap_append,List.flatMap_cons,List.append_assoc]
  refine List.Perm.append_left _ (List.Perm.append_left _ ?_)
  rw [<- List.append_assoc,<- List.append_assoc]
  exact List.Perm.append_right _ List.perm_append_comm
 ·intro z hz
  rcases hsub z hz with rfl | hz
  ·simp only [List.flatMap_append];rw [h3 x hx,h3 y hy]
  ·exact h3 z hz
 ·intro z hz
  rcases hsub z hz with rfl | hz
  ·intro g hg
   rw [hd_app (h1 x hx)]
   rcases List.mem_append.1 hg with hg | hg
   ·exact h4 x hx g hg
   ·have:=h4 y hy g hg;omega
  ·exact h4 z hz
 ·rw [List.pairwise_append,List.pairwise_cons,List.pairwise_append]
  have he:=hd_app (x:=x) (y:=y) (h1 x hx)
  refine ⟨p1,⟨fun z hz=>?_,p3,p5,fun u hu v hv=>p6 u hu v (by simp [hv])⟩,fun u hu v hv=>?_⟩
  ·rw [he]
   rcases List.mem_append.1 hz with hz | hz
   ·exact p2 z (by simp [hz])
   ·exact p2 z (by simp [hz])
  ·rcases List.mem_cons.1 hv with rfl | hv
   ·rw [he];exact p7 u hu x (by simp)
   ·rcases List.mem_append.1 hv with hv | hv
    ·exact p7 u hu v (by simp [hv])
    ·exact p7 u hu v (by simp [hv])
theorem CluA.clu {gs:List (List (List Int))} {most:Int} {lim:Rat}:∀ (f:Nat) (S:List Clu),CluA gs S -> CluA gs (clu most lim f S):=by
 intro f
 induction f with
 | zero=>intro S h;exact h
 | succ f ih=>
  intro S h
  unfold Ear.clu
  split
  ·exact h
  ·rename_i h1
   split
   ·exact h
   ·refine ih _ ?_
    obtain ⟨a,b,q,hs,hab,hb,-,-⟩:=scanS_some (G:=cG S) (n:=S.length) (by omega)
    have e:near S = some (a,b,q):=hs
    rw [e]
    show CluA gs (joinS S ((a:Int)).toNat ((b:Int)).toNat)
    rw [Int.toNat_natCast,Int.toNat_natCast]
    exact h.join hab hb
end Ear
