/- TalkGrounds -/
import Derived.Test.YtcjicjfbippmnaaGreatMTGrou45
import Derived.Test.YtcjicjfbippmnaaGreatMTGrou46
set_option maxRecDepth 100000
set_option maxHeartbeats 32000000
namespace Ear
open Go.Proofs.YtcjicjfbippmnaaGreat
def Yr (seen:List BA):List BA -> Option (List BA)
 | []=>some seen
 | v :: l=>if Xf v = true /\ v ∉ seen /\ v ≠ Yq /\ v ≠ noB then Yr (seen ++ [v]) l else none
def Zac (names:List BA) (s:PSl):Prop:=Xf s.nm = true /\ s.nm ∉ names /\ 1 <= s.vs.length /\ s.vs.length <= 50 /\ Xz s.le = true /\ Xz s.su = true /\ ¬ 0 < XE (s.le + -s.su)
instance (names:List BA) (s:PSl):Decidable (Zac names s):=by unfold Zac;infer_instance
def Uj (names values:List BA):List PSl -> Bool
 | []=>decide (Yq ∉ names) && decide (noB ∉ names)
 | s :: l=>decide (Zac names s) && (match Yr values s.vs with | none=>false | some v=>Uj (names ++ [s.nm]) v l)
theorem Zn (names values:List BA) (s:PSl) (l:List PSl):Uj names values (s :: l) = (decide (Zac names s) && (match Yr values s.vs with | none=>false | some v=>Uj (names ++ [s.nm]) v l)):=rfl
theorem Zd0 {names values:List BA} {s:PSl} {l:List PSl} (h:¬ Zac names s):Uj names values (s :: l) = false:=by rw [Zn,dF h];rfl
theorem Zc8 {names values:List BA} {s:PSl} {l:List PSl} (h:Yr values s.vs = none):Uj names values (s :: l) = false:=by rw [Zn,h];simp
theorem Zc9 {names values v:List BA} {s:PSl} {l:List PSl} (h:Zac names s) (hv:Yr values s.vs = some v):Uj names values (s :: l) = Uj (names ++ [s.nm]) v l:=by rw [Zn,decide_eq_true h,hv];rfl
theorem ZaL {seen:List BA} {l:List BA} {j:Nat} {seen':List BA} (h:Yr seen (l.take j) = some seen'):Yr seen l = Yr seen' (l.drop j):=by
 induction l generalizing seen j with
 | nil=>simp [Yr] at h ⊢;rw [h]
 | cons v l ih=>
  cases j with
  | zero=>simp [Yr] at h;rw [h];rfl
  | succ j=>
   simp only [List.take_succ_cons,List.drop_succ_cons] at h ⊢
   have e:∀ r,Yr seen (v :: r) = if Xf v = true /\ v ∉ seen /\ v ≠ Yq /\ v ≠ noB then Yr (seen ++ [v]) r else none:=fun _=>rfl
   rw [e] at h ⊢
   by_cases hc:Xf v = true /\ v ∉ seen /\ v ≠ Yq /\ v ≠ noB
   ·rw [if_pos hc] at h ⊢
    exact ih h
   ·rw [if_neg hc] at h
    cases h
theorem ZcQ {seen:List BA} {l:List BA} {j:Nat} {seen':List BA} (h:Yr seen (l.take j) = some seen') (hj:j < l.length):Yr seen (l.take (j + 1)) = if Xf l[j] = true /\ l[j] ∉ seen' /\ l[j] ≠ Yq /\ l[j] ≠ noB then some (seen' ++ [l[j]]) else none:=by
 have h1:=ZaL (l:=l.take (j + 1)) (j:=j) (by rw [List.take_take,Nat.min_eq_left (by omega)];exact h)
 rw [h1,List.drop_take,show j + 1 - j = 1 by omega,List.drop_eq_getElem_cons hj]
 rfl
theorem ZdC {seen:List BA} {l:List BA} {j:Nat} {seen':List BA} (h:Yr seen (l.take j) = some seen') (hj:j < l.length) (hb:¬ (Xf l[j] = true /\ l[j] ∉ seen' /\ l[j] ≠ Yq /\ l[j] ≠ noB)):Yr seen l = none:=by
 rw [ZaL h,List.drop_eq_getElem_cons hj]
 show (if _ then _ else none) = none
 rw [if_neg hb]
theorem Zfc:∀ (l seen:List BA),Xe (Yq :: noB :: seen) l = (Yr seen l).map (fun r=>Yq :: noB :: r):=by
 intro l
 induction l with
 | nil=>intro seen;rfl
 | cons v l ih=>
  intro seen
  show (if Xf v = true /\ v ∉ Yq :: noB :: seen then Xe (Yq :: noB :: seen ++ [v]) l else none) = (if Xf v = true /\ v ∉ seen /\ v ≠ Yq /\ v ≠ noB then Yr (seen ++ [v]) l else none).map _
  by_cases hc:Xf v = true /\ v ∉ seen /\ v ≠ Yq /\ v ≠ noB
  ·rw [if_pos hc,if_pos ⟨hc.1,by simp only [List.mem_cons,not_or];exact ⟨hc.2.2.1,hc.2.2.2,hc.2.1⟩⟩]
   exact ih (seen ++ [v])
  ·rw [if_neg hc,if_neg (fun h=>hc (by
    obtain ⟨h1,h2⟩:=h
    simp only [List.mem_cons,not_or] at h2
    exact ⟨h1,h2.2.2,h2.1,h2.2.1⟩))]
   rfl
theorem Zfy:∀ (S:List PSl) (names values:List BA),Uj names values S = (YL names (Yq :: noB :: values) S && (decide (Yq ∉ names) && decide (noB ∉ names))):=by
 intro S
 induction S with
 | nil=>intro names values;rfl
 | cons s l ih=>
  intro names values
  rw [Zn,Yk,Zfc]
  cases hv:Yr values s.vs with
  | none=>simp
  | some v=>
   simp only [Option.map_some]
   rw [ih]
   by_cases hs:Zac names s
   ·rw [decide_eq_true hs,Bool.true_and]
    have key:ZaW names s = (decide (s.nm ≠ Yq) && decide (s.nm ≠ noB)):=by
     by_cases h1:s.nm ≠ Yq
     ·by_cases h2:s.nm ≠ noB
      ·rw [decide_eq_true h1,decide_eq_true h2]
       obtain ⟨a1,a2,a3,a4,a5,a6,a7⟩:=hs
       exact Z6.2 ⟨a1,a2,h1,h2,a3,a4,a5,a6,a7⟩
      ·rw [JZ (fun h=>h2 h.2.2.2.1),dF h2,Bool.and_false]
     ·rw [JZ (fun h=>h1 h.2.2.1),dF h1,Bool.false_and]
    rw [key]
    have ey:decide (Yq ∉ names ++ [s.nm]) = (decide (Yq ∉ names) && decide (s.nm ≠ Yq)):=by
     by_cases h1:Yq ∈ names
     ·rw [dF (by simp [h1]),dF (by simpa using h1)];rfl
     ·by_cases h2:s.nm = Yq
      ·rw [dF (by simp [h2]),dF (p:=s.nm ≠ Yq) (by simpa using h2),Bool.and_false]
      ·rw [decide_eq_true (by simp only [List.mem_append,List.mem_singleton,not_or];exact ⟨h1,fun e=>h2 e.symm⟩),decide_eq_true h1,decide_eq_true h2];rfl
    have en:decide (noB ∉ names ++ [s.nm]) = (decide (noB ∉ names) && decide (s.nm ≠ noB)):=by
     by_cases h1:noB ∈ names
     ·rw [dF (by simp [h1]),dF (by simpa using h1)];rfl
     ·by_cases h2:s.nm = noB
      ·rw [dF (by simp [h2]),dF (p:=s.nm ≠ noB) (by simpa using h2),Bool.and_false]
      ·rw [decide_eq_true (by simp only [List.mem_append,List.mem_singleton,not_or];exact ⟨h1,fun e=>h2 e.symm⟩),decide_eq_true h1,decide_eq_true h2];rfl
    rw [ey,en]
    cases decide (s.nm ≠ Yq) <;> cases decide (s.nm ≠ noB) <;> cases decide (Yq ∉ names) <;> cases decide (noB ∉ names) <;> simp
   ·rw [dF hs,Bool.false_and]
    rw [JZ (fun h=>hs ⟨h.1,h.2.1,h.2.2.2.2.1,h.2.2.2.2.2.1,h.2.2.2.2.2.2.1,h.2.2.2.2.2.2.2.1,h.2.2.2.2.2.2.2.2⟩)]
    simp
theorem ZgS (pat prm need:Int) (S:List PSl):Va pat prm need S = (decide (XG S.length pat prm need) && Uj [] [] S):=by
 unfold Va
 rw [Zfy]
 simp
end Ear
namespace Go.Proofs.YtcjicjfbippmnaaGreat
open Go.RowKit Ear

structure TwoS (base:Nat) (NA VA:Option Addr) (nc vc:Nat) (N V:List BA) (W:World):Prop where
 n:W.ownsRow base 9 1 (.slice NA N.length nc) N.length (sbs N)
 v:W.ownsRow base 9 1 (.slice VA V.length vc) V.length (sbs V)
 ap:∀ k,blk NA = some k -> blk VA ≠ some k
theorem TwoS.below {base:Nat} {NA VA:Option Addr} {nc vc:Nat} {N V:List BA} {W W':World} (h:TwoS base NA VA nc vc N V W) (hb:Below W.heap.size W W'):TwoS base NA VA nc vc N V W':=⟨Jg h.n hb,Jg h.v hb,h.ap⟩
theorem TwoS.addN {base:Nat} {NA VA NA':Option Addr} {nc vc nc':Nat} {N V:List BA} {x:BA} {W W':World} (h:TwoS base NA VA nc vc N V W) (ho:W'.ownsRow base 9 1 (.slice NA' (N.length + 1) nc') (N.length + 1) (sbs N ++ [.string x]))
  (hg:W.grownBy W' (blk NA)) (hn:blk NA' = blk NA ∨ blk NA' = some W.heap.size):TwoS base NA' VA nc' vc (N ++ [x]) V W':=by
 refine ⟨by simpa using ho,Jq h.v hg (fun k hk e=>h.ap k e (by rw [Jm] at hk;exact hk)),fun k hk e=>?_⟩
 rcases hn with hn | hn
 ·exact h.ap k (hn ▸ hk) e
 ·rw [hn] at hk
  injection hk with hk
  have:=(h.v.lt k (by rw [Jm];exact e)).2
  omega
theorem TwoS.addV {base:Nat} {NA VA VA':Option Addr} {nc vc vc':Nat} {N V:List BA} {x:BA} {W W':World} (h:TwoS base NA VA nc vc N V W) (ho:W'.ownsRow base 9 1 (.slice VA' (V.length + 1) vc') (V.length + 1) (sbs V ++ [.string x]))
  (hg:W.grownBy W' (blk VA)) (hn:blk VA' = blk VA ∨ blk VA' = some W.heap.size):TwoS base NA VA' nc vc' N (V ++ [x]) W':=by
 refine ⟨Jq h.n hg (fun k hk e=>h.ap k (by rw [Jm] at hk;exact hk) e),by simpa using ho,fun k hk e=>?_⟩
 rcases hn with hn | hn
 ·exact h.ap k hk (hn ▸ e)
 ·rw [hn] at e
  injection e with e
  have:=(h.n.lt k (by rw [Jm];exact hk)).2
  omega
theorem TwoS.keepN {base:Nat} {NA VA:Option Addr} {nc vc:Nat} {N V:List BA} {W W':World} (h:TwoS base NA VA nc vc N V W) (hg:W.grownBy W' (blk NA)) {b:Nat} {cs:Array Value} {t:TypeId} (hb:W.heap[b]? = some (.cells cs t (0,0))) (ht:t ≠ 9):W'.heap[b]? = some (.cells cs t (0,0)):=
 (hg.block b (aE hb).1 (fun e=>(BT.of_own h.n (b:=b) (by rw [Jm];exact e.symm)).ne ⟨cs,(0,0),hb⟩ (fun e=>ht e.symm) rfl)).trans hb
theorem TwoS.keepV {base:Nat} {NA VA:Option Addr} {nc vc:Nat} {N V:List BA} {W W':World} (h:TwoS base NA VA nc vc N V W) (hg:W.grownBy W' (blk VA)) {b:Nat} {cs:Array Value} {t:TypeId} (hb:W.heap[b]? = some (.cells cs t (0,0))) (ht:t ≠ 9):W'.heap[b]? = some (.cells cs t (0,0)):=
 (hg.block b (aE hb).1 (fun e=>(BT.of_own h.v (b:=b) (by rw [Jm];exact e.symm)).ne ⟨cs,(0,0),hb⟩ (fun e=>ht e.symm) rfl)).trans hb
theorem ZcV (A:Option Addr) (c:Nat) (Ss:List SlM) (pat prm need:Int) (w:World) (hn6:Ss.length <= 9223372036854775807) (hh:¬ XG Ss.length pat prm need) :
  Calls Tryz.prog 30 #[.agg #[.slice A Ss.length c,.int .i64 pat,.int .i64 prm,.int .i64 need]] w (Qx false w):=by
 obtain ⟨W0,hW0⟩:∃ W0:World,W0 = w.alloc (.cells #[.slice A Ss.length c,.int .i64 pat,.int .i64 prm,.int .i64 need] 48):=⟨_,rfl⟩
 have HB0:Hid (Below w.heap.size w W0):=zH (by rw [hW0];exact bR.alloc nR _)
 have HX0:Hid (W0.heap[w.heap.size]? = some (.cells #[.slice A Ss.length c,.int .i64 pat,.int .i64 prm,.int .i64 need] 48 (0,0))):=zH (by rw [hW0];exact heap_alloc_new w _)
 have hws:w.heap.size < W0.heap.size:=(aE HX0.out).1
 have c0:W0.cell? ⟨w.heap.size,0,none⟩ = some (.slice A Ss.length c):=(cR 0 HX0.out).trans rfl
 have c1:W0.cell? ⟨w.heap.size,1,none⟩ = some (.int .i64 pat):=(cR 1 HX0.out).trans rfl
 have c2:W0.cell? ⟨w.heap.size,2,none⟩ = some (.int .i64 prm):=(cR 2 HX0.out).trans rfl
 have c3:W0.cell? ⟨w.heap.size,3,none⟩ = some (.int .i64 need):=(cR 3 HX0.out).trans rfl
 go_enter Tryz.func30,Tryz.ntmps30
 go_upto_region 1 with fail
 rw [<- hW0]
 clear hW0
 have hh':(Ss.length:Int) < 1 ∨ (1 <= (Ss.length:Int) /\ 20 < (Ss.length:Int)) ∨ (1 <= (Ss.length:Int) /\ (Ss.length:Int) <= 20 /\ pat < 0) ∨ (1 <= (Ss.length:Int) /\ (Ss.length:Int) <= 20 /\ 0 <= pat /\ 100 < pat) ∨ (1 <= (Ss.length:Int) /\ (Ss.length:Int) <= 20 /\ 0 <= pat /\ pat <= 100 /\ prm < 0) ∨ (1 <= (Ss.length:Int) /\ (Ss.length:Int) <= 20 /\ 0 <= pat /\ pat <= 100 /\ 0 <= prm /\ 10000 < prm) ∨
   (1 <= (Ss.length:Int) /\ (Ss.length:Int) <= 20 /\ 0 <= pat /\ pat <= 100 /\ 0 <= prm /\ prm <= 10000 /\ need < 0) ∨ (1 <= (Ss.length:Int) /\ (Ss.length:Int) <= 20 /\ 0 <= pat /\ pat <= 100 /\ 0 <= prm /\ prm <= 10000 /\ 0 <= need /\ prm < need):=by
  unfold XG at hh
  omega
 clear hh
 rcases hh' with h1 | ⟨h1,h2⟩ | ⟨h1,h2,h3⟩ | ⟨h1,h2,h3,h4⟩ | ⟨h1,h2,h3,h4,h5⟩ | ⟨h1,h2,h3,h4,h5,h6⟩ | ⟨h1,h2,h3,h4,h5,h6,h7⟩ | ⟨h1,h2,h3,h4,h5,h6,h7,h8⟩
 all_goals
  go_wp2_with fail
  go_ret
  exact ⟨rfl,HB0.out⟩
end Go.Proofs.YtcjicjfbippmnaaGreat
namespace Go.Proofs.YtcjicjfbippmnaaGreat
open Go.RowKit Ear

theorem ZdE (A:Option Addr) (c:Nat) (Ss:List SlM) (Ps:List PSl) (pat prm need:Int) (w:World) (h:PlM w A Ss Ps) (hsz:Hid (∀ s ∈ Ss,s.nm.size <= 1000000 /\ ∀ v ∈ s.vs,v.size <= 1000000)) (hvl:Hid (∀ s ∈ Ss,s.vs.length <= 1000000)) (hfw:Hid (∀ s ∈ Ss,Few s.L 40000 /\ Few s.S 40000)) (hn6:Ss.length <= 1000000) (r:Bool) (hr:Hid (Va pat prm need Ps = r)) :
  Calls Tryz.prog 30 #[.agg #[.slice A Ss.length c,.int .i64 pat,.int .i64 prm,.int .i64 need]] w (Qx r w):=by
 have hln0:=h.len
 by_cases hh:XG Ss.length pat prm need
 ·obtain ⟨h1,h2,h3,h4,h5,h6,h7,h8⟩:=hh
  have HLN:=zH hln0
  clear hln0
  obtain ⟨W0,hW0⟩:∃ W0:World,W0 = w.alloc (.cells #[.slice A Ss.length c,.int .i64 pat,.int .i64 prm,.int .i64 need] 48):=⟨_,rfl⟩
  have HB0:Hid (Below w.heap.size w W0):=zH (by rw [hW0];exact bR.alloc nR _)
  have HX0:Hid (W0.heap[w.heap.size]? = some (.cells #[.slice A Ss.length c,.int .i64 pat,.int .i64 prm,.int .i64 need] 48 (0,0))):=zH (by rw [hW0];exact heap_alloc_new w _)
  have hws:w.heap.size < W0.heap.size:=(aE HX0.out).1
  have HPL:=zH (h.below HB0.out)
  have c0:W0.cell? ⟨w.heap.size,0,none⟩ = some (.slice A Ss.length c):=(cR 0 HX0.out).trans rfl
  have c1:W0.cell? ⟨w.heap.size,1,none⟩ = some (.int .i64 pat):=(cR 1 HX0.out).trans rfl
  have c2:W0.cell? ⟨w.heap.size,2,none⟩ = some (.int .i64 prm):=(cR 2 HX0.out).trans rfl
  have c3:W0.cell? ⟨w.heap.size,3,none⟩ = some (.int .i64 need):=(cR 3 HX0.out).trans rfl
  obtain ⟨i0,hi0,hz0,hz1,hz2⟩:=info_parts ZT
  have TI:=zH hi0;have TZ0:=zH hz0;have TZ1:=zH hz1;have TZ2:=zH hz2
  clear h hi0 hz0 hz1 hz2
  go_enter Tryz.func30,Tryz.ntmps30
  go_upto_region 1 with fail
  rw [<- hW0]
  clear hW0
  have h1':(1:Int) <= (Ss.length:Int):=by omega
  have h2':(Ss.length:Int) <= 20:=by omega
  have n1:¬ (Ss.length:Int) < 1:=by omega
  have n2:¬ (20:Int) < (Ss.length:Int):=by omega
  have n3:¬ pat < 0:=by omega
  have n4:¬ 100 < pat:=by omega
  have n5:¬ prm < 0:=by omega
  have n6:¬ 10000 < prm:=by omega
  have n7:¬ need < 0:=by omega
  have n8:¬ prm < need:=by omega
  have HR:Hid (r = Uj [] [] Ps):=zH (by
   rw [<- hr.out,ZgS]
   rw [decide_eq_true (by rw [<- HLN.out];exact ⟨h1,h2,h3,h4,h5,h6,h7,h8⟩)]
   rfl)
  clear hr
  have H2:Hid (TwoS W0.heap.size none none 0 0 [] [] W0):=zH ⟨World.ownsRow_nil _ _ _ _,World.ownsRow_nil _ _ _ _,fun k hk=>by cases hk⟩
  go_wp2_with fail
  clear c1 c2 c3
  go_loopw [3,4,5,6,7,8] (fun t3 t4 t _ _ _ wr=>∃ (k:Nat) (NA VA:Option Addr) (nc vc:Nat) (names values:List BA),k <= Ss.length /\ t = .int .i64 k /\ t3 = .slice NA names.length nc /\ t4 = .slice VA values.length vc /\ Hid (names.length = k) /\ values.length <= 50 * k /\ Hid (TwoS W0.heap.size NA VA nc vc names values wr) /\ Hid (r = Uj names values (Ps.drop k)) /\ Hid (Below W0.heap.size W0 wr)) (fun _ _ t _ _ _ _=>Ss.length - (intOf t).toNat)
  case atStart=>exact ⟨0,none,none,0,0,[],[],by omega,rfl,rfl,rfl,zH rfl,by simp,H2,HR,zH bR⟩
  case round=>
   obtain ⟨k,NA,VA,nc,vc,names,values,hk,rfl,rfl,rfl,hnl,hvl5,HT,HRk,HBk⟩:=hrel
   have hnk:names.length <= k:=by rw [hnl.out];exact Nat.le_refl _
   clear HR H2
   obtain ⟨Wr,rfl⟩:∃ X,X = wr:=⟨_,rfl⟩
   have hsr:W0.heap.size <= Wr.heap.size:=HBk.out.size
   have c0r:=(HBk.out.cell (p:=⟨w.heap.size,0,none⟩) hws).trans c0
   have HWk:Hid (Below w.heap.size w Wr):=zH (HB0.out.trans (HBk.out.mono HB0.out.size))
   by_cases hlt:k < Ss.length
   ·have hlt':(k:Int) < (Ss.length:Int):=by omega
    have hltP:k < Ps.length:=by rw [<- HLN.out];exact hlt
    obtain ⟨ba,off,rfl,hba,hcell⟩:=(HPL.out.below HBk.out).at_ hlt
    have HOK0:=zH (HPL.out.ok k _ _ (gE hlt) (gE hltP))
    have HOK:=zH (HPL.out.ok k _ _ (gE hlt) (gE hltP))
    have HSZ:=zH (hsz.out _ (gM hlt))
    have HVL:=zH (hvl.out _ (gM hlt))
    have HFW:=zH (hfw.out _ (gM hlt))
    have HDR:Hid (Ps.drop k = Ps[k] :: Ps.drop (k + 1)):=zH (List.drop_eq_getElem_cons hltP)
    generalize Ss[k] = s at *
    generalize Ps[k] = p at *
    have k0:=hcell 0 _ rfl
    have k1:=hcell 1 _ rfl
    have k2:=hcell 2 _ rfl
    have k3:=hcell 3 _ rfl
    have k4:=hcell 4 _ rfl
    have k5:=hcell 5 _ rfl
    have k6:=hcell 6 _ rfl
    have k7:=hcell 7 _ rfl
    rw [Nat.add_zero] at k0
    clear hcell
    obtain ⟨pn,pv,ple,psu⟩:=p
    have hn1:=HOK0.out.nm
    have hn2:=HOK0.out.vs
    simp only at hn1 hn2
    subst hn1 hn2
    have hvl6:=HVL.out
    obtain ⟨V,hV⟩:∃ V:World,V = Wr.alloc (.cells #[.string s.nm,.slice s.A s.vs.length s.c,.bool s.L.neg,.slice s.L.A s.L.N.length s.L.c,.slice s.L.B s.L.D.length s.L.d,.bool s.S.neg,.slice s.S.A s.S.N.length s.S.c,.slice s.S.B s.S.D.length s.S.d] 79):=⟨_,rfl⟩
    have HBV:Hid (Below Wr.heap.size Wr V):=zH (by rw [hV];exact bR.alloc nR _)
    have HXV:Hid (V.heap[Wr.heap.size]? = some (.cells #[.string s.nm,.slice s.A s.vs.length s.c,.bool s.L.neg,.slice s.L.A s.L.N.length s.L.c,.slice s.L.B s.L.D.length s.L.d,.bool s.S.neg,.slice s.S.A s.S.N.length s.S.c,.slice s.S.B s.S.D.length s.S.d] 79 (0,0))):=zH (by rw [hV];exact heap_alloc_new Wr _)
    have hwv:Wr.heap.size < V.heap.size:=(aE HXV.out).1
    have HCC:Hid (∀ u,Below V.heap.size V u -> u.cell? ⟨Wr.heap.size,0,none⟩ = some (.string s.nm) /\ u.cell? ⟨Wr.heap.size,1,none⟩ = some (.slice s.A s.vs.length s.c) /\ u.cell? ⟨Wr.heap.size,2,none⟩ = some (.bool s.L.neg) /\ u.cell? ⟨Wr.heap.size,3,none⟩ = some (.slice s.L.A s.L.N.length s.L.c) /\ u.cell? ⟨Wr.heap.size,4,none⟩ = some (.slice s.L.B s.L.D.length s.L.d) /\ u.cell? ⟨Wr.heap.size,5,none⟩ = some (.bool s.S.neg) /\ u.cell? ⟨Wr.heap.size,6,none⟩ = some (.slice s.S.A s.S.N.length s.S.c) /\ u.cell? ⟨Wr.heap.size,7,none⟩ = some (.slice s.S.B s.S.D.length s.S.d)):=zH (fun u hu=>by
     have hh:=(hu.block _ hwv).trans HXV.out
     exact ⟨(cR 0 hh).trans rfl,(cR 1 hh).trans rfl,(cR 2 hh).trans rfl,(cR 3 hh).trans rfl,(cR 4 hh).trans rfl,(cR 5 hh).trans rfl,(cR 6 hh).trans rfl,(cR 7 hh).trans rfl⟩)
    have HTV:=zH (HT.out.below HBV.out)
    have HOV:=zH (HOK.out.below (HBk.out.trans (HBV.out.mono hsr)))
    have HWV:Hid (Below w.heap.size w V):=zH (HWk.out.trans (HBV.out.mono HWk.out.size))
    have H0V:Hid (Below W0.heap.size W0 V):=zH (HBk.out.trans (HBV.out.mono hsr))
    go_upto_region 8 with fail
    rw [<- hV]
    clear hV k0 k1 k2 k3 k4 k5 k6 k7 c0r
    obtain ⟨b0,b1,b2,b3,b4,b5,b6,b7⟩:=HCC.out V bR
    have C1:=zH (ZaX s.nm V (by have:=HSZ.out.1;omega) (Xf s.nm) (zH rfl))
    have HB2:Hid (∀ h:¬ Zac names ⟨s.nm,s.vs,ple,psu⟩,r = false):=zH (fun h=>by rw [HRk.out,HDR.out];exact Zd0 h)
    by_cases g1:Xf s.nm = true
    rotate_left
    ·obtain rfl:=HB2.out (fun h=>g1 h.1)
     rw [Bool.eq_false_iff.2 g1] at C1
     clear g1 HRk HB2
     go_wp2_with fail
     refine C1.out.mono ?_
     rintro e w1 ⟨rfl,rfl⟩
     go_wp2_with fail
     go_ret
     exact ⟨rfl,HWV.out⟩
    have G1:=zH g1
    rw [g1] at C1
    clear g1
    have C2:=zH (Um NA nc names s.nm V (Lies.of_own HTV.out.n) (by omega) (decide (s.nm ∈ names)) (zH rfl))
    by_cases g2:s.nm ∈ names
    ·obtain rfl:=HB2.out (fun h=>h.2.1 g2)
     rw [decide_eq_true g2] at C2
     clear g2 HRk HB2
     go_wp2_with fail
     refine C1.out.mono ?_
     rintro e w1 ⟨rfl,rfl⟩
     go_wp2_with fail
     refine C2.out.mono ?_
     rintro e w1 ⟨rfl,rfl⟩
     go_wp2_with fail
     go_ret
     exact ⟨rfl,HWV.out⟩
    have G2:=zH g2
    rw [dF g2] at C2
    clear g2
    by_cases g5 : 1 <= s.vs.length
    rotate_left
    ·obtain rfl:=HB2.out (fun h=>g5 h.2.2.1)
     have q5:(s.vs.length:Int) < 1:=by omega
     clear g5 HRk HB2
     go_wp2_with fail
     refine C1.out.mono ?_
     rintro e w1 ⟨rfl,rfl⟩
     go_wp2_with fail
     refine C2.out.mono ?_
     rintro e w1 ⟨rfl,rfl⟩
     go_wp2_with fail
     go_ret
     exact ⟨rfl,HWV.out⟩
    have G5:=zH g5
    have q5:¬ (s.vs.length:Int) < 1:=by omega
    clear g5
    by_cases g6:s.vs.length <= 50
    rotate_left
    ·obtain rfl:=HB2.out (fun h=>g6 h.2.2.2.1)
     have q6:(50:Int) < (s.vs.length:Int):=by omega
     clear g6 HRk HB2
     go_wp2_with fail
     refine C1.out.mono ?_
     rintro e w1 ⟨rfl,rfl⟩
     go_wp2_with fail
     refine C2.out.mono ?_
     rintro e w1 ⟨rfl,rfl⟩
     go_wp2_with fail
     go_ret
     exact ⟨rfl,HWV.out⟩
    have G6:=zH g6
    have q6:¬ (50:Int) < (s.vs.length:Int):=by omega
    clear g6
    go_wp2_with fail
    refine C1.out.mono ?_
    rintro e w1 ⟨rfl,rfl⟩
    go_wp2_with fail
    refine C2.out.mono ?_
    rintro e w1 ⟨rfl,rfl⟩
    clear C1 C2
    go_wp2_with fail
    refine (ZaM s.L ple w1 HOV.out.L HFW.out.1 (Xz ple) (zH rfl)).mono ?_
    rintro e V1 ⟨rfl,hb1⟩
    have HD1:Hid (Below w1.heap.size w1 V1):=zH hb1
    clear hb1 b0 b1 b2 b3 b4 b5 b6 b7
    obtain ⟨b0,b1,b2,b3,b4,b5,b6,b7⟩:=HCC.out V1 HD1.out
    by_cases g7:Xz ple = true
    rotate_left
    ·obtain rfl:=HB2.out (fun h=>g7 h.2.2.2.2.1)
     rw [Bool.eq_false_iff.2 g7]
     clear g7 HRk HB2
     go_wp2_with fail
     go_ret
     exact ⟨rfl,HWV.out.trans (HD1.out.mono HWV.out.size)⟩
    have G7:=zH g7
    rw [g7]
    clear g7
    go_wp2_with fail
    refine (ZaM s.S psu V1 (HOV.out.S.below HD1.out) HFW.out.2 (Xz psu) (zH rfl)).mono ?_
    rintro e V2 ⟨rfl,hb2⟩
    have HD2:=zH (HD1.out.trans (hb2.mono HD1.out.size))
    clear hb2 b0 b1 b2 b3 b4 b5 b6 b7
    obtain ⟨b0,b1,b2,b3,b4,b5,b6,b7⟩:=HCC.out V2 HD2.out
    by_cases g8:Xz psu = true
    rotate_left
    ·obtain rfl:=HB2.out (fun h=>g8 h.2.2.2.2.2.1)
     rw [Bool.eq_false_iff.2 g8]
     clear g8 HRk HB2
     go_wp2_with fail
     go_ret
     exact ⟨rfl,HWV.out.trans (HD2.out.mono HWV.out.size)⟩
    have G8:=zH g8
    rw [g8]
    clear g8
    go_wp2_with fail
    refine (ZaZ s.L s.S ple psu V2 (HOV.out.L.below HD2.out) (HOV.out.S.below HD2.out) HFW.out.1 HFW.out.2 (XE (ple + -psu)) (zH rfl)).mono ?_
    rintro e V3 ⟨rfl,hb3⟩
    have HD3:=zH (HD2.out.trans (hb3.mono HD2.out.size))
    clear hb3 b0 b1 b2 b3 b4 b5 b6 b7
    obtain ⟨b0,b1,b2,b3,b4,b5,b6,b7⟩:=HCC.out V3 HD3.out
    by_cases g9:¬ 0 < XE (ple + -psu)
    rotate_left
    ·obtain rfl:=HB2.out (fun h=>g9 h.2.2.2.2.2.2)
     have q9 : 0 < XE (ple + -psu):=Classical.not_not.1 g9
     clear g9 HRk HB2
     go_wp2_with fail
     go_ret
     exact ⟨rfl,HWV.out.trans (HD3.out.mono HWV.out.size)⟩
    have HSL:Hid (Zac names ⟨s.nm,s.vs,ple,psu⟩):=zH ⟨G1.out,G2.out,G5.out,G6.out,G7.out,G8.out,g9⟩
    have HT3:=zH (HTV.out.below HD3.out)
    have HB3:=zH (H0V.out.trans (HD3.out.mono H0V.out.size))
    have h63:=HB3.out.size
    have HVS:=zH (HOV.out.lies.below HD3.out)
    have hnm20:k <= 20:=by omega
    clear HTV HOV HOK HB2 G1 G2 G5 G7 G8 HT HBk
    go_wp2_with (at_builtin;refine Jf _ rfl (.tmp 105) (.tmp 108) _ rfl W0.heap.size 9 i0 _ 1 16 Tryz.underlying74 TI.out TZ0.out TZ1.out TZ2.out rfl (by omega) (.slice NA names.length nc) names.length (sbs names) rfl (HT3.out.n.alloc _) (some ⟨V3.heap.size,0,none⟩) 1 1 [.string s.nm] rfl (fun e=>by cases e) (Zr _ _ _) (by simp) (by simp [Value.oneCell']) (by unfold maxLen;omega) (by omega) (by simp;omega) (names.length + 1) rfl ?_;intro NA4 nc4 V4 ho4 hg4 hn4)
    have hbn:Below V3.heap.size V3 (V3.alloc (.cells #[.string s.nm] 9)):=bR.alloc nR _
    rw [Jm] at hg4
    rw [Jm,Jm] at hn4
    have HT4:Hid (TwoS W0.heap.size NA4 VA nc4 vc (names ++ [s.nm]) values V4):=zH ((HT3.out.below hbn).addN ho4 hg4 hn4)
    have HX4:Hid (V4.heap[Wr.heap.size]? = some (.cells #[.string s.nm,.slice s.A s.vs.length s.c,.bool s.L.neg,.slice s.L.A s.L.N.length s.L.c,.slice s.L.B s.L.D.length s.L.d,.bool s.S.neg,.slice s.S.A s.S.N.length s.S.c,.slice s.S.B s.S.D.length s.S.d] 79 (0,0))):=zH ((HT3.out.below hbn).keepN hg4 ((hbn.block _ (Nat.lt_of_lt_of_le hwv HD3.out.size)).trans ((HD3.out.block _ hwv).trans HXV.out)) (by decide))
    have HB4:Hid (Below W0.heap.size W0 V4):=zH ((HB3.out.trans (hbn.mono HB3.out.size)).grown hg4 (by simp;omega) (fun k hk=>((HT3.out.below hbn).n.lt k (by rw [Jm];exact hk)).1))
    have HLS:Hid (s.nm.size <= 1000000 /\ ∀ v ∈ s.vs,v.size <= 1000000):=HSZ
    have HVS4:Hid (Lies V4 s.A (sbs s.vs)):=zH (HOK0.out.lies.below HB4.out)
    have HVG:Hid (Yr values (s.vs.take 0) = some values):=zH rfl
    have h64:=HB4.out.size
    have h65:Wr.heap.size < V4.heap.size:=(aE HX4.out).1
    have h66:=G6.out
    clear ho4 hg4 hn4 hbn HVS HT3 HB3 HXV HCC HD1 HD2 HD3 HBV H0V HWV b0 b1 b2 b3 b4 b5 b6 b7
    go_wp2_with fail
    go_loopw [4,7,8] (fun t4 t _ wr=>∃ (j:Nat) (VB:Option Addr) (vd:Nat) (seen:List BA),j <= s.vs.length /\ t = .int .i64 j /\ t4 = .slice VB seen.length vd /\ seen.length <= 50 * k + j /\ Hid (TwoS W0.heap.size NA4 VB nc4 vd (names ++ [s.nm]) seen wr) /\ Hid (Yr values (s.vs.take j) = some seen) /\ Hid (wr.heap[Wr.heap.size]? = some (.cells #[.string s.nm,.slice s.A s.vs.length s.c,.bool s.L.neg,.slice s.L.A s.L.N.length s.L.c,.slice s.L.B s.L.D.length s.L.d,.bool s.S.neg,.slice s.S.A s.S.N.length s.S.c,.slice s.S.B s.S.D.length s.S.d] 79 (0,0))) /\ Hid (Below W0.heap.size W0 wr)) (fun _ t _ _=>s.vs.length - (intOf t).toNat)
    case atStart=>exact ⟨0,VA,vc,values,by omega,rfl,rfl,by omega,HT4,HVG,HX4,HB4⟩
    case round=>
     obtain ⟨j,VB,vd,seen,hj,rfl,rfl,hsl,HTj,HVj,HXj,HBj⟩:=hrel
     clear HT4 HVG HX4 HB4 HVS4
     obtain ⟨Wj,rfl⟩:∃ X,X = wr:=⟨_,rfl⟩
     have hsj:W0.heap.size <= Wj.heap.size:=HBj.out.size
     have b1:Wj.cell? ⟨Wr.heap.size,1,none⟩ = some (.slice s.A s.vs.length s.c):=(cR 1 HXj.out).trans rfl
     by_cases hjl:j < s.vs.length
     ·have hjl':(j:Int) < (s.vs.length:Int):=by omega
      obtain ⟨bx,ox,eA,hbx,hcx⟩:=(HOK0.out.lies.below HBj.out) (by simp;omega)
      have hcv:=hcx j (.string s.vs[j]) (by simp [gE hjl])
      have hvz:=HSZ.out.2 _ (gM hjl)
      have HNX:=zH (ZcQ HVj.out hjl)
      have HBAD:=zH (ZdC HVj.out hjl)
      have HJV:Hid (Below w.heap.size w Wj):=zH (HB0.out.trans (HBj.out.mono HB0.out.size))
      generalize s.vs[j] = v at *
      rw [eA] at b1
      have HBF:Hid (¬ (Xf v = true /\ v ∉ seen /\ v ≠ Yq /\ v ≠ noB) -> r = false):=zH (fun h=>by rw [HRk.out,HDR.out];exact Zc8 (HBAD.out h))
      have C2:=zH (Um VB vd seen v Wj (Lies.of_own HTj.out.v) (by omega) (decide (v ∈ seen)) (zH rfl))
      clear hcx HBAD eA
      go_wp2_with fail
      refine (ZaX v Wj hvz (Xf v) (zH rfl)).mono ?_
      rintro e w1 ⟨rfl,hw1⟩
      subst hw1
      by_cases g1:Xf v = true
      rotate_left
      ·obtain rfl:=HBF.out (fun h=>g1 h.1)
       rw [Bool.eq_false_iff.2 g1]
       clear g1 HRk HBF HNX
       go_wp2_with fail
       go_ret
       exact ⟨rfl,HJV.out⟩
      have G1:=zH g1
      rw [g1]
      clear g1
      by_cases g2:v ∈ seen
      ·obtain rfl:=HBF.out (fun h=>h.2.1 g2)
       rw [decide_eq_true g2] at C2
       clear g2 HRk HBF HNX
       go_wp2_with fail
       refine C2.out.mono ?_
       rintro e w2 ⟨rfl,rfl⟩
       go_wp2_with fail
       go_ret
       exact ⟨rfl,HJV.out⟩
      have G2:=zH g2
      rw [dF g2] at C2
      clear g2
      by_cases g3:v ≠ Yq
      rotate_left
      ·obtain rfl:=HBF.out (fun h=>g3 h.2.2.1)
       have q3:(v.toList == ([121,101,115]:List UInt8)) = true:=by rw [toList_eq];exact decide_eq_true (Classical.not_not.1 g3)
       clear g3 HRk HBF HNX
       go_wp2_with fail
       refine C2.out.mono ?_
       rintro e w2 ⟨rfl,rfl⟩
       go_wp2_with fail
       go_ret
       exact ⟨rfl,HJV.out⟩
      have G3:=zH g3
      have q3:(v.toList == ([121,101,115]:List UInt8)) = false:=by rw [toList_eq];exact dF g3
      clear g3
      by_cases g4:v ≠ noB
      rotate_left
      ·obtain rfl:=HBF.out (fun h=>g4 h.2.2.2)
       have q4:(v.toList == ([110,111]:List UInt8)) = true:=by rw [toList_eq];exact decide_eq_true (Classical.not_not.1 g4)
       clear g4 HRk HBF HNX
       go_wp2_with fail
       refine C2.out.mono ?_
       rintro e w2 ⟨rfl,rfl⟩
       go_wp2_with fail
       go_ret
       exact ⟨rfl,HJV.out⟩
      have HNX2:Hid (Yr values (s.vs.take (j + 1)) = some (seen ++ [v])):=zH (by rw [HNX.out,if_pos ⟨G1.out,G2.out,G3.out,g4⟩])
      have q4:(v.toList == ([110,111]:List UInt8)) = false:=by rw [toList_eq];exact dF g4
      clear g4 G1 G2 G3 HBF HNX HVj
      go_wp2_with fail
      refine C2.out.mono ?_
      rintro e w2 ⟨rfl,rfl⟩
      have hsz2:seen.length <= 1070:=by omega
      clear C2
      go_wp2_with (at_builtin;refine Jf _ rfl (.tmp 138) (.tmp 140) _ rfl W0.heap.size 9 i0 _ 1 16 Tryz.underlying74 TI.out TZ0.out TZ1.out TZ2.out rfl (by omega) (.slice VB seen.length vd) seen.length (sbs seen) rfl (HTj.out.v.alloc _) (some ⟨w1.heap.size,0,none⟩) 1 1 [.string v] rfl (fun e=>by cases e) (Zr _ _ _) (by simp) (by simp [Value.oneCell']) (by unfold maxLen;omega) (by omega) (by simp;omega) (seen.length + 1) rfl ?_;intro VC ve V5 ho5 hg5 hn5)
      have hbn:Below w1.heap.size w1 (w1.alloc (.cells #[.string v] 9)):=bR.alloc nR _
      rw [Jm] at hg5
      rw [Jm,Jm] at hn5
      have HT5:Hid (TwoS W0.heap.size NA4 VC nc4 ve (names ++ [s.nm]) (seen ++ [v]) V5):=zH ((HTj.out.below hbn).addV ho5 hg5 hn5)
      have HX5:Hid (V5.heap[Wr.heap.size]? = some (.cells #[.string s.nm,.slice s.A s.vs.length s.c,.bool s.L.neg,.slice s.L.A s.L.N.length s.L.c,.slice s.L.B s.L.D.length s.L.d,.bool s.S.neg,.slice s.S.A s.S.N.length s.S.c,.slice s.S.B s.S.D.length s.S.d] 79 (0,0))):=zH ((HTj.out.below hbn).keepV hg5 ((hbn.block _ (aE HXj.out).1).trans HXj.out) (by decide))
      have HB5:Hid (Below W0.heap.size W0 V5):=zH ((HBj.out.trans (hbn.mono HBj.out.size)).grown hg5 (by simp;omega) (fun k hk=>((HTj.out.below hbn).v.lt k (by rw [Jm];exact hk)).1))
      clear ho5 hg5 hn5 hbn HTj HXj HBj HJV b1
      go_wp2_with fail
      exact ⟨⟨j + 1,VC,ve,seen ++ [v],by omega,by go_num,by simp,by simp;omega,HT5,HNX2,HX5,HB5⟩,by simp [intOf];omega⟩
     ·have hjl':¬ (j:Int) < (s.vs.length:Int):=by omega
      have hvg:=HVj.out
      rw [List.take_of_length_le (by omega)] at hvg
      have HRN:Hid (r = Uj (names ++ [s.nm]) seen (Ps.drop (k + 1))):=zH (by rw [HRk.out,HDR.out];exact Zc9 HSL.out hvg)
      have HNL:Hid ((names ++ [s.nm]).length = k + 1):=zH (by simp [hnl.out])
      clear hvg HVj
      go_wp2_with fail
      exact ⟨⟨k + 1,NA4,VB,nc4,vd,names ++ [s.nm],seen,by omega,by go_num,by simp,rfl,HNL,by omega,HTj,HRN,HBj⟩,by simp [intOf];omega⟩
   ·have hlt':¬ (k:Int) < (Ss.length:Int):=by omega
    have HT2:Hid (r = (decide (Yq ∉ names) && decide (noB ∉ names))):=zH (by rw [HRk.out,List.drop_of_length_le (by rw [<- HLN.out];omega)];rfl)
    have C1:=zH (Um NA nc names Yq Wr (Lies.of_own HT.out.n) (by omega) (decide (Yq ∈ names)) (zH rfl))
    have C2:=zH (Um NA nc names noB Wr (Lies.of_own HT.out.n) (by omega) (decide (noB ∈ names)) (zH rfl))
    unfold Yq at C1
    unfold noB at C2
    by_cases g1:Yq ∈ names
    ·have hz:r = false:=by rw [HT2.out,dF (by simpa using g1)];rfl
     subst hz
     have C1':Hid (decide (Yq ∈ names) = true):=zH (decide_eq_true g1)
     unfold Yq at C1'
     rw [C1'.out] at C1
     clear g1 HT2 HRk
     go_wp2_with fail
     refine C1.out.mono ?_
     rintro e w2 ⟨rfl,rfl⟩
     go_wp2_with fail
     go_ret
     exact ⟨rfl,HWk.out⟩
    ·have hz:r = decide (noB ∉ names):=by rw [HT2.out,decide_eq_true (p:=Yq ∉ names) (by simpa using g1),Bool.true_and]
     have C1':Hid (decide (Yq ∈ names) = false):=zH (dF g1)
     unfold Yq at C1'
     rw [C1'.out] at C1
     by_cases g2:noB ∈ names
     ·have hz2:r = false:=by rw [hz,dF (by simpa using g2)]
      subst hz2
      have C2':Hid (decide (noB ∈ names) = true):=zH (decide_eq_true g2)
      unfold noB at C2'
      rw [C2'.out] at C2
      clear g1 g2 HT2 HRk hz
      go_wp2_with fail
      refine C1.out.mono ?_
      rintro e w2 ⟨rfl,rfl⟩
      go_wp2_with fail
      refine C2.out.mono ?_
      rintro e w2 ⟨rfl,rfl⟩
      go_wp2_with fail
      go_ret
      exact ⟨rfl,HWk.out⟩
     ·have hz2:r = true:=by rw [hz,decide_eq_true (p:=noB ∉ names) (by simpa using g2)]
      subst hz2
      have C2':Hid (decide (noB ∈ names) = false):=zH (dF g2)
      unfold noB at C2'
      rw [C2'.out] at C2
      clear g1 g2 HT2 HRk hz
      go_wp2_with fail
      refine C1.out.mono ?_
      rintro e w2 ⟨rfl,rfl⟩
      go_wp2_with fail
      refine C2.out.mono ?_
      rintro e w2 ⟨rfl,rfl⟩
      go_wp2_with fail
      go_ret
      exact ⟨rfl,HWk.out⟩
 ·have hz:r = false:=by
   rw [<- hr.out]
   unfold Va
   rw [dF (by rw [<- hln0];exact hh)]
   rfl
  subst hz
  exact ZcV A c Ss pat prm need w (by omega) hh
end Go.Proofs.YtcjicjfbippmnaaGreat
