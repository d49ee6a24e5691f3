/- TalkGrounds -/
import Derived.Test.YtcjicjfbippmnaaGreatMTGrou42
set_option maxRecDepth 100000
set_option maxHeartbeats 32000000
namespace Go.Proofs.YtcjicjfbippmnaaGreat
open Go.RowKit Ear

theorem Zz {w0 w:World} {F:List (Option Addr × List Value)} (h:Led w0 w F) (cs:Array Value) (t:TypeId) (k:Nat) (hk:w.heap.size = k):Led w0 (w.alloc (.cells cs t)) (F ++ [(some ⟨k,0,none⟩,cs.toList)]):=
 (h.alloc _).row (by subst hk;exact heap_alloc_new w _)
theorem Zgs {w:World} {a:Nat} {l:List Int} (h:Lies w (some ⟨a,0,none⟩) (ics l)) (hl:l.length <= 1000000) (hb:∀ y ∈ l,-9223372036854775808 <= y /\ y <= 9223372036854775807):InOk w (some ⟨a,0,none⟩,l.length,l):=
 ⟨h,(fun e=>by cases e),tR hl (by decide),Nat.le_refl _,hb⟩
theorem Zh6 {w:World} {g a:Nat} {l1:List Int} (h:Lies w (some ⟨g,0,none⟩) [.slice (some ⟨a,0,none⟩) l1.length l1.length]) (h1:InOk w (some ⟨a,0,none⟩,l1.length,l1)):LL w (some ⟨g,0,none⟩) [(some ⟨a,0,none⟩,l1.length,l1)]:=
 ⟨h,fun x hx=>by rw [List.mem_singleton] at hx;subst hx;exact h1⟩
theorem ZiX {w:World} {g a b:Nat} {l1 l2:List Int} (h:Lies w (some ⟨g,0,none⟩) [.slice (some ⟨a,0,none⟩) l1.length l1.length,.slice (some ⟨b,0,none⟩) l2.length l2.length]) (h1:InOk w (some ⟨a,0,none⟩,l1.length,l1)) (h2:InOk w (some ⟨b,0,none⟩,l2.length,l2)) :
  LL w (some ⟨g,0,none⟩) [(some ⟨a,0,none⟩,l1.length,l1),(some ⟨b,0,none⟩,l2.length,l2)]:=
 ⟨h,fun x hx=>by
  rcases List.mem_cons.1 hx with rfl | hx
  ·exact h1
  ·rw [List.mem_singleton] at hx;subst hx;exact h2⟩
theorem ZiE (a b c d e:Nat) (w:World) (h0:Lies w (some ⟨a,0,none⟩) [.int .i64 0]) (h1:Lies w (some ⟨b,0,none⟩) [.int .i64 0]) (h2:Lies w (some ⟨c,0,none⟩) [.slice (some ⟨a,0,none⟩) 1 1,.slice (some ⟨b,0,none⟩) 1 1]) (h3:Lies w (some ⟨d,0,none⟩) [.int .i64 3]) (h4:Lies w (some ⟨e,0,none⟩) [.slice (some ⟨d,0,none⟩) 1 1]) :
  Calls Tryz.prog 15 #[.slice (some ⟨c,0,none⟩) 2 2,.slice (some ⟨e,0,none⟩) 1 1] w (ZgC 0 ((6:Int):Rat) w):=by
 have:=Zfg (some ⟨c,0,none⟩) (some ⟨e,0,none⟩) 2 1 [(some ⟨a,0,none⟩,1,[0]),(some ⟨b,0,none⟩,1,[0])] [(some ⟨d,0,none⟩,1,[3])] w
  (ZiX (l1:=[0]) (l2:=[0]) h2 (Zgs h0 (by decide) (by decide)) (Zgs h1 (by decide) (by decide))) (Zh6 (l1:=[3]) h4 (Zgs h3 (by decide) (by decide))) (by simp) (by simp) 0 (zH Zh0)
 rw [show Ziy 0 (JE [(some ⟨a,0,none⟩,1,[0]),(some ⟨b,0,none⟩,1,[0])]) (JE [((some ⟨d,0,none⟩:Option Addr),1,[3])]) = ((6:Int):Rat) from Zh1] at this
 exact this
theorem ZiH (a b c d e f g:Nat) (x:Fr) (w:World) (h0:Lies w (some ⟨a,0,none⟩) [.int .i64 0]) (h1:Lies w (some ⟨b,0,none⟩) [.slice (some ⟨a,0,none⟩) 1 1]) (h2:Lies w (some ⟨c,0,none⟩) [.int .i64 9]) (h3:Lies w (some ⟨d,0,none⟩) [.slice (some ⟨c,0,none⟩) 1 1])
  (h4:Lies w (some ⟨e,0,none⟩) [.int .i64 1]) (h5:Lies w (some ⟨f,0,none⟩) [.slice (some ⟨e,0,none⟩) 1 1]) (h6:Lies w (some ⟨g,0,none⟩) [.slice (some ⟨b,0,none⟩) 1 1,.slice (some ⟨d,0,none⟩) 1 1,.slice (some ⟨f,0,none⟩) 1 1]) (hx:Fq w x (mkRat 1 2)) :
  Calls Tryz.prog 23 #[.slice (some ⟨g,0,none⟩) 3 3,.int .i64 3,x.val] w (Zhv [0,1,0] w):=by
 have hs:Sz (mkRat 1 2) 90000:=UC (by decide +kernel) (by decide +kernel)
 have:=Zdt (some ⟨g,0,none⟩) 3 [(some ⟨b,0,none⟩,1,[(some ⟨a,0,none⟩,1,[0])]),(some ⟨d,0,none⟩,1,[(some ⟨c,0,none⟩,1,[9])]),(some ⟨f,0,none⟩,1,[(some ⟨e,0,none⟩,1,[1])])] 3 x (mkRat 1 2) w
  ⟨h6,fun y hy=>by
   rcases List.mem_cons.1 hy with rfl | hy
   ·exact Zh6 (l1:=[0]) h1 (Zgs h0 (by decide) (by decide))
   ·rcases List.mem_cons.1 hy with rfl | hy
    ·exact Zh6 (l1:=[9]) h3 (Zgs h2 (by decide) (by decide))
    ·rw [List.mem_singleton] at hy
     subst hy
     exact Zh6 (l1:=[1]) h5 (Zgs h4 (by decide) (by decide))⟩ (zH ZgY) (by decide) hx.fv (hx.few hs) (by decide +kernel)
 replace this:Calls Tryz.prog 23 #[.slice (some ⟨g,0,none⟩) 3 3,.int .i64 3,x.val] w (Zhv (ZhA (clu 3 (mkRat 1 2) 3 (Xh [[[0]],[[9]],[[1]]])) 3) w):=this
 rw [Zh4] at this
 exact this
theorem ZiG (a b:Nat) (w:World) (h0:Lies w (some ⟨a,0,none⟩) [.int .i64 1]) (h1:Lies w (some ⟨b,0,none⟩) [.slice (some ⟨a,0,none⟩) 1 1]) :
  Calls Tryz.prog 53 #[.int .i64 1,.int .i64 1,.slice (some ⟨b,0,none⟩) 1 1] w fun e w'=>∃ A' c' L',e = .returned (.agg #[.int .i64 1,.int .i64 1,.slice A' (L':List Gm).length c']) /\ GLo w' w.heap.size A' c' L' /\ Jk L' = [([0],1),([1],1)] /\ RowKit.Below w.heap.size w w':=by
 have:=ZcT 1 1 (some ⟨b,0,none⟩) 1 (some ⟨a,0,none⟩,1,[1]) w (Zh6 (l1:=[1]) h1 (Zgs h0 (by decide) (by decide))) (by decide) (by decide) (by simp)
 replace this:Calls Tryz.prog 53 #[.int .i64 1,.int .i64 1,.slice (some ⟨b,0,none⟩) 1 1] w fun e w'=>∃ A' c' L',e = .returned (.agg #[.int .i64 1,.int .i64 1,.slice A' (L':List Gm).length c']) /\ GLo w' w.heap.size A' c' L' /\ Jk L' = Zdi 1 [1] 2 /\ RowKit.Below w.heap.size w w':=this
 rw [Zh2] at this
 exact this
theorem ZiD (A:Option Addr) (c:Nat) (L:List Gm) (w:World) (base:Nat) (h:GLo w base A c L) (ht:Jk L = [([0],1),([1],1)]) :
  Calls Tryz.prog 41 #[.agg #[.int .i64 1,.int .i64 1,.slice A L.length c]] w fun e w'=>RowKit.Below w.heap.size w w' /\ ∃ p B t,e = .returned (.tuple #[.pointer (some ⟨p,0,none⟩),.int .i64 0]) /\ LrI w' w.heap.size p B 1 [t] /\ t.o = 1 /\ t.v = 1 /\ Jk t.L = [([0],1),([1],1)] /\ w.heap.size <= p:=by
 have hl:L.length = 2:=by have:=congrArg List.length ht;simpa using this
 refine (ZeZ 1 1 A c L w h.tb h.nilA (by omega) 0 (zH (by rw [ht];exact Zgr))).mono ?_
 rintro e w' ⟨hb,hr⟩
 rw [if_pos rfl] at hr
 obtain ⟨p,B,t,he,hL,h1,h2,h3,h4⟩:=hr
 exact ⟨hb,p,B,t,he,hL,h1,h2,h3.trans ht,h4⟩
theorem ZiB {α:Type} {l:List α} {a b : α} (h:l.Perm [a,b]):l = [a,b] ∨ l = [b,a]:=by
 have hl:=h.length_eq
 match l,hl with
 | [x,y],_=>
  rcases List.mem_cons.1 (h.mem_iff.1 (List.mem_cons_self (a:=x))) with rfl | h1
  ·have h2:=(List.perm_cons x).1 h
   have:=List.perm_singleton.1 h2
   injection this with e
   exact .inl (by rw [e])
  ·rw [List.mem_singleton] at h1
   subst h1
   have h2:[x,y].Perm [x,a]:=h.trans (List.Perm.swap _ _ _)
   have h3:=(List.perm_cons x).1 h2
   have:=List.perm_singleton.1 h3
   injection this with e
   exact .inr (by rw [e])
theorem ZiF (base p:Nat) (B:Option Addr) (t:TT) (S:Option Addr) (sc:Nat) (w:World) (h:LrI w base p B 1 [t]) (hb:base <= w.heap.size) (hbp:base <= p) (ho:t.o = 1) (hv:t.v = 1) (ht:Jk t.L = [([0],1),([1],1)]) (hI:InOk w (S,sc,[1,1])) :
  Calls Tryz.prog 43 #[.pointer (some ⟨p,0,none⟩),.slice S 2 sc,.int .i64 2] w fun e w'=>e = .returned (.int .i64 0) /\ ∃ B' cap' t2,LrI w' base p B' cap' [t,t2] /\ t2.o = 1 /\ t2.v = 1 /\ Jk t2.L = [([0],3),([1],5)] /\ Two w w' p (blk B):=by
 refine (Zds base p 1 1 1 B [] t S sc [1,1] 2 w h hb hbp ho hv hI (by decide) (by decide) (by decide) (by decide)).mono ?_
 rintro e w' ⟨T1,hp,he,hif⟩
 have e1:(YE 1 [1,1] ([1,1]:List Int).length.succ).map (fun q=>(gmW 1 q.1,q.2 * (2:Int))) = [([1],4),([0],2)]:=by
  rw [show YE 1 [1,1] ([1,1]:List Int).length.succ = [(kOf [1],2),(kOf [0],1)] from Zh3]
  decide +kernel
 have hp':T1.Perm [([1],4),([0],2)]:=by rw [<- e1];exact hp
 have hc:Qj (mrg (mrg [] (Jk t.L)) T1) = 0:=by
  rw [ht]
  rcases ZiB hp' with h1 | h1
  ·rw [h1];exact Zg0
  ·rw [h1];exact ZgZ
 rw [if_pos hc] at hif
 obtain ⟨B',cap',t2,hL,ho2,hv2,hperm,hTwo,_⟩:=hif
 refine ⟨by rw [he,hc],B',cap',t2,hL,ho2,hv2,?_,hTwo⟩
 have ht2:=(hL.tab t2 (by simp)).ok
 rw [ho2,hv2] at ht2
 refine ZhK (o:=1) ht2 ZgW fun k=>?_
 have hval:=Zhn (o:=1) (v:=1) (n:=2) (s:=[1,1]) (T:=Jk t.L) (T1:=T1) (T2:=Jk t2.L) (by decide) (by decide) (by decide) (by rw [ht];exact Zgr) hp hperm k
 rw [hval,ht]
 unfold ZiJ
 rw [show (YE 1 [1,1] (([1,1]:List Int).length + 1)).map (fun q=>(gmW 1 q.1,q.2 * (2:Int))) = [([1],4),([0],2)] from e1]
 simp only [ZP]
 split <;> split <;> omega
end Go.Proofs.YtcjicjfbippmnaaGreat
