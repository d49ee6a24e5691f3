/- TalkClusters -/
import Derived.Test.YtcjicjfbippmnaaGreatMTClus41
set_option maxRecDepth 100000
set_option maxHeartbeats 32000000
namespace Go.Proofs.YtcjicjfbippmnaaGreat
open Go.RowKit Ear

def UC (v:Value):Prop:=ZaV v /\ ∀ s,v ≠ .string s
structure Off (w w':World) (p q:Nat):Prop where
 size:w'.heap.size = w.heap.size
 ap:AllC UC w p
 aq:AllC UC w q
 block:∀ k,k ≠ p -> k ≠ q -> w'.heap[k]? = w.heap[k]?
theorem Off.lies {w w':World} {p q:Nat} (h:Off w w' p q) {A:Option Addr} {x0:Value} {xs:List Value} (hl:Lies w A xs) (h0:xs[0]? = some x0) (hx:¬ UC x0):Lies w' A xs:=fun hh=>by
 obtain ⟨b,off,e,hb,hc⟩:=hl hh;have c0:=hc 0 x0 h0;have hp:b ≠ p:=by rintro rfl;exact hx (h.ap.cell c0)
 have hq:b ≠ q:=by rintro rfl;exact hx (h.aq.cell c0)
 exact ⟨b,off,e,by rw [h.size];exact hb,fun k v hv=>(World.cell?_of_block (a:=⟨b,off + k,none⟩) (h.block b hp hq)).trans (hc k v hv)⟩
theorem Off.strs {w w':World} {p q:Nat} (h:Off w w' p q) {A:Option Addr} {l:List BA} (hl:Lies w A (sbs l)):Lies w' A (sbs l):=by
 cases l with
 | nil=>intro hh;simp at hh
 | cons s l=>exact h.lies hl (x0:=.string s) rfl (fun hx=>hx.2 s rfl)
theorem Off.digs {w w':World} {p q:Nat} (h:Off w w' p q) {A:Option Addr} {l:List Int} (hl:Lies w A (ucs l)):Lies w' A (ucs l):=by
 cases l with
 | nil=>intro hh;simp at hh
 | cons s l=>exact h.lies hl (x0:=.int .u32 s) rfl (fun hx=>hx.1 s rfl)
theorem Off.dg {w w':World} {p q:Nat} (h:Off w w' p q) {A:Option Addr} {c:Nat} {l:List Int} (hl:Dg w A c l):Dg w' A c l:=⟨h.digs hl.lies,hl.dig,hl.cap,hl.nil⟩
theorem Off.fv {w w':World} {p q:Nat} (h:Off w w' p q) {x:Fr} {r:Rat} (hl:Fv w x r):Fv w' x r:=⟨h.dg hl.n,h.dg hl.d,hl.val⟩
theorem Off.plm {w w':World} {p q:Nat} (h:Off w w' p q) {A:Option Addr} {Ss:List SlM} {Ps:List PSl} (hl:PlM w A Ss Ps):PlM w' A Ss Ps:=by
 refine ⟨?_,hl.len,fun k s P h1 h2=>?_⟩
 ·cases Ss with
  | nil=>intro hh;simp [VQ] at hh
  | cons s l=>exact h.lies hl.lies (x0:=.string s.nm) rfl (fun hx=>hx.2 _ rfl)
 ·have:=hl.ok k s P h1 h2;exact ⟨this.nm,this.vs,h.strs this.lies,this.nil,h.fv this.L,h.fv this.S,this.fL,this.fS⟩
def back (w w':World) (p q:Nat):World:={ w' with heap:=(w'.heap.setIfInBounds p (w.heap[p]?.getD default)).setIfInBounds q (w.heap[q]?.getD default) }
theorem DlM.off {w w':World} {bs:Nat} {a:DlA} {D:PDl} {p q:Nat} (h:DlM w bs a D) (hs:w.heap.size <= w'.heap.size) (ap:AllC UC w p) (aq:AllC UC w q) (hb:∀ k,k < w.heap.size -> k ≠ p -> k ≠ q -> w'.heap[k]? = w.heap[k]?)
  (tp:∃ e,BT w p e /\ e ≠ 133 /\ e ≠ 76 /\ e ≠ 9) (tq:∃ e,BT w q e /\ e ≠ 133 /\ e ≠ 76 /\ e ≠ 9):DlM w' bs a D:=by
 obtain ⟨ep,hp,p1,p2,p3⟩:=tp;obtain ⟨eq,hq,q1,q2,q3⟩:=tq;have own:∀ {base size n:Nat} {e:TypeId} {v:Value} {xs:List Value},w.ownsRow base e size v n xs -> e ≠ ep -> e ≠ eq -> w'.ownsRow base e size v n xs:=fun {base size n e v xs} ho h1 h2=>by
  obtain ⟨r1,r2⟩:=ho;refine ⟨r1,?_⟩;rcases r2 with e0 | ⟨g,cap,cur,e0,hg,hgg,rest⟩
  ·exact .inl e0
  ·exact .inr ⟨g,cap,cur,e0,hg,(hb g (BT.lt ⟨_,_,hgg⟩) (BT.ne ⟨_,_,hgg⟩ hp h1) (BT.ne ⟨_,_,hgg⟩ hq h2)).trans hgg,rest⟩
 have hbq:BT w a.q 133:=⟨_,_,h.cell⟩;refine ⟨(hb a.q hbq.lt (hbq.ne hp p1.symm) (hbq.ne hq q1.symm)).trans h.cell,fun w2 hs2 hk=>?_,own h.row p2.symm q2.symm,fun f hf=>own (h.ref f hf) p3.symm q3.symm,h.apart,h.pure,h.len,h.pos,h.lt.1,h.lt.2.1,tR h.lt.2.2 hs⟩;have hpl:=hp.lt;have hql:=hq.lt;have e1:(back w w2 p q).heap[p]? = w.heap[p]?:=by
  unfold back;by_cases e:p = q
  ·subst e;simp [show p < w2.heap.size by omega,Array.getElem?_eq_getElem hpl]
  ·simp [show p < w2.heap.size by omega,Array.getElem?_eq_getElem hpl,Ne.symm e]
 have e2:(back w w2 p q).heap[q]? = w.heap[q]?:=by
  unfold back;simp [show q < w2.heap.size by omega,Array.getElem?_eq_getElem hql]
 have e3:∀ k,k ≠ p -> k ≠ q -> (back w w2 p q).heap[k]? = w2.heap[k]?:=fun k h1 h2=>by
  unfold back;simp [Ne.symm h1,Ne.symm h2]
 have e4:(back w w2 p q).heap.size = w2.heap.size:=by simp [back]
 have h1:PlM (back w w2 p q) a.PA a.Ss D.S:=h.stab _ (by rw [e4];omega) (fun b b1 b2 b3=>by
  by_cases c1:b = p
  ·rw [c1];exact e1
  ·by_cases c2:b = q
   ·rw [c2];exact e2
   ·exact (e3 b c1 c2).trans ((hk b b1 b2 b3).trans (hb b (Nat.lt_of_lt_of_le b1 h.lt.2.2) c1 c2)))
 exact Off.plm (w:=back w w2 p q) (p:=p) (q:=q) ⟨e4.symm,ap.block e1,aq.block e2,fun k k1 k2=>(e3 k k1 k2).symm⟩ h1
theorem Zz {w0 w:World} {F:List (Option Addr × List Value)} (h:Led w0 w F) (cs:Array Value) (t:TypeId) (k:Nat) (hk:w.heap.size = k):Led w0 (w.alloc (.cells cs t)) (F ++ [(some ⟨k,0,none⟩,cs.toList)]):=
 (h.alloc _).row (by subst hk;exact heap_alloc_new w _)
theorem Zgm {w:World} {a:Nat} {l:List Int} (h:Lies w (some ⟨a,0,none⟩) (ics l)) (hl:l.length <= 1000000) (hb:∀ y ∈ l,-9223372036854775808 <= y /\ y <= 9223372036854775807):InOk w (some ⟨a,0,none⟩,l.length,l):=
 ⟨h,(fun e=>by cases e),tR hl (by decide),Nat.le_refl _,hb⟩
theorem Zh7 {w:World} {g a:Nat} {l1:List Int} (h:Lies w (some ⟨g,0,none⟩) [.slice (some ⟨a,0,none⟩) l1.length l1.length]) (h1:InOk w (some ⟨a,0,none⟩,l1.length,l1)):LL w (some ⟨g,0,none⟩) [(some ⟨a,0,none⟩,l1.length,l1)]:=
 ⟨h,fun x hx=>by rw [List.mem_singleton] at hx;subst hx;exact h1⟩
theorem ZiZ {w:World} {g a b:Nat} {l1 l2:List Int} (h:Lies w (some ⟨g,0,none⟩) [.slice (some ⟨a,0,none⟩) l1.length l1.length,.slice (some ⟨b,0,none⟩) l2.length l2.length]) (h1:InOk w (some ⟨a,0,none⟩,l1.length,l1)) (h2:InOk w (some ⟨b,0,none⟩,l2.length,l2)) :
  LL w (some ⟨g,0,none⟩) [(some ⟨a,0,none⟩,l1.length,l1),(some ⟨b,0,none⟩,l2.length,l2)]:=
 ⟨h,fun x hx=>by
  rcases List.mem_cons.1 hx with rfl | hx
  ·exact h1
  ·rw [List.mem_singleton] at hx;subst hx;exact h2⟩
theorem ZiF (a b c d e:Nat) (w:World) (h0:Lies w (some ⟨a,0,none⟩) [.int .i64 0]) (h1:Lies w (some ⟨b,0,none⟩) [.int .i64 0]) (h2:Lies w (some ⟨c,0,none⟩) [.slice (some ⟨a,0,none⟩) 1 1,.slice (some ⟨b,0,none⟩) 1 1]) (h3:Lies w (some ⟨d,0,none⟩) [.int .i64 3]) (h4:Lies w (some ⟨e,0,none⟩) [.slice (some ⟨d,0,none⟩) 1 1]) :
  Calls Tryz.prog 15 #[.slice (some ⟨c,0,none⟩) 2 2,.slice (some ⟨e,0,none⟩) 1 1] w (ZgA 0 ((6:Int):Rat) w):=by
 have:=Ze8 (some ⟨c,0,none⟩) (some ⟨e,0,none⟩) 2 1 [(some ⟨a,0,none⟩,1,[0]),(some ⟨b,0,none⟩,1,[0])] [(some ⟨d,0,none⟩,1,[3])] w
  (ZiZ (l1:=[0]) (l2:=[0]) h2 (Zgm h0 (by decide) (by decide)) (Zgm h1 (by decide) (by decide))) (Zh7 (l1:=[3]) h4 (Zgm h3 (by decide) (by decide))) (by simp) (by simp) 0 (zH Zh1)
 rw [show Ziy 0 (Jk [(some ⟨a,0,none⟩,1,[0]),(some ⟨b,0,none⟩,1,[0])]) (Jk [((some ⟨d,0,none⟩:Option Addr),1,[3])]) = ((6:Int):Rat) from Zh2] at this;exact this
theorem ZiI (a b c d e f g:Nat) (x:Fr) (w:World) (h0:Lies w (some ⟨a,0,none⟩) [.int .i64 0]) (h1:Lies w (some ⟨b,0,none⟩) [.slice (some ⟨a,0,none⟩) 1 1]) (h2:Lies w (some ⟨c,0,none⟩) [.int .i64 9]) (h3:Lies w (some ⟨d,0,none⟩) [.slice (some ⟨c,0,none⟩) 1 1])
  (h4:Lies w (some ⟨e,0,none⟩) [.int .i64 1]) (h5:Lies w (some ⟨f,0,none⟩) [.slice (some ⟨e,0,none⟩) 1 1]) (h6:Lies w (some ⟨g,0,none⟩) [.slice (some ⟨b,0,none⟩) 1 1,.slice (some ⟨d,0,none⟩) 1 1,.slice (some ⟨f,0,none⟩) 1 1]) (hx:Fq w x (mkRat 1 2)) :
  Calls Tryz.prog 23 #[.slice (some ⟨g,0,none⟩) 3 3,.int .i64 3,x.val] w (ZhB [0,1,0] w):=by
 have hs:Sz (mkRat 1 2) 90000:=Ur (by decide +kernel) (by decide +kernel);have:=QR (some ⟨g,0,none⟩) 3 [(some ⟨b,0,none⟩,1,[(some ⟨a,0,none⟩,1,[0])]),(some ⟨d,0,none⟩,1,[(some ⟨c,0,none⟩,1,[9])]),(some ⟨f,0,none⟩,1,[(some ⟨e,0,none⟩,1,[1])])] 3 x (mkRat 1 2) w
  ⟨h6,fun y hy=>by
   rcases List.mem_cons.1 hy with rfl | hy
   ·exact Zh7 (l1:=[0]) h1 (Zgm h0 (by decide) (by decide))
   ·rcases List.mem_cons.1 hy with rfl | hy
    ·exact Zh7 (l1:=[9]) h3 (Zgm h2 (by decide) (by decide))
    ·rw [List.mem_singleton] at hy;subst hy;exact Zh7 (l1:=[1]) h5 (Zgm h4 (by decide) (by decide))⟩ (zH ZgZ) (by decide) hx.fv (hx.few hs) (by decide +kernel)
 replace this:Calls Tryz.prog 23 #[.slice (some ⟨g,0,none⟩) 3 3,.int .i64 3,x.val] w (ZhB (Zdk (clu 3 (mkRat 1 2) 3 (JL [[[0]],[[9]],[[1]]])) 3) w):=this;rw [Zh5] at this;exact this
theorem ZiH (a b:Nat) (w:World) (h0:Lies w (some ⟨a,0,none⟩) [.int .i64 1]) (h1:Lies w (some ⟨b,0,none⟩) [.slice (some ⟨a,0,none⟩) 1 1]) :
  Calls Tryz.prog 53 #[.int .i64 1,.int .i64 1,.slice (some ⟨b,0,none⟩) 1 1] w fun e w'=>∃ A' c' L',e = .returned (.agg #[.int .i64 1,.int .i64 1,.slice A' (L':List Gm).length c']) /\ GLo w' w.heap.size A' c' L' /\ Jl L' = [([0],1),([1],1)] /\ RowKit.Below w.heap.size w w':=by
 have:=ZcP 1 1 (some ⟨b,0,none⟩) 1 (some ⟨a,0,none⟩,1,[1]) w (Zh7 (l1:=[1]) h1 (Zgm h0 (by decide) (by decide))) (by decide) (by decide) (by simp);replace this:Calls Tryz.prog 53 #[.int .i64 1,.int .i64 1,.slice (some ⟨b,0,none⟩) 1 1] w fun e w'=>∃ A' c' L',e = .returned (.agg #[.int .i64 1,.int .i64 1,.slice A' (L':List Gm).length c']) /\ GLo w' w.heap.size A' c' L' /\ Jl L' = Zc7 1 [1] 2 /\ RowKit.Below w.heap.size w w':=this;rw [Zh3] at this;exact this
theorem ZiE (A:Option Addr) (c:Nat) (L:List Gm) (w:World) (base:Nat) (h:GLo w base A c L) (ht:Jl L = [([0],1),([1],1)]) :
  Calls Tryz.prog 41 #[.agg #[.int .i64 1,.int .i64 1,.slice A L.length c]] w fun e w'=>RowKit.Below w.heap.size w w' /\ ∃ p B t,e = .returned (.tuple #[.pointer (some ⟨p,0,none⟩),.int .i64 0]) /\ LrI w' w.heap.size p B 1 [t] /\ t.o = 1 /\ t.v = 1 /\ Jl t.L = [([0],1),([1],1)] /\ w.heap.size <= p:=by
 have hl:L.length = 2:=by have:=congrArg List.length ht;simpa using this
 refine (ZeU 1 1 A c L w h.tb h.nilA (by omega) 0 (zH (by rw [ht];exact Zgl))).mono ?_;rintro e w' ⟨hb,hr⟩;rw [if_pos rfl] at hr;obtain ⟨p,B,t,he,hL,h1,h2,h3,h4⟩:=hr;exact ⟨hb,p,B,t,he,hL,h1,h2,h3.trans ht,h4⟩
theorem ZiB {α:Type} {l:List α} {a b : α} (h:l.Perm [a,b]):l = [a,b] ∨ l = [b,a]:=by
 have hl:=h.length_eq
 match l,hl with
 | [x,y],_=>
  rcases List.mem_cons.1 (h.mem_iff.1 (List.mem_cons_self (a:=x))) with rfl | h1
  ·have h2:=(List.perm_cons x).1 h;have:=List.perm_singleton.1 h2;injection this with e
   exact .inl (by rw [e])
  ·rw [List.mem_singleton] at h1;subst h1;have h2:[x,y].Perm [x,a]:=h.trans (List.Perm.swap _ _ _);have h3:=(List.perm_cons x).1 h2;have:=List.perm_singleton.1 h3;injection this with e
   exact .inr (by rw [e])
theorem ZiG (base p:Nat) (B:Option Addr) (t:TT) (S:Option Addr) (sc:Nat) (w:World) (h:LrI w base p B 1 [t]) (hb:base <= w.heap.size) (hbp:base <= p) (ho:t.o = 1) (hv:t.v = 1) (ht:Jl t.L = [([0],1),([1],1)]) (hI:InOk w (S,sc,[1,1])) :
  Calls Tryz.prog 43 #[.pointer (some ⟨p,0,none⟩),.slice S 2 sc,.int .i64 2] w fun e w'=>e = .returned (.int .i64 0) /\ ∃ B' cap' t2,LrI w' base p B' cap' [t,t2] /\ t2.o = 1 /\ t2.v = 1 /\ Jl t2.L = [([0],3),([1],5)] /\ Two w w' p (blk B):=by
 refine (Zdg base p 1 1 1 B [] t S sc [1,1] 2 w h hb hbp ho hv hI (by decide) (by decide) (by decide) (by decide)).mono ?_;rintro e w' ⟨T1,hp,he,hif⟩;have e1:(YD 1 [1,1] ([1,1]:List Int).length.succ).map (fun q=>(gmW 1 q.1,q.2 * (2:Int))) = [([1],4),([0],2)]:=by
  rw [show YD 1 [1,1] ([1,1]:List Int).length.succ = [(kOf [1],2),(kOf [0],1)] from Zh4];decide +kernel
 have hp':T1.Perm [([1],4),([0],2)]:=by rw [<- e1];exact hp
 have hc:U4 (mrg (mrg [] (Jl t.L)) T1) = 0:=by
  rw [ht];rcases ZiB hp' with h1 | h1
  ·rw [h1];exact Zg1
  ·rw [h1];exact Zg0
 rw [if_pos hc] at hif;obtain ⟨B',cap',t2,hL,ho2,hv2,hperm,hTwo,_⟩:=hif;refine ⟨by rw [he,hc],B',cap',t2,hL,ho2,hv2,?_,hTwo⟩;have ht2:=(hL.tab t2 (by simp)).ok;rw [ho2,hv2] at ht2;refine ZhM (o:=1) ht2 ZgX fun k=>?_;have hval:=Zhs (o:=1) (v:=1) (n:=2) (s:=[1,1]) (T:=Jl t.L) (T1:=T1) (T2:=Jl t2.L) (by decide) (by decide) (by decide) (by rw [ht];exact Zgl) hp hperm k;rw [hval,ht];unfold ZiN;rw [show (YD 1 [1,1] (([1,1]:List Int).length + 1)).map (fun q=>(gmW 1 q.1,q.2 * (2:Int))) = [([1],4),([0],2)] from e1];simp only [ZJ];split <;> split <;> omega
end Go.Proofs.YtcjicjfbippmnaaGreat
