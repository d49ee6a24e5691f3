/- TalkNil -/
import Derived.Test.YtfbdihpllmhcnaaGreatDoorMTNil12
set_option maxRecDepth 100000
set_option maxHeartbeats 32000000
namespace Ear
open Go.Proofs.YtfbdihpllmhcnaaGreatDoor (Vcs)

abbrev Q0:=Option (Nat × Nat × Rat)
def upd (G:Nat -> Nat -> Rat) (acc:Q0) (i j:Nat):Q0:=
 match acc with
 | none=>some (i,j,G i j)
 | some (a,b,q)=>if G i j < q then some (i,j,G i j) else some (a,b,q)
def Za8 (G:Nat -> Nat -> Rat) (i:Nat) (acc:Q0):Nat -> Q0
 | 0=>acc
 | k + 1=>upd G (Za8 G i acc k) i (i + 1 + k)
def Yd (G:Nat -> Nat -> Rat) (n:Nat):Nat -> Q0
 | 0=>none
 | i + 1=>Za8 G i (Yd G n i) (n - (i + 1))
def nA:Q0 -> Int | none=>-1 | some (a,_,_)=>a
def nB:Q0 -> Int | none=>-1 | some (_,b,_)=>b
def nQ:Q0 -> Rat | none=>((0:Int):Rat) | some (_,_,q)=>q
def NearOk (G:Nat -> Nat -> Rat) (n:Nat) (P:Nat -> Nat -> Prop) (acc:Q0):Prop:=
 match acc with
 | none=>∀ i j,¬ P i j
 | some (a,b,q)=>a < b /\ b < n /\ P a b /\ q = G a b /\ ∀ i j,P i j -> q <= G i j
theorem NearOk.upd {G:Nat -> Nat -> Rat} {n:Nat} {P P':Nat -> Nat -> Prop} {acc:Q0} {i j:Nat} (h:NearOk G n P acc) (hij:i < j) (hj:j < n) (hP:∀ x y,P' x y ↔ P x y ∨ (x = i /\ y = j)):NearOk G n P' (upd G acc i j):=by
 unfold Ear.upd
 cases acc with
 | none=>
  refine ⟨hij,hj,(hP _ _).2 (.inr ⟨rfl,rfl⟩),rfl,fun x y hxy=>?_⟩
  rcases (hP _ _).1 hxy with h1 | ⟨rfl,rfl⟩
  ·exact absurd h1 (h x y)
  ·exact Rat.le_refl
 | some t=>
  obtain ⟨a,b,q⟩:=t
  obtain ⟨h1,h2,h3,h4,h5⟩:=h
  simp only
  split
  ·rename_i hlt
   refine ⟨hij,hj,(hP _ _).2 (.inr ⟨rfl,rfl⟩),rfl,fun x y hxy=>?_⟩
   rcases (hP _ _).1 hxy with h6 | ⟨rfl,rfl⟩
   ·exact Rat.le_trans (Rat.le_of_lt hlt) (h5 x y h6)
   ·exact Rat.le_refl
  ·rename_i hlt
   refine ⟨h1,h2,(hP _ _).2 (.inl h3),h4,fun x y hxy=>?_⟩
   rcases (hP _ _).1 hxy with h6 | ⟨rfl,rfl⟩
   ·exact h5 x y h6
   ·exact Rat.not_lt.1 hlt
theorem Zde {G:Nat -> Nat -> Rat} {n i:Nat} {acc:Q0} (h:NearOk G n (fun x y=>x < i /\ x < y /\ y < n) acc):∀ k,i + k < n -> NearOk G n (fun x y=>(x < i /\ x < y /\ y < n) ∨ (x = i /\ i < y /\ y < i + 1 + k)) (Za8 G i acc k):=by
 intro k
 induction k with
 | zero=>
  intro _
  show NearOk G n _ acc
  have e:(fun x y=>(x < i /\ x < y /\ y < n) ∨ (x = i /\ i < y /\ y < i + 1 + 0)) = fun x y=>x < i /\ x < y /\ y < n:=by
   funext x y
   apply propext
   constructor
   ·rintro (h | h)
    ·exact h
    ·omega
   ·exact .inl
  rw [e]
  exact h
 | succ k ih=>
  intro hk
  exact (ih (by omega)).upd (by omega) (by omega) (fun x y=>by omega)
theorem ZbM {G:Nat -> Nat -> Rat} {n:Nat}:∀ i,i <= n -> NearOk G n (fun x y=>x < i /\ x < y /\ y < n) (Yd G n i):=by
 intro i
 induction i with
 | zero=>intro _ x y h;omega
 | succ i ih=>
  intro hi
  have h:=Zde (ih (by omega)) (n - (i + 1)) (by omega)
  have e:(fun x y=>(x < i /\ x < y /\ y < n) ∨ (x = i /\ i < y /\ y < i + 1 + (n - (i + 1)))) = fun x y=>x < i + 1 /\ x < y /\ y < n:=by
   funext x y
   apply propext
   omega
  rw [e] at h
  exact h
theorem Zcs {G:Nat -> Nat -> Rat} {n:Nat} (hn : 1 < n):∃ a b q,Yd G n n = some (a,b,q) /\ a < b /\ b < n /\ q = G a b /\ ∀ i j,i < j -> j < n -> q <= G i j:=by
 have h:=ZbM (G:=G) (n:=n) n nR
 cases hs:Yd G n n with
 | none=>rw [hs] at h;exact absurd ⟨by omega,by omega,hn⟩ (h 0 1)
 | some t=>
  obtain ⟨a,b,q⟩:=t
  rw [hs] at h
  obtain ⟨h1,h2,_,h4,h5⟩:=h
  exact ⟨a,b,q,rfl,h1,h2,h4,fun i j hi hj=>h5 i j ⟨by omega,hi,hj⟩⟩
abbrev Clu:=List Int × List (List Int)
def cG (S:List Clu) (i j:Nat):Rat:=Zfo (S[i]?.getD ([],[])).2 (S[j]?.getD ([],[])).2
def Zg9 (S:List Clu):Q0:=Yd (cG S) S.length S.length
def QI (S:List Clu) (a b:Nat):List Clu:=
 (S.set a ((S[a]?.getD ([],[])).1 ++ (S[b]?.getD ([],[])).1,(S[a]?.getD ([],[])).2 ++ (S[b]?.getD ([],[])).2)).eraseIdx b
def Qx (most:Int) (lim:Rat) (S:List Clu):Bool:=decide ((S.length:Int) <= most) && decide (lim < nQ (Zg9 S))
def clu (most:Int) (lim:Rat):Nat -> List Clu -> List Clu
 | 0,S=>S
 | f + 1,S=>if S.length <= 1 then S else if Qx most lim S then S else clu most lim f (QI S (nA (Zg9 S)).toNat (nB (Zg9 S)).toNat)
def J9 (gs:List (List (List Int))):List Clu:=gs.zipIdx.map fun g=>([(g.2:Int)],g.1)
def Yr (o:List Int) (ms:List Int) (c:Int):List Int:=ms.foldl (fun o g=>o.set g.toNat c) o
def ZaS (S:List Clu) (n:Nat):Nat -> List Int
 | 0=>List.replicate n 0
 | k + 1=>Yr (ZaS S n k) (S[k]?.getD ([],[])).1 (k:Int)
def Zg8 (S:List Clu) (n:Nat):List Int:=ZaS S n S.length
theorem ZH (c:Int):∀ (ms o:List Int),(Yr o ms c).length = o.length:=by
 intro ms
 induction ms with
 | nil=>intro o;rfl
 | cons g l ih=>intro o;show (Yr (o.set g.toNat c) l c).length = _;rw [ih];simp
theorem Uf (S:List Clu) (n:Nat):∀ k,(ZaS S n k).length = n:=by
 intro k
 induction k with
 | zero=>simp [ZaS]
 | succ k ih=>unfold ZaS;rw [ZH,ih]
theorem Zbb (o ms:List Int) (c:Int) {j:Nat} (hj:j < ms.length):Yr o (ms.take (j + 1)) c = (Yr o (ms.take j) c).set (ms[j].toNat) c:=by
 unfold Yr
 rw [List.take_succ_eq_append_getElem hj,List.foldl_append]
 rfl
theorem ZgT {α:Type} (l:List α) {a b:Nat} (hab:a < b) (hb:b < l.length):∃ O M R x y,l = O ++ x :: (M ++ y :: R) /\ a = O.length /\ b = O.length + 1 + M.length:=by
 have ha:a < l.length:=by omega
 have e1:l = l.take a ++ l[a] :: l.drop (a + 1):=by rw [<- List.drop_eq_getElem_cons ha,List.take_append_drop]
 have hb':b - (a + 1) < (l.drop (a + 1)).length:=by simp;omega
 have e2:l.drop (a + 1) = (l.drop (a + 1)).take (b - (a + 1)) ++ (l.drop (a + 1))[b - (a + 1)] :: (l.drop (a + 1)).drop (b - (a + 1) + 1):=by rw [<- List.drop_eq_getElem_cons hb',List.take_append_drop]
 refine ⟨l.take a,(l.drop (a + 1)).take (b - (a + 1)),(l.drop (a + 1)).drop (b - (a + 1) + 1),l[a],(l.drop (a + 1))[b - (a + 1)],?_,by simp;omega,by simp;omega⟩
 rw [<- e2]
 exact e1
theorem ZbY {α:Type} (O R:List α) (x d : α):(O ++ x :: R)[O.length]?.getD d = x:=by simp
theorem ZdN (O M R:List Clu) (x y:Clu):QI (O ++ x :: (M ++ y :: R)) O.length (O.length + 1 + M.length) = O ++ (x.1 ++ y.1,x.2 ++ y.2) :: (M ++ R):=by
 have e1:O ++ x :: (M ++ y :: R) = (O ++ x :: M) ++ y :: R:=by simp
 have hl:O.length + 1 + M.length = (O ++ x :: M).length:=by simp;omega
 have g1:(O ++ x :: (M ++ y :: R))[O.length]?.getD ([],[]) = x:=ZbY O _ x _
 have g2:(O ++ x :: (M ++ y :: R))[O.length + 1 + M.length]?.getD ([],[]) = y:=by rw [e1,hl];exact ZbY _ _ y _
 unfold QI
 rw [g1,g2,List.set_append_right _ _ nR,Nat.sub_self,List.set_cons_zero,List.eraseIdx_append_of_length_le (by omega)]
 congr 1
 rw [show O.length + 1 + M.length - O.length = M.length + 1 by omega,List.eraseIdx_cons_succ]
 congr 1
 rw [List.eraseIdx_append_of_length_le nR,Nat.sub_self,List.eraseIdx_cons_zero]
structure CluI (d n:Nat) (S:List Clu):Prop where
 vcs:∀ x ∈ S,Vcs d x.2
 pos:∀ x ∈ S,0 < x.2.length
 tot:(S.map fun x=>x.2.length).sum <= 10000
 mem:∀ x ∈ S,∀ g ∈ x.1,0 <= g /\ g < (n:Int)
 cnt:(S.map fun x=>x.1.length).sum <= n
theorem CluI.join {d n:Nat} {S:List Clu} (h:CluI d n S) {a b:Nat} (hab:a < b) (hb:b < S.length):CluI d n (QI S a b):=by
 obtain ⟨O,M,R,x,y,rfl,rfl,rfl⟩:=ZgT S hab hb
 rw [ZdN]
 obtain ⟨h1,h2,h3,h4,h5⟩:=h
 have hx:x ∈ O ++ x :: (M ++ y :: R):=by simp
 have hy:y ∈ O ++ x :: (M ++ y :: R):=by simp
 have hsub:∀ z,z ∈ O ++ (x.1 ++ y.1,x.2 ++ y.2) :: (M ++ R) -> z = (x.1 ++ y.1,x.2 ++ y.2) ∨ z ∈ O ++ x :: (M ++ y :: R):=by
  intro z hz
  simp only [List.mem_append,List.mem_cons] at hz ⊢
  rcases hz with h | h | h | h
  ·exact .inr (.inl h)
  ·exact .inl h
  ·exact .inr (.inr (.inr (.inl h)))
  ·exact .inr (.inr (.inr (.inr (.inr h))))
 refine ⟨?_,?_,?_,?_,?_⟩
 ·intro z hz
  rcases hsub z hz with rfl | hz
  ·intro v hv
   rcases List.mem_append.1 hv with hv | hv
   ·exact h1 x hx v hv
   ·exact h1 y hy v hv
  ·exact h1 z hz
 ·intro z hz
  rcases hsub z hz with rfl | hz
  ·have:=h2 x hx
   simp only [List.length_append]
   omega
  ·exact h2 z hz
 ·simp at h3 ⊢
  omega
 ·intro z hz
  rcases hsub z hz with rfl | hz
  ·intro v hv
   rcases List.mem_append.1 hv with hv | hv
   ·exact h4 x hx v hv
   ·exact h4 y hy v hv
  ·exact h4 z hz
 ·simp at h5 ⊢
  omega
theorem Xl {α:Type} (f : α -> Nat) (l:List α) {x : α} (h:x ∈ l):f x <= (l.map f).sum:=by
 induction l with
 | nil=>cases h
 | cons y l ih=>
  simp only [List.map_cons,List.sum_cons]
  rcases List.mem_cons.1 h with rfl | h
  ·omega
  ·have:=ih h
   omega
theorem CluI.len {d n:Nat} {S:List Clu} (h:CluI d n S) {x:Clu} (hx:x ∈ S):x.2.length <= 10000 /\ x.1.length <= n:=⟨tR (Xl (fun x:Clu=>x.2.length) S hx) h.tot,tR (Xl (fun x:Clu=>x.1.length) S hx) h.cnt⟩
theorem Zbm {gs:List (List (List Int))} (h:ZdU gs = 0):gs.length <= 60 /\ gs.flatten.length <= 10000 /\ len0 gs.flatten <= 64 /\ ∀ g ∈ gs,0 < g.length /\ Vcs (len0 gs.flatten) g:=by
 unfold ZdU at h
 split at h
 ·cases h
 ·rename_i h0
  split at h
  ·rename_i hg
   unfold UL at hg
   rw [Bool.and_eq_true,List.all_eq_true] at hg
   refine ⟨by omega,by omega,?_,fun g hgm=>⟨?_,fun v hv=>?_⟩⟩
   ·cases hf:gs.flatten with
    | nil=>decide
    | cons v l=>rw [hf] at hg;exact (ZB hg.2 (List.mem_cons_self ..)).2.2.1
   ·have:=hg.1 g hgm
    cases g with
    | nil=>simp at this
    | cons v l=>simp
   ·have:=ZB hg.2 (List.mem_flatten.2 ⟨g,hgm,hv⟩)
    exact ⟨this.1,this.2.2.2⟩
  ·cases h
theorem Za3 (gs:List (List (List Int))) (g:List (List Int)):J9 (gs ++ [g]) = J9 gs ++ [([(gs.length:Int)],g)]:=by
 unfold J9
 rw [List.zipIdx_append,List.map_append]
 simp
theorem Zc4 {gs:List (List (List Int))} (h:ZdU gs = 0):CluI (len0 gs.flatten) gs.length (J9 gs):=by
 obtain ⟨h1,h2,h3,h4⟩:=Zbm h
 have hm:∀ x ∈ J9 gs,∃ (k:Nat) (hk:k < gs.length),x = ([(k:Int)],gs[k]):=by
  intro x hx
  obtain ⟨g,hg,rfl⟩:=List.mem_map.1 hx
  obtain ⟨k,hk,e⟩:=List.getElem_of_mem hg
  simp only [List.length_zipIdx] at hk
  rw [List.getElem_zipIdx] at e
  exact ⟨k,hk,by rw [<- e];simp⟩
 have e1:(J9 gs).map (fun x=>x.2.length) = gs.map List.length:=by
  unfold J9
  rw [List.map_map]
  have:((fun x:Clu=>x.2.length) ∘ fun g:List (List Int) × Nat=>([(g.2:Int)],g.1)) = List.length ∘ Prod.fst:=rfl
  rw [this,<- List.map_map,List.zipIdx_map_fst]
 have e2:((J9 gs).map fun x=>x.1.length).sum = gs.length:=by
  have:∀ (gs:List (List (List Int))) (n:Nat),(((gs.zipIdx n).map fun g=>(([(g.2:Int)],g.1):Clu)).map fun x=>x.1.length).sum = gs.length:=by
   intro gs
   induction gs with
   | nil=>intro n;rfl
   | cons g l ih=>intro n;simp only [List.zipIdx_cons,List.map_cons,List.sum_cons,ih,List.length_cons,List.length_nil];omega
  exact this gs 0
 refine ⟨?_,?_,?_,?_,?_⟩
 ·intro x hx
  obtain ⟨k,hk,rfl⟩:=hm x hx
  exact (h4 _ (gM hk)).2
 ·intro x hx
  obtain ⟨k,hk,rfl⟩:=hm x hx
  exact (h4 _ (gM hk)).1
 ·rw [e1,<- List.length_flatten]
  exact h2
 ·intro x hx g hg
  obtain ⟨k,hk,rfl⟩:=hm x hx
  simp at hg
  omega
 ·rw [e2]
  exact Nat.le_refl _
end Ear
namespace Go.Proofs.YtfbdihpllmhcnaaGreatDoor
open Go.RowKit Ear

theorem Y6 {A:Option Addr} {w:World} {xs:List Value} (h:Lies w A xs) (hA:A = none):xs = []:=by
 cases xs with
 | nil=>rfl
 | cons x l=>
  obtain ⟨b,off,e,_⟩:=h (by simp)
  rw [hA] at e
  cases e
theorem Zbk:(Tryz.prog.info? 9).map (fun i=>(i.zero,i.size,i.bytes)) = some (some (.string ByteArray.empty),1,16):=by kernel_rfl
theorem ZdP:(Tryz.prog.info? 131).map (fun i=>(i.zero,i.size,i.bytes)) = some (some (.agg #[.string ByteArray.empty,.slice none 0 0,.bool false,.slice none 0 0,.slice none 0 0,.bool false,.slice none 0 0,.slice none 0 0]),8,152):=by kernel_rfl
theorem Un:(Tryz.prog.info? 136).map (fun i=>(i.zero,i.size,i.bytes)) = some (some (.agg #[.int .i64 0,.string ByteArray.empty,.slice none 0 0]),3,48):=by kernel_rfl
theorem ZaP (A:Option Addr) (c n:Nat) (xs:List Value) (w:World) (h:Lies w A xs) (hx:xs.length = n * 1) (h1:∀ u ∈ xs,u.oneCell' = true) (hA:A = none -> c = 0) (hn:n <= 1000000) :
  Calls Tryz.prog 37 #[.slice A n c] w fun e w'=>∃ A' c',e = .returned (.slice A' n c') /\ w'.ownsRow w.heap.size 22 1 (.slice A' n c') n xs /\ RowKit.Below w.heap.size w w':=by
 obtain ⟨i0,hi0,hz0,hz1,hz2⟩:=info_parts Um
 have HI:=zH hi0;have HZ0:=zH hz0;have HZ1:=zH hz1;have HZ2:=zH hz2
 clear hi0 hz0 hz1 hz2
 cases A with
 | none=>
  have hxs:=Y6 h rfl
  subst hxs
  obtain rfl:n = 0:=by simp at hx;omega
  obtain rfl:=hA rfl
  have hnil:∀ W,(binOp .eql 52 (.slice none 0 0) (.slice none 0 0)).run Tryz.prog W = .ok (.bool true) W:=fun W=>Lib.run_eql_slice_nil W 52 22 none 0 0 0 0 Tryz.underlying52
  go_enter Tryz.func37,Tryz.ntmps37
  go_wp2_with fail
  go_ret
  exact ⟨none,0,rfl,World.ownsRow_nil _ _ _ _,RowKit.Below.refl _ _⟩
 | some ad=>
  clear hA
  have hnil:∀ W,(binOp .eql 52 (.slice (some ad) n c) (.slice none 0 0)).run Tryz.prog W = .ok (.bool false) W:=fun W=>Lib.run_eql_slice_nil W 52 22 (some ad) n c 0 0 Tryz.underlying52
  have hnews:=zH (h.news)
  have HX:=zH hx
  clear hx
  go_enter Tryz.func37,Tryz.ntmps37
  go_wp2_with (at_builtin;refine wpList_append_own_at _ rfl (.tmp 5) (.tmp 6) _ rfl w.heap.size 22 i0 _ 1 24 Tryz.underlying52 HI.out HZ0.out HZ1.out HZ2.out rfl (by omega) (.slice (some ⟨w.heap.size,0,none⟩) 0 0) 0 [] rfl (World.ownsRow_lit w #[] 0 nR (by simp) rfl) ad n c xs rfl HX.out (hnews.out _) h1 (by unfold maxLen;omega) (by omega) (by simp) ?_;intro v' w1 hown1 hgrow _ hat)
  go_ret
  obtain ⟨A',c',rfl⟩:=J1 hown1
  refine ⟨A',c',by rw [Nat.zero_add];rfl,by simpa using hown1,(bR.alloc nR _).grown hgrow (by simp) (fun k hk=>?_)⟩
  simp [Value.ownBlock] at hk
  omega
theorem VC (A:Option Addr) (c n:Nat) (xs:List Value) (w:World) (h:Lies w A xs) (hx:xs.length = n * 1) (h1:∀ u ∈ xs,u.oneCell' = true) (hA:A = none -> c = 0) (hn:n <= 1000000) :
  Calls Tryz.prog 49 #[.slice A n c] w fun e w'=>∃ A' c',e = .returned (.slice A' n c') /\ w'.ownsRow w.heap.size 9 1 (.slice A' n c') n xs /\ RowKit.Below w.heap.size w w':=by
 obtain ⟨i0,hi0,hz0,hz1,hz2⟩:=info_parts Zbk
 have HI:=zH hi0;have HZ0:=zH hz0;have HZ1:=zH hz1;have HZ2:=zH hz2
 clear hi0 hz0 hz1 hz2
 cases A with
 | none=>
  have hxs:=Y6 h rfl
  subst hxs
  obtain rfl:n = 0:=by simp at hx;omega
  obtain rfl:=hA rfl
  have hnil:∀ W,(binOp .eql 64 (.slice none 0 0) (.slice none 0 0)).run Tryz.prog W = .ok (.bool true) W:=fun W=>Lib.run_eql_slice_nil W 64 9 none 0 0 0 0 Tryz.underlying64
  go_enter Tryz.func49,Tryz.ntmps49
  go_wp2_with fail
  go_ret
  exact ⟨none,0,rfl,World.ownsRow_nil _ _ _ _,RowKit.Below.refl _ _⟩
 | some ad=>
  clear hA
  have hnil:∀ W,(binOp .eql 64 (.slice (some ad) n c) (.slice none 0 0)).run Tryz.prog W = .ok (.bool false) W:=fun W=>Lib.run_eql_slice_nil W 64 9 (some ad) n c 0 0 Tryz.underlying64
  have hnews:=zH (h.news)
  have HX:=zH hx
  clear hx
  go_enter Tryz.func49,Tryz.ntmps49
  go_wp2_with (at_builtin;refine wpList_append_own_at _ rfl (.tmp 5) (.tmp 6) _ rfl w.heap.size 9 i0 _ 1 16 Tryz.underlying64 HI.out HZ0.out HZ1.out HZ2.out rfl (by omega) (.slice (some ⟨w.heap.size,0,none⟩) 0 0) 0 [] rfl (World.ownsRow_lit w #[] 0 nR (by simp) rfl) ad n c xs rfl HX.out (hnews.out _) h1 (by unfold maxLen;omega) (by omega) (by simp) ?_;intro v' w1 hown1 hgrow _ hat)
  go_ret
  obtain ⟨A',c',rfl⟩:=J1 hown1
  refine ⟨A',c',by rw [Nat.zero_add];rfl,by simpa using hown1,(bR.alloc nR _).grown hgrow (by simp) (fun k hk=>?_)⟩
  simp [Value.ownBlock] at hk
  omega
theorem QU (A:Option Addr) (c n:Nat) (xs:List Value) (w:World) (h:Lies w A xs) (hx:xs.length = n * 8) (h1:∀ u ∈ xs,u.oneCell' = true) (hA:A = none -> c = 0) (hn:n <= 1000000) :
  Calls Tryz.prog 48 #[.slice A n c] w fun e w'=>∃ A' c',e = .returned (.slice A' n c') /\ w'.ownsRow w.heap.size 131 8 (.slice A' n c') n xs /\ RowKit.Below w.heap.size w w':=by
 obtain ⟨i0,hi0,hz0,hz1,hz2⟩:=info_parts ZdP
 have HI:=zH hi0;have HZ0:=zH hz0;have HZ1:=zH hz1;have HZ2:=zH hz2
 clear hi0 hz0 hz1 hz2
 cases A with
 | none=>
  have hxs:=Y6 h rfl
  subst hxs
  obtain rfl:n = 0:=by simp at hx;omega
  obtain rfl:=hA rfl
  have hnil:∀ W,(binOp .eql 39 (.slice none 0 0) (.slice none 0 0)).run Tryz.prog W = .ok (.bool true) W:=fun W=>Lib.run_eql_slice_nil W 39 131 none 0 0 0 0 Tryz.underlying39
  go_enter Tryz.func48,Tryz.ntmps48
  go_wp2_with fail
  go_ret
  exact ⟨none,0,rfl,World.ownsRow_nil _ _ _ _,RowKit.Below.refl _ _⟩
 | some ad=>
  clear hA
  have hnil:∀ W,(binOp .eql 39 (.slice (some ad) n c) (.slice none 0 0)).run Tryz.prog W = .ok (.bool false) W:=fun W=>Lib.run_eql_slice_nil W 39 131 (some ad) n c 0 0 Tryz.underlying39
  have hnews:=zH (h.news)
  have HX:=zH hx
  clear hx
  go_enter Tryz.func48,Tryz.ntmps48
  go_wp2_with (at_builtin;refine wpList_append_own_at _ rfl (.tmp 5) (.tmp 6) _ rfl w.heap.size 131 i0 _ 8 152 Tryz.underlying39 HI.out HZ0.out HZ1.out HZ2.out rfl (by omega) (.slice (some ⟨w.heap.size,0,none⟩) 0 0) 0 [] rfl (World.ownsRow_lit w #[] 0 nR (by simp) rfl) ad n c xs rfl HX.out (hnews.out _) h1 (by unfold maxLen;omega) (by omega) (by simp) ?_;intro v' w1 hown1 hgrow _ hat)
  go_ret
  obtain ⟨A',c',rfl⟩:=J1 hown1
  refine ⟨A',c',by rw [Nat.zero_add];rfl,by simpa using hown1,(bR.alloc nR _).grown hgrow (by simp) (fun k hk=>?_)⟩
  simp [Value.ownBlock] at hk
  omega
theorem ZaQ (A:Option Addr) (c n:Nat) (xs:List Value) (w:World) (h:Lies w A xs) (hx:xs.length = n * 3) (h1:∀ u ∈ xs,u.oneCell' = true) (hA:A = none -> c = 0) (hn:n <= 1000000) :
  Calls Tryz.prog 60 #[.slice A n c] w fun e w'=>∃ A' c',e = .returned (.slice A' n c') /\ w'.ownsRow w.heap.size 136 3 (.slice A' n c') n xs /\ RowKit.Below w.heap.size w w':=by
 obtain ⟨i0,hi0,hz0,hz1,hz2⟩:=info_parts Un
 have HI:=zH hi0;have HZ0:=zH hz0;have HZ1:=zH hz1;have HZ2:=zH hz2
 clear hi0 hz0 hz1 hz2
 cases A with
 | none=>
  have hxs:=Y6 h rfl
  subst hxs
  obtain rfl:n = 0:=by simp at hx;omega
  obtain rfl:=hA rfl
  have hnil:∀ W,(binOp .eql 42 (.slice none 0 0) (.slice none 0 0)).run Tryz.prog W = .ok (.bool true) W:=fun W=>Lib.run_eql_slice_nil W 42 136 none 0 0 0 0 Tryz.underlying42
  go_enter Tryz.func60,Tryz.ntmps60
  go_wp2_with fail
  go_ret
  exact ⟨none,0,rfl,World.ownsRow_nil _ _ _ _,RowKit.Below.refl _ _⟩
 | some ad=>
  clear hA
  have hnil:∀ W,(binOp .eql 42 (.slice (some ad) n c) (.slice none 0 0)).run Tryz.prog W = .ok (.bool false) W:=fun W=>Lib.run_eql_slice_nil W 42 136 (some ad) n c 0 0 Tryz.underlying42
  have hnews:=zH (h.news)
  have HX:=zH hx
  clear hx
  go_enter Tryz.func60,Tryz.ntmps60
  go_wp2_with (at_builtin;refine wpList_append_own_at _ rfl (.tmp 5) (.tmp 6) _ rfl w.heap.size 136 i0 _ 3 48 Tryz.underlying42 HI.out HZ0.out HZ1.out HZ2.out rfl (by omega) (.slice (some ⟨w.heap.size,0,none⟩) 0 0) 0 [] rfl (World.ownsRow_lit w #[] 0 nR (by simp) rfl) ad n c xs rfl HX.out (hnews.out _) h1 (by unfold maxLen;omega) (by omega) (by simp) ?_;intro v' w1 hown1 hgrow _ hat)
  go_ret
  obtain ⟨A',c',rfl⟩:=J1 hown1
  refine ⟨A',c',by rw [Nat.zero_add];rfl,by simpa using hown1,(bR.alloc nR _).grown hgrow (by simp) (fun k hk=>?_)⟩
  simp [Value.ownBlock] at hk
  omega
end Go.Proofs.YtfbdihpllmhcnaaGreatDoor
namespace Go.Proofs.YtfbdihpllmhcnaaGreatDoor
open Go.RowKit Ear

def blk (A:Option Addr):Option Nat:=(Value.slice A 0 0).ownBlock
theorem Jm (A:Option Addr) (n c:Nat):(Value.slice A n c).ownBlock = blk A:=by cases A <;> rfl
def Zg7:List Value -> Nat -> List Value -> List Value
 | xs,_,[]=>xs
 | xs,o,v :: r=>Zg7 (xs.set o v) (o + 1) r
theorem VZ:∀ (vs:List Value) (o:Nat) (xs:List Value),o + vs.length <= xs.length -> Zg7 xs o vs = xs.take o ++ vs ++ xs.drop (o + vs.length)
 | [],o,xs,_=>by simp [Zg7]
 | v :: r,o,xs,h=>by
  simp only [List.length_cons] at h
  have hlt:o < (xs.set o v).length:=by simp;omega
  rw [Zg7,VZ r (o + 1) _ (by simp;omega),List.take_succ_eq_append_getElem hlt]
  simp only [List.getElem_set_self,List.length_cons]
  rw [List.take_set_of_le nR,List.drop_set_of_lt (by omega),show o + 1 + r.length = o + (r.length + 1) by omega]
  simp
section
variable {base n cap g size:Nat} {e:TypeId}
theorem JW:∀ (vs:List Value) (o:Nat) (w:World) (xs:List Value),w.ownsRow base e size (.slice (some ⟨g,0,none⟩) n cap) n xs ->
  (w.setCells g o vs).ownsRow base e size (.slice (some ⟨g,0,none⟩) n cap) n (Zg7 xs o vs) /\ w.grownBy (w.setCells g o vs) (some g)
 | [],o,w,xs,h=>⟨h,rfl,rfl,rfl,Nat.le_refl _,fun _ _ _=>rfl⟩
 | v :: r,o,w,xs,h=>by
  have h1:=h.stored o v
  have h2:=JW r (o + 1) _ _ h1.1
  refine ⟨h2.1,h2.2.os.trans h1.2.os,h2.2.tape.trans h1.2.tape,h2.2.output.trans h1.2.output,tR h1.2.size h2.2.size,fun k hk hne=>?_⟩
  exact (h2.2.block k (Nat.lt_of_lt_of_le hk h1.2.size) hne).trans (h1.2.block k hk hne)
end
theorem ZI {w:World} {base:Nat} {e:TypeId} {size n m c:Nat} {A:Option Addr} {xs ys:List Value} (h:w.ownsRow base e size (.slice A n c) n (xs ++ ys)) (hx:xs.length = m * size) (hm:m <= n):w.ownsRow base e size (.slice A m c) m xs:=by
 refine ⟨hx,?_⟩
 rcases h.2 with ⟨h1,h2⟩ | ⟨g,cap,cur,h1,h2,h3,h4,h5,h6,h7⟩
 ·injection h1 with e1 e2 e3
  subst e1 e2 e3
  exact .inl ⟨by rw [show m = 0 by omega],by omega⟩
 ·injection h1 with e1 e2 e3
  subst e1 e3
  refine .inr ⟨g,c,cur,rfl,h2,h3,by omega,h5,h6,?_⟩
  have h8:(cur.toList.take (n * size)).take (m * size) = xs:=by rw [h7,<- hx];exact List.take_left
  rwa [List.take_take,Nat.min_eq_left (Nat.mul_le_mul_right _ hm)] at h8
theorem UI {P:Program} (w:World) (t e ty:TypeId) (z z1 z2:Value) (ht:P.underlying t = some (.slice e)) (hv:∀ w,(zeroValue e).run P w = .ok z w) (hz:z.cells = #[z1,z2]) (h1:z1.oneCell' = true) (h2:z2.oneCell' = true) (b o c:Nat)
  (hc:∀ j,j < 2 -> (w.cell? ⟨b,o + j,none⟩).isSome = true) (hf:∀ j,j < 2 -> w.frozen? ⟨b,o + j,none⟩ = false) :
  (Builtin.clear_ #[t] ty #[.slice (some ⟨b,o,none⟩) 1 c]).run P w = .ok (.tuple #[]) (w.setCells b o [z1,z2]):=by
 have hzc:(Builtin.zeroCells z.cells 1).toList = [z1,z2]:=by
  rw [hz]
  simp [Builtin.zeroCells]
  rfl
 have hst:=run_storeCells_cells (P:=P) b o [z1,z2] 0 w (by simpa using hc) (by simpa using hf) (by intro v hv';simp at hv';rcases hv' with rfl | rfl <;> assumption)
 simp only [Nat.add_zero] at hst
 simp [Builtin.clear_,run_underlying ht,hv,hzc,hst]
theorem Vy:(Tryz.prog.info? 117).map (fun i=>(i.zero,i.size,i.bytes)) = some (some (.agg #[.slice none 0 0,.slice none 0 0]),2,48):=by kernel_rfl
theorem Qp (base g n cap i:Nat) (xs:List Value) (w:World) (h:w.ownsRow base 117 2 (.slice (some ⟨g,0,none⟩) n cap) n xs) (hi:i < n) (hn:n <= 1000000) (h1:∀ u ∈ xs,u.oneCell' = true) :
  Calls Tryz.prog 39 #[.slice (some ⟨g,0,none⟩) n cap,.int .i64 i,.int .i64 ((i:Int) + 1)] w fun e w'=>e = .returned (.slice (some ⟨g,0,none⟩) (n - 1) cap) /\
   w'.ownsRow base 117 2 (.slice (some ⟨g,0,none⟩) (n - 1) cap) (n - 1) (xs.take (i * 2) ++ xs.drop ((i + 1) * 2)) /\ w.grownBy w' (some g):=by
 obtain ⟨i0,hi0,hz0,hz1,hz2⟩:=info_parts Vy
 have CI:=zH hi0;have CZ1:=zH hz1
 clear hi0 hz0 hz1 hz2
 have hxl:xs.length = n * 2:=h.1
 obtain ⟨news,hnews⟩:∃ news,news = xs.drop ((i + 1) * 2):=⟨_,rfl⟩
 have hlen:news.length = (n - (i + 1)) * 2:=by rw [hnews];simp;omega
 have hcap:n <= cap /\ cap <= maxLen:=by
  rcases h.2 with ⟨h',_⟩ | ⟨_,_,_,h',_,_,h3,h4,_⟩
  ·cases h'
  ·injection h' with e1 e2 e3
   subst e3
   exact ⟨h3,h4⟩
 unfold maxLen at hcap
 obtain ⟨A,hA,hsrc⟩:∃ A:Addr,(if cap = i + 1 then some (⟨g,0,none⟩:Addr) else some ⟨g,(i + 1) * 2,none⟩) = some A /\ Hid (∀ t u,news[t]? = some u -> w.drew.cell? (A.add t) = some u):=by
  by_cases hc:cap = i + 1
  ·refine ⟨⟨g,0,none⟩,by simp [hc],fun t u hu=>?_⟩
   have h0:news.length = 0:=by rw [hlen];omega
   rw [List.length_eq_zero_iff.1 h0] at hu
   simp at hu
  ·refine ⟨⟨g,(i + 1) * 2,none⟩,by simp [hc],fun t u hu=>?_⟩
   have ht:=(List.getElem?_eq_some_iff.1 hu).1
   rw [hnews,List.getElem?_drop] at hu
   rw [Addr.add_lit]
   have hlt:(i + 1) * 2 + t < xs.length:=by omega
   refine (h.cellAt ((i + 1) * 2 + t) (by omega)).trans ?_
   exact hu
 have s1:Hid (news.length = (n - (i + 1)) * 2):=hlen
 have s2:Hid (∀ u ∈ news,u.oneCell' = true):=fun u hu=>h1 u (by rw [hnews] at hu;exact List.mem_of_mem_drop hu)
 have s3:Hid (∀ t,t < news.length -> (w.drew.cell? ⟨g,0 + i * 2 + t,none⟩).isSome = true /\ w.drew.frozen? ⟨g,0 + i * 2 + t,none⟩ = false):=by
  intro t ht
  have hlt:i * 2 + t < xs.length:=by omega
  rw [Nat.zero_add]
  refine ⟨?_,h.frozenAt _⟩
  show (w.cell? _).isSome = true
  rw [h.cellAt (i * 2 + t) (by omega),gE hlt]
  rfl
 obtain ⟨W1,hW1⟩:∃ W1,W1 = w.drew.setCells g (0 + i * 2) news:=⟨_,rfl⟩
 have hd:w.drew.ownsRow base 117 2 (.slice (some ⟨g,0,none⟩) n cap) n xs:=h
 have hown1:=JW news (0 + i * 2) _ _ hd
 rw [<- hW1,VZ _ _ _ (by omega)] at hown1
 obtain ⟨r1,g1⟩:=hown1
 have R1:=zH r1
 have G1:Hid (w.grownBy W1 (some g)):=zH ⟨g1.os,g1.tape,g1.output,g1.size,g1.block⟩
 obtain ⟨W2,hW2⟩:∃ W2,W2 = W1.setCells g ((n - 1) * 2) [.slice none 0 0,.slice none 0 0]:=⟨_,rfl⟩
 have hown2:=JW [.slice none 0 0,.slice none 0 0] ((n - 1) * 2) _ _ r1
 rw [<- hW2] at hown2
 have R2:=zH hown2.1
 have G2:=zH hown2.2
 have hW:Hid (W1 = w.drew.setCells g (0 + i * 2) news):=hW1
 have hcl:∀ ty,(Builtin.clear_ #[114] ty #[.slice (some ⟨g,(n - 1) * 2,none⟩) 1 (cap - (n - 1))]).run Tryz.prog W1 = .ok (.tuple #[]) W2:=fun ty=>by
  rw [hW2]
  refine UI W1 114 117 ty (.agg #[.slice none 0 0,.slice none 0 0]) _ _ Tryz.underlying114 (fun w=>by kernel_rfl) rfl rfl rfl g _ _ (fun j hj=>?_) (fun j _=>R1.out.frozenAt _)
  rw [R1.out.cellAt _ (by omega),gE (by have:=R1.out.1;omega)]
  rfl
 have HCL:=zH hcl
 have NW:=zH hnews
 have XL:=zH hxl
 clear hW1 hd r1 g1 hW2 hown2 hnews hxl h
 clear hcl
 have hcl:=HCL.out
 have hic:i <= cap:=by omega
 have hjc:i + 1 <= cap:=by omega
 have b1:(0:Int) <= (i:Int) + 1:=by omega
 have b2:(i:Int) + 1 <= (n:Int):=by omega
 go_enter Tryz.func39,Tryz.ntmps39
 go_wp2_with fail
 go_region_law (refine step_append_room rfl (.tmp 22) (.tmp 25) 114 rfl 117 i0 2 Tryz.underlying114 CI.out CZ1.out g 0 i cap (by simp [Act.eval,Act.put]) A (n - (i + 1)) (cap - (i + 1)) news (by simp [Act.eval,Act.put]) s1.out hsrc.out s2.out (by omega) s3.out ?_;rw [<- hW.out])
 have e1:i + (n - (i + 1)) = n - 1:=by omega
 have e2:n - (n - 1) = 1:=by omega
 rw [e1]
 go_wp2_with fail
 go_ret
 refine ⟨rfl,?_,⟨G2.out.os.trans G1.out.os,G2.out.tape.trans G1.out.tape,G2.out.output.trans G1.out.output,tR G1.out.size G2.out.size,fun k hk hne=>(G2.out.block k (Nat.lt_of_lt_of_le hk G1.out.size) hne).trans (G1.out.block k hk hne)⟩⟩
 have hr:=R2.out
 rw [VZ _ _ _ (by have:=R1.out.1;simp only [List.length_cons,List.length_nil];omega)] at hr
 have hxl:xs.length = n * 2:=XL.out
 have e3:(xs.take (0 + i * 2) ++ news ++ xs.drop (0 + i * 2 + news.length)).take ((n - 1) * 2) = xs.take (i * 2) ++ xs.drop ((i + 1) * 2):=by
  rw [NW.out,List.take_append_of_le_length (by simp;omega),List.take_of_length_le (by simp;omega),Nat.zero_add]
 rw [e3,List.append_assoc] at hr
 exact ZI hr (by simp;omega) (by omega)
end Go.Proofs.YtfbdihpllmhcnaaGreatDoor
