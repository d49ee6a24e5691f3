/- TalkBetter -/
import Derived.Test.YtcjicjfbippmnaaGreatMTBett25
set_option maxRecDepth 100000
set_option maxHeartbeats 32000000
namespace Ear

def Qt (gs:List (List (List Int))):Bool:=gs.all (fun g=>!g.isEmpty) && ZX gs.flatten
def Zfs (gs:List (List (List Int))):Int:=if 60 < gs.length ∨ 10000 < gs.flatten.length then 5 else if Qt gs = true then 0 else 2
theorem Zdx (vs:List (List Int)) (v:List Int):ZX (vs ++ [v]) = (ZX vs && okV (if vs = [] then v.length else len0 vs) v):=by
 cases vs with
 | nil=>simp [ZX,len0]
 | cons x l=>simp [ZX,len0,Bool.and_assoc]
theorem Zeo {a b:List (List Int)} (h:ZX (a ++ b) = true):ZX a = true:=by
 cases a with
 | nil=>rfl
 | cons x l=>
  unfold ZX at *
  rw [List.all_append,Bool.and_eq_true] at h;exact h.1
theorem Zfd {vs:List (List Int)} {v:List Int}:len0 (vs ++ [v]) = if vs = [] then v.length else len0 vs:=by
 cases vs <;> simp [len0]
theorem Zfc {vs:List (List Int)} (h:ZX vs = true):len0 vs = 0 ↔ vs = []:=by
 cases vs with
 | nil=>simp [len0]
 | cons x l=>
  have:=(Vb h (List.mem_cons_self ..)).2.1;simp [len0];rintro rfl;simp at this
def flK (gs:List (List (List Int))) (k:Nat):List (List Int):=(gs.take k).flatten
theorem Zay (gs:List (List (List Int))):flK gs 0 = []:=by simp [flK]
theorem Zaz {gs:List (List (List Int))} {k:Nat} (hk:k < gs.length):flK gs (k + 1) = flK gs k ++ gs[k]:=by
 unfold flK;rw [List.take_succ_eq_append_getElem hk,List.flatten_append];simp only [List.flatten_cons,List.flatten_nil,List.append_nil]
theorem Zcu {gs:List (List (List Int))} {k:Nat} (hk:gs.length <= k):flK gs k = gs.flatten:=by simp [flK,List.take_of_length_le hk]
theorem ZiH {gs:List (List (List Int))} {k:Nat}:∃ r,gs.flatten = flK gs k ++ r:=⟨(gs.drop k).flatten,by rw [flK,<- List.flatten_append,List.take_append_drop]⟩
theorem ZjX {gs:List (List (List Int))} {k:Nat} (hk:k < gs.length) (j:Nat):∃ r,gs.flatten = flK gs k ++ gs[k].take j ++ r:=by
 obtain ⟨r,hr⟩:=ZiH (gs:=gs) (k:=k + 1);refine ⟨gs[k].drop j ++ r,?_⟩;rw [hr,Zaz hk]
 conv=>lhs;rw [<- List.take_append_drop j gs[k]]
 simp only [List.append_assoc]
theorem ZiI {gs:List (List (List Int))} (h:∀ g ∈ gs,g.length <= 10000) (k:Nat) (hk:k <= 1000):(flK gs k).length <= 10000000:=by
 have key:∀ k,(flK gs k).length <= k * 10000:=by
  intro k
  induction k with
  | zero=>simp [flK]
  | succ k ih=>
   by_cases hlt:k < gs.length
   ·rw [Zaz hlt,List.length_append];have:=h _ (List.getElem_mem hlt);omega
   ·have e:flK gs (k + 1) = flK gs k:=(Zcu (gs:=gs) (k:=k + 1) (by omega)).trans (Zcu (gs:=gs) (k:=k) (by omega)).symm;rw [e];exact Nat.le_trans ih (Nat.mul_le_mul_right _ (Nat.le_succ k))
 have:=key k;omega
theorem Zfr {gs:List (List (List Int))} {k:Nat} (hk:k < gs.length) (he:gs[k] = []):Qt gs = false:=by
 unfold Qt;rw [Bool.and_eq_false_iff];left;rw [List.all_eq_false];exact ⟨_,List.getElem_mem hk,by simp [he]⟩
theorem Zix {gs:List (List (List Int))} {k j:Nat} (hk:k < gs.length) (hj:j < gs[k].length) (h:ZX (flK gs k ++ gs[k].take j ++ [gs[k][j]]) = false):Qt gs = false:=by
 unfold Qt;rw [Bool.and_eq_false_iff];right;obtain ⟨r,hr⟩:=ZjX hk (j + 1);rw [List.take_succ_eq_append_getElem hj] at hr;rw [Bool.eq_false_iff];intro ht;rw [hr] at ht;have:=Zeo ht;rw [<- List.append_assoc] at this;rw [this] at h;cases h
open Go.Proofs.YtcjicjfbippmnaaGreat (Vcs)
abbrev ZaW:=Option (Nat × Nat × Rat)
def upd (G:Nat -> Nat -> Rat) (acc:ZaW) (i j:Nat):ZaW:=
 match acc with
 | none=>some (i,j,G i j)
 | some (a,b,q)=>if G i j < q then some (i,j,G i j) else some (a,b,q)
def Zb8 (G:Nat -> Nat -> Rat) (i:Nat) (acc:ZaW):Nat -> ZaW
 | 0=>acc
 | k + 1=>upd G (Zb8 G i acc k) i (i + 1 + k)
def YE (G:Nat -> Nat -> Rat) (n:Nat):Nat -> ZaW
 | 0=>none
 | i + 1=>Zb8 G i (YE G n i) (n - (i + 1))
def nA:ZaW -> Int | none=>-1 | some (a,_,_)=>a
def nB:ZaW -> Int | none=>-1 | some (_,b,_)=>b
def nQ:ZaW -> Rat | none=>((0:Int):Rat) | some (_,_,q)=>q
def NearOk (G:Nat -> Nat -> Rat) (n:Nat) (P:Nat -> Nat -> Prop) (acc:ZaW):Prop:=
 match acc with
 | none=>∀ i j,¬ P i j
 | some (a,b,q)=>a < b /\ b < n /\ P a b /\ q = G a b /\ ∀ i j,P i j -> q <= G i j
theorem NearOk.upd {G:Nat -> Nat -> Rat} {n:Nat} {P P':Nat -> Nat -> Prop} {acc:ZaW} {i j:Nat} (h:NearOk G n P acc) (hij:i < j) (hj:j < n) (hP:∀ x y,P' x y ↔ P x y ∨ (x = i /\ y = j)):NearOk G n P' (upd G acc i j):=by
 unfold Ear.upd;cases acc with
 | none=>
  refine ⟨hij,hj,(hP _ _).2 (.inr ⟨rfl,rfl⟩),rfl,fun x y hxy=>?_⟩;rcases (hP _ _).1 hxy with h1 | ⟨rfl,rfl⟩
  ·exact absurd h1 (h x y)
  ·exact Rat.le_refl
 | some t=>
  obtain ⟨a,b,q⟩:=t;obtain ⟨h1,h2,h3,h4,h5⟩:=h;simp only;split
  ·rename_i hlt;refine ⟨hij,hj,(hP _ _).2 (.inr ⟨rfl,rfl⟩),rfl,fun x y hxy=>?_⟩;rcases (hP _ _).1 hxy with h6 | ⟨rfl,rfl⟩
   ·exact Rat.le_trans (Rat.le_of_lt hlt) (h5 x y h6)
   ·exact Rat.le_refl
  ·rename_i hlt;refine ⟨h1,h2,(hP _ _).2 (.inl h3),h4,fun x y hxy=>?_⟩;rcases (hP _ _).1 hxy with h6 | ⟨rfl,rfl⟩
   ·exact h5 x y h6
   ·exact Rat.not_lt.1 hlt
theorem ZeI {G:Nat -> Nat -> Rat} {n i:Nat} {acc:ZaW} (h:NearOk G n (fun x y=>x < i /\ x < y /\ y < n) acc):∀ k,i + k < n -> NearOk G n (fun x y=>(x < i /\ x < y /\ y < n) ∨ (x = i /\ i < y /\ y < i + 1 + k)) (Zb8 G i acc k):=by
 intro k
 induction k with
 | zero=>
  intro _;show NearOk G n _ acc;have e:(fun x y=>(x < i /\ x < y /\ y < n) ∨ (x = i /\ i < y /\ y < i + 1 + 0)) = fun x y=>x < i /\ x < y /\ y < n:=by
   funext x y;apply propext;constructor
   ·rintro (h | h)
    ·exact h
    ·omega
   ·exact .inl
  rw [e];exact h
 | succ k ih=>
  intro hk;exact (ih (by omega)).upd (by omega) (by omega) (fun x y=>by omega)
theorem ZcS {G:Nat -> Nat -> Rat} {n:Nat}:∀ i,i <= n -> NearOk G n (fun x y=>x < i /\ x < y /\ y < n) (YE G n i):=by
 intro i
 induction i with
 | zero=>intro _ x y h;omega
 | succ i ih=>
  intro hi;have h:=ZeI (ih (by omega)) (n - (i + 1)) (by omega);have e:(fun x y=>(x < i /\ x < y /\ y < n) ∨ (x = i /\ i < y /\ y < i + 1 + (n - (i + 1)))) = fun x y=>x < i + 1 /\ x < y /\ y < n:=by
   funext x y;apply propext;omega
  rw [e] at h;exact h
theorem ZdJ {G:Nat -> Nat -> Rat} {n:Nat} (hn : 1 < n):∃ a b q,YE G n n = some (a,b,q) /\ a < b /\ b < n /\ q = G a b /\ ∀ i j,i < j -> j < n -> q <= G i j:=by
 have h:=ZcS (G:=G) (n:=n) n nR;cases hs:YE G n n with
 | none=>rw [hs] at h;exact absurd ⟨by omega,by omega,hn⟩ (h 0 1)
 | some t=>
  obtain ⟨a,b,q⟩:=t;rw [hs] at h;obtain ⟨h1,h2,_,h4,h5⟩:=h;exact ⟨a,b,q,rfl,h1,h2,h4,fun i j hi hj=>h5 i j ⟨by omega,hi,hj⟩⟩
abbrev Clu:=List Int × List (List Int)
def cG (S:List Clu) (i j:Nat):Rat:=Zg9 (S[i]?.getD ([],[])).2 (S[j]?.getD ([],[])).2
def Zjb (S:List Clu):ZaW:=YE (cG S) S.length S.length
def Zav (S:List Clu) (a b:Nat):List Clu:=
 (S.set a ((S[a]?.getD ([],[])).1 ++ (S[b]?.getD ([],[])).1,(S[a]?.getD ([],[])).2 ++ (S[b]?.getD ([],[])).2)).eraseIdx b
def Zad (most:Int) (lim:Rat) (S:List Clu):Bool:=decide ((S.length:Int) <= most) && decide (lim < nQ (Zjb S))
def clu (most:Int) (lim:Rat):Nat -> List Clu -> List Clu
 | 0,S=>S
 | f + 1,S=>if S.length <= 1 then S else if Zad most lim S then S else clu most lim f (Zav S (nA (Zjb S)).toNat (nB (Zjb S)).toNat)
def Xs (gs:List (List (List Int))):List Clu:=gs.zipIdx.map fun g=>([(g.2:Int)],g.1)
def YY (o:List Int) (ms:List Int) (c:Int):List Int:=ms.foldl (fun o g=>o.set g.toNat c) o
def ZbP (S:List Clu) (n:Nat):Nat -> List Int
 | 0=>List.replicate n 0
 | k + 1=>YY (ZbP S n k) (S[k]?.getD ([],[])).1 (k:Int)
def Zja (S:List Clu) (n:Nat):List Int:=ZbP S n S.length
theorem Vi (c:Int):∀ (ms o:List Int),(YY o ms c).length = o.length:=by
 intro ms
 induction ms with
 | nil=>intro o;rfl
 | cons g l ih=>intro o;show (YY (o.set g.toNat c) l c).length = _;rw [ih];simp
theorem UT (S:List Clu) (n:Nat):∀ k,(ZbP S n k).length = n:=by
 intro k
 induction k with
 | zero=>simp [ZbP]
 | succ k ih=>unfold ZbP;rw [Vi,ih]
theorem Zca (o ms:List Int) (c:Int) {j:Nat} (hj:j < ms.length):YY o (ms.take (j + 1)) c = (YY o (ms.take j) c).set (ms[j].toNat) c:=by
 unfold YY;rw [List.take_succ_eq_append_getElem hj,List.foldl_append];rfl
theorem ZiS {α:Type} (l:List α) {a b:Nat} (hab:a < b) (hb:b < l.length):∃ O M R x y,l = O ++ x :: (M ++ y :: R) /\ a = O.length /\ b = O.length + 1 + M.length:=by
 have ha:a < l.length:=by omega
 have e1:l = l.take a ++ l[a] :: l.drop (a + 1):=by rw [<- List.drop_eq_getElem_cons ha,List.take_append_drop]
 have hb':b - (a + 1) < (l.drop (a + 1)).length:=by simp;omega
 have e2:l.drop (a + 1) = (l.drop (a + 1)).take (b - (a + 1)) ++ (l.drop (a + 1))[b - (a + 1)] :: (l.drop (a + 1)).drop (b - (a + 1) + 1):=by rw [<- List.drop_eq_getElem_cons hb',List.take_append_drop]
 refine ⟨l.take a,(l.drop (a + 1)).take (b - (a + 1)),(l.drop (a + 1)).drop (b - (a + 1) + 1),l[a],(l.drop (a + 1))[b - (a + 1)],?_,by simp;omega,by simp;omega⟩;rw [<- e2];exact e1
theorem Zdd {α:Type} (O R:List α) (x d : α):(O ++ x :: R)[O.length]?.getD d = x:=by simp
theorem Zfi (O M R:List Clu) (x y:Clu):Zav (O ++ x :: (M ++ y :: R)) O.length (O.length + 1 + M.length) = O ++ (x.1 ++ y.1,x.2 ++ y.2) :: (M ++ R):=by
 have e1:O ++ x :: (M ++ y :: R) = (O ++ x :: M) ++ y :: R:=by simp
 have hl:O.length + 1 + M.length = (O ++ x :: M).length:=by simp;omega
 have g1:(O ++ x :: (M ++ y :: R))[O.length]?.getD ([],[]) = x:=Zdd O _ x _;have g2:(O ++ x :: (M ++ y :: R))[O.length + 1 + M.length]?.getD ([],[]) = y:=by rw [e1,hl];exact Zdd _ _ y _
 unfold Zav;rw [g1,g2,List.set_append_right _ _ nR,Nat.sub_self,List.set_cons_zero,List.eraseIdx_append_of_length_le (by omega)];congr 1;rw [show O.length + 1 + M.length - O.length = M.length + 1 by omega,List.eraseIdx_cons_succ];congr 1;rw [List.eraseIdx_append_of_length_le nR,Nat.sub_self,List.eraseIdx_cons_zero]
structure CluI (d n:Nat) (S:List Clu):Prop where
 vcs:∀ x ∈ S,Vcs d x.2
 pos:∀ x ∈ S,0 < x.2.length
 tot:(S.map fun x=>x.2.length).sum <= 10000
 mem:∀ x ∈ S,∀ g ∈ x.1,0 <= g /\ g < (n:Int)
 cnt:(S.map fun x=>x.1.length).sum <= n
theorem CluI.join {d n:Nat} {S:List Clu} (h:CluI d n S) {a b:Nat} (hab:a < b) (hb:b < S.length):CluI d n (Zav S a b):=by
 obtain ⟨O,M,R,x,y,rfl,rfl,rfl⟩:=ZiS S hab hb;rw [Zfi];obtain ⟨h1,h2,h3,h4,h5⟩:=h;have hx:x ∈ O ++ x :: (M ++ y :: R):=by simp
 have hy:y ∈ O ++ x :: (M ++ y :: R):=by simp
 have hsub:∀ z,z ∈ O ++ (x.1 ++ y.1,x.2 ++ y.2) :: (M ++ R) -> z = (x.1 ++ y.1,x.2 ++ y.2) ∨ z ∈ O ++ x :: (M ++ y :: R):=by
  intro z hz;simp only [List.mem_append,List.mem_cons] at hz ⊢;rcases hz with h | h | h | h
  ·exact .inr (.inl h)
  ·exact .inl h
  ·exact .inr (.inr (.inr (.inl h)))
  ·exact .inr (.inr (.inr (.inr (.inr h))))
 refine ⟨?_,?_,?_,?_,?_⟩
 ·intro z hz;rcases hsub z hz with rfl | hz
  ·intro v hv;rcases List.mem_append.1 hv with hv | hv
   ·exact h1 x hx v hv
   ·exact h1 y hy v hv
  ·exact h1 z hz
 ·intro z hz;rcases hsub z hz with rfl | hz
  ·have:=h2 x hx;simp only [List.length_append];omega
  ·exact h2 z hz
 ·simp at h3 ⊢;omega
 ·intro z hz;rcases hsub z hz with rfl | hz
  ·intro v hv;rcases List.mem_append.1 hv with hv | hv
   ·exact h4 x hx v hv
   ·exact h4 y hy v hv
  ·exact h4 z hz
 ·simp at h5 ⊢;omega
theorem XG {α:Type} (f : α -> Nat) (l:List α) {x : α} (h:x ∈ l):f x <= (l.map f).sum:=by
 induction l with
 | nil=>cases h
 | cons y l ih=>
  simp only [List.map_cons,List.sum_cons];rcases List.mem_cons.1 h with rfl | h
  ·omega
  ·have:=ih h;omega
theorem CluI.len {d n:Nat} {S:List Clu} (h:CluI d n S) {x:Clu} (hx:x ∈ S):x.2.length <= 10000 /\ x.1.length <= n:=⟨tR (XG (fun x:Clu=>x.2.length) S hx) h.tot,tR (XG (fun x:Clu=>x.1.length) S hx) h.cnt⟩
theorem Zco {gs:List (List (List Int))} (h:Zfs gs = 0):gs.length <= 60 /\ gs.flatten.length <= 10000 /\ len0 gs.flatten <= 64 /\ ∀ g ∈ gs,0 < g.length /\ Vcs (len0 gs.flatten) g:=by
 unfold Zfs at h;split at h
 ·cases h
 ·rename_i h0;split at h
  ·rename_i hg;unfold Qt at hg;rw [Bool.and_eq_true,List.all_eq_true] at hg;refine ⟨by omega,by omega,?_,fun g hgm=>⟨?_,fun v hv=>?_⟩⟩
   ·cases hf:gs.flatten with
    | nil=>decide
    | cons v l=>rw [hf] at hg;exact (Vb hg.2 (List.mem_cons_self ..)).2.2.1
   ·have:=hg.1 g hgm;cases g with
    | nil=>simp at this
    | cons v l=>simp
   ·have:=Vb hg.2 (List.mem_flatten.2 ⟨g,hgm,hv⟩);exact ⟨this.1,this.2.2.2⟩
  ·cases h
theorem Zb1 (gs:List (List (List Int))) (g:List (List Int)):Xs (gs ++ [g]) = Xs gs ++ [([(gs.length:Int)],g)]:=by
 unfold Xs;rw [List.zipIdx_append,List.map_append];simp
theorem Zez {gs:List (List (List Int))} (h:Zfs gs = 0):CluI (len0 gs.flatten) gs.length (Xs gs):=by
 obtain ⟨h1,h2,h3,h4⟩:=Zco h;have hm:∀ x ∈ Xs gs,∃ (k:Nat) (hk:k < gs.length),x = ([(k:Int)],gs[k]):=by
  intro x hx;obtain ⟨g,hg,rfl⟩:=List.mem_map.1 hx;obtain ⟨k,hk,e⟩:=List.getElem_of_mem hg;simp only [List.length_zipIdx] at hk;rw [List.getElem_zipIdx] at e;exact ⟨k,hk,by rw [<- e];simp⟩
 have e1:(Xs gs).map (fun x=>x.2.length) = gs.map List.length:=by
  unfold Xs;rw [List.map_map];have:((fun x:Clu=>x.2.length) ∘ fun g:List (List Int) × Nat=>([(g.2:Int)],g.1)) = List.length ∘ Prod.fst:=rfl;rw [this,<- List.map_map,List.zipIdx_map_fst]
 have e2:((Xs gs).map fun x=>x.1.length).sum = gs.length:=by
  have:∀ (gs:List (List (List Int))) (n:Nat),(((gs.zipIdx n).map fun g=>(([(g.2:Int)],g.1):Clu)).map fun x=>x.1.length).sum = gs.length:=by
   intro gs
   induction gs with
   | nil=>intro n;rfl
   | cons g l ih=>intro n;simp only [List.zipIdx_cons,List.map_cons,List.sum_cons,ih,List.length_cons,List.length_nil];omega
  exact this gs 0
 refine ⟨?_,?_,?_,?_,?_⟩
 ·intro x hx;obtain ⟨k,hk,rfl⟩:=hm x hx;exact (h4 _ (yM hk)).2
 ·intro x hx;obtain ⟨k,hk,rfl⟩:=hm x hx;exact (h4 _ (yM hk)).1
 ·rw [e1,<- List.length_flatten];exact h2
 ·intro x hx g hg;obtain ⟨k,hk,rfl⟩:=hm x hx;simp at hg;omega
 ·rw [e2];exact Nat.le_refl _
end Ear
namespace Go.Proofs.YtcjicjfbippmnaaGreat
open Go.RowKit Ear

abbrev Grp:=Option Addr × Nat × List Inn
abbrev gcs (G:List Grp):List Value:=G.map fun g=>Value.slice g.1 g.2.2.length g.2.1
abbrev gvs (G:List Grp):List (List (List Int)):=G.map fun g=>Jx g.2.2
structure GG (w:World) (A:Option Addr) (G:List Grp):Prop where
 lies:Lies w A (gcs G)
 grp:∀ g ∈ G,LL w g.1 g.2.2
theorem GG.below {w w':World} {A:Option Addr} {G:List Grp} (h:GG w A G) (hb:Below w.heap.size w w'):GG w' A G:=⟨h.lies.below hb,fun g hg=>(h.grp g hg).below hb⟩
theorem Lies.gat {w:World} {A:Option Addr} {l:List Grp} (h:Lies w A (gcs l)) {k:Nat} (hk:k < l.length) :
  ∃ b off,A = some ⟨b,off,none⟩ /\ b < w.heap.size /\ w.cell? ⟨b,off + k,none⟩ = some (.slice l[k].1 l[k].2.2.length l[k].2.1):=by
 obtain ⟨b,off,e,hlt,hc⟩:=h (by simp;omega);exact ⟨b,off,e,hlt,hc k _ (by simp [gE hk])⟩
theorem Zbt (x:Int) (w:World):Calls Tryz.prog 113 #[.int .i64 x] w fun e w'=>e = .returned (.bool (!inR (-1048576) 1048576 x)) /\ w = w':=by
 by_cases h1:x < -1048576
 ·go_enter Tryz.func113,Tryz.ntmps113;go_wp2_with fail;go_ret;exact ⟨Jn (by simp [inR];omega),rfl⟩
 ·by_cases h2 : 1048576 < x
  ·go_enter Tryz.func113,Tryz.ntmps113;go_wp2_with fail;go_ret;exact ⟨Jn (by simp [inR];omega),rfl⟩
  ·go_enter Tryz.func113,Tryz.ntmps113;go_wp2_with fail;go_ret;exact ⟨Jn (by simp [inR];omega),rfl⟩
theorem Yk:Pred 113 (fun x=>!inR (-1048576) 1048576 x):=⟨enters_of Tryz.func113 (by kernel_rfl) rfl,Zbt⟩
theorem U6 (A:Option Addr) (c:Nat) (G:List Grp) (w:World) (h:GG w A G) (hn:G.length <= 1000) (hg:Hid (∀ g ∈ G,g.2.2.length <= 10000)) (r:Int) (hr:Hid (Zfs (gvs G) = r)) :
  Calls Tryz.prog 55 #[.slice A G.length c] w fun e w'=>e = .returned (.int .i64 r) /\ w = w':=by
 have HGL:Hid ((gvs G).length = G.length):=zH (by simp);have HFL:=zH (fun k=>ZiI (gs:=gvs G) (fun g hg'=>by simp only [gvs,List.mem_map] at hg';obtain ⟨x,hx,rfl⟩:=hg';simpa using hg.out x hx) k);have HGK:Hid (∀ k (hk:k < G.length),(gvs G)[k]'(by rw [HGL.out];exact hk) = Jx G[k].2.2):=zH (fun k hk=>by simp);have HFS:Hid (∀ k (hk:k < G.length),flK (gvs G) (k + 1) = flK (gvs G) k ++ Jx G[k].2.2):=zH (fun k hk=>by rw [Zaz (by rw [HGL.out];exact hk),HGK.out k hk]);have HALL:Hid (flK (gvs G) G.length = (gvs G).flatten):=zH (Zcu (by rw [HGL.out];omega));have H:=zH h;clear h;go_enter Tryz.func55,Tryz.ntmps55;go_wp2_with fail;go_loop [3,13] (fun n i=>∃ k:Nat,k <= G.length /\ i = .int .i64 k /\ n = .int .i64 ((flK (gvs G) k).length:Nat)) (fun _ i=>G.length - (intOf i).toNat)
 case atStart=>exact ⟨0,by omega,rfl,by rw [Zay];rfl⟩
 case round=>
  obtain ⟨k,hk,rfl,rfl⟩:=hrel;have hfl:=HFL.out k (by omega);by_cases hlt:k < G.length
  ·obtain ⟨bk,off,rfl,hbk,hc⟩:=H.out.lies.gat hlt;have hgk:=hg.out _ (yM hlt);have HS:Hid ((flK (gvs G) (k + 1)).length = (flK (gvs G) k).length + G[k].2.2.length):=zH (by rw [HFS.out k hlt];simp);generalize G[k] = g at *
   generalize hm:(flK (gvs G) k).length = m at *
   have HM:=zH hm;clear hm;go_wp2_with fail;exact ⟨⟨k + 1,by omega,by go_num,by rw [HS.out];go_num⟩,by simp [intOf];omega⟩
  ·obtain rfl:k = G.length:=by omega
   rw [HALL.out] at hfl ⊢;have hr0:=hr.out;unfold Zfs at hr0;rw [HGL.out] at hr0;have HR0:=zH hr0;clear hr0;generalize hm:(gvs G).flatten.length = m at *
   by_cases hlong : 60 < G.length ∨ 10000 < m
   ·have e5:r = 5:=(by rw [<- HR0.out,if_pos hlong]);subst e5;clear hm HR0;rcases (show 60 < G.length ∨ (¬ 60 < G.length /\ 10000 < m) by omega) with h1 | ⟨h1,h2⟩
    ·go_wp2_with fail;go_ret;exact ⟨rfl,rfl⟩
    ·go_wp2_with fail;go_ret;exact ⟨rfl,rfl⟩
   ·have h1:¬ 60 < G.length:=(by omega);have h2:¬ 10000 < m:=(by omega);have HBAD:Hid (Qt (gvs G) = false -> r = 2):=zH (fun hb=>by rw [<- HR0.out,if_neg hlong,if_neg (by rw [hb];decide)]);have HGOOD:Hid (Qt (gvs G) = true -> r = 0):=zH (fun hb=>by rw [<- HR0.out,if_neg hlong,if_pos hb]);clear hm HR0 hlong hr;go_wp2_with fail;go_loop [6,31] (fun s i=>∃ k:Nat,k <= G.length /\ i = .int .i64 k /\ s = .int .i64 (len0 (flK (gvs G) k):Nat) /\ Hid (∀ g ∈ (gvs G).take k,g ≠ []) /\ Hid (ZX (flK (gvs G) k) = true)) (fun _ i=>G.length - (intOf i).toNat)
    case atStart=>exact ⟨0,by omega,rfl,by rw [Zay];rfl,zH (by simp),zH (by rw [Zay];rfl)⟩
    case round=>
     obtain ⟨k,hk,rfl,rfl,HNE,HVO⟩:=hrel;by_cases hlt:k < G.length
     ·obtain ⟨bk,off,rfl,hbk,hc⟩:=H.out.lies.gat hlt;have hgk:=hg.out _ (yM hlt);have HLL:=zH (H.out.grp _ (yM hlt));have hgk2:=HGK.out k hlt;have HEMP:Hid (G[k].2.2.length = 0 -> r = 2):=zH (fun he=>HBAD.out (Zfr (k:=k) (by rw [HGL.out];exact hlt) (by rw [hgk2];simpa using he)));have HVEC:Hid (∀ j (hj:j < G[k].2.2.length),ZX (flK (gvs G) k ++ (Jx G[k].2.2).take j ++ [G[k].2.2[j].2.2]) = false -> r = 2):=zH (fun j hj hb=>HBAD.out (Zix (k:=k) (j:=j) (by rw [HGL.out];exact hlt) (by rw [hgk2];simpa using hj) (by simp only [hgk2];simpa using hb)));have HNX:Hid (flK (gvs G) (k + 1) = flK (gvs G) k ++ Jx G[k].2.2):=zH (HFS.out k hlt);have HNE2:Hid (G[k].2.2.length ≠ 0 -> ∀ g ∈ (gvs G).take (k + 1),g ≠ []):=zH (fun hne g hg'=>by
       rw [List.take_succ_eq_append_getElem (by rw [HGL.out];exact hlt),List.mem_append] at hg';rcases hg' with h' | h'
       ·exact HNE.out g h'
       ·rw [List.mem_singleton] at h';rw [h',hgk2];intro e;exact hne (by simpa using e))
      clear hgk2 HNE;generalize G[k] = g at *
      obtain ⟨gA,gc,gl⟩:=g;simp only at *
      by_cases h0:gl.length = 0
      ·have hz:=HEMP.out h0;subst hz;have q0:((gl.length:Int) == 0) = true:=(by simp [h0]);clear HEMP HVEC HNX HNE2 h0 HBAD HGOOD;go_wp2_with fail;go_ret;exact ⟨rfl,rfl⟩
      ·have q0:((gl.length:Int) == 0) = false:=(by rw [beq_eq_false_iff_ne];omega);have HNE3:=zH (HNE2.out h0);clear HEMP HNE2;go_wp2_with fail;go_loop [6,40] (fun s i=>∃ j:Nat,j <= gl.length /\ i = .int .i64 j /\ s = .int .i64 (len0 (flK (gvs G) k ++ (Jx gl).take j):Nat) /\ Hid (ZX (flK (gvs G) k ++ (Jx gl).take j) = true)) (fun _ i=>gl.length - (intOf i).toNat)
       case atStart=>exact ⟨0,by omega,rfl,by simp,zH (by simpa using HVO.out)⟩
       case round=>
        obtain ⟨j,hj,rfl,rfl,HV⟩:=hrel;by_cases hjl:j < gl.length
        ·obtain ⟨bx,ox,rfl,hbx,hcx⟩:=HLL.out.lies.lat hjl;have hx:=HLL.out.inn _ (yM hjl);have HTK:Hid ((Jx gl).take (j + 1) = (Jx gl).take j ++ [gl[j].2.2]):=zH (by rw [List.take_succ_eq_append_getElem (by simpa using hjl)];simp);have hbad:=HVEC.out j hjl;generalize hP:flK (gvs G) k ++ (Jx gl).take j = P at *
         have HP:=zH hP;clear hP;have HZ:Hid (len0 P = 0 ↔ P = []):=zH (Zfc HV.out);have HSN:=zH (Zdx P gl[j].2.2);have HL0:=zH (Zfd (vs:=P) (v:=gl[j].2.2));generalize gl[j] = X at *
         obtain ⟨XA,Xc,xl⟩:=X;simp only at *
         obtain ⟨hxl,_,hxn,_,_⟩:=hx;have HXL:=zH hxl;obtain ⟨s1,hs1⟩:∃ s1:Nat,s1 = if P = [] then xl.length else len0 P:=⟨_,rfl⟩;rw [<- hs1] at HSN HL0;have HBAD2:Hid (okV s1 xl = false -> r = 2):=zH (fun hb=>hbad (by rw [HSN.out,hb,Bool.and_false]));have HGD:Hid (okV s1 xl = true -> ZX (flK (gvs G) k ++ (Jx gl).take (j + 1)) = true):=zH (fun hb=>by rw [HTK.out,<- List.append_assoc,HP.out,HSN.out,hb,HV.out];rfl);have HGL0:Hid (len0 (flK (gvs G) k ++ (Jx gl).take (j + 1)) = s1):=zH (by rw [HTK.out,<- List.append_assoc,HP.out,HL0.out]);clear HSN HL0 hbad hxl;have HS1:Hid (len0 P ≠ 0 -> s1 = len0 P):=zH (fun hne=>by rw [hs1,if_neg (fun e=>hne (HZ.out.2 e))]);have HS0:Hid (len0 P = 0 -> s1 = xl.length):=zH (fun hne=>by rw [hs1,if_pos (HZ.out.1 hne)]);clear hs1 HZ;generalize len0 P = s0 at *
         have hkey:(((s0:Int) == 0) = true /\ s1 = xl.length) ∨ (((s0:Int) == 0) = false /\ s1 = s0):=by
          by_cases z:s0 = 0
          ·exact .inl ⟨by simp [z],HS0.out z⟩
          ·exact .inr ⟨by simp;omega,HS1.out z⟩
         clear HS1 HS0;cases c0:decide (xl.length = s1) with
         | false=>
          have c1:=of_decide_eq_false c0;clear c0;rcases hkey with ⟨_,e⟩ | ⟨qz,rfl⟩
          ·exact absurd e.symm c1
          have hz:=HBAD2.out (by rw [Bool.eq_false_iff];intro ht;exact c1 (VW.1 ht).1);subst hz;have q1:((xl.length:Int) != (s1:Int)) = true:=(by simp;omega);clear HBAD2 HGD HGL0 c1 HBAD HGOOD HVEC;go_wp2_with fail;go_ret;exact ⟨rfl,rfl⟩
         | true=>
          obtain rfl:xl.length = s1:=of_decide_eq_true c0;clear c0;cases c4:Xx (-1048576) 1048576 xl with
          | true=>
           have C4:=zH c4;clear c4;by_cases c2 : 1 <= xl.length
           ·by_cases c3:xl.length <= 64
            ·have HY:=zH (HGD.out (VW.2 ⟨rfl,c2,c3,C4.out⟩));clear HGD HBAD2;rcases hkey with ⟨qz,_⟩ | ⟨qz,e⟩
             ·go_wp2_with fail;refine (Yo _ _ Yk XA Xc xl _ HXL.out (by omega)).mono ?_;rintro e w' ⟨rfl,rfl⟩;rw [Ya,C4.out];go_wp2_with fail;exact ⟨⟨j + 1,by omega,by go_num,by rw [HGL0.out],HY⟩,by simp [intOf];omega⟩
             ·subst e;go_wp2_with fail;refine (Yo _ _ Yk XA Xc xl _ HXL.out (by omega)).mono ?_;rintro e w' ⟨rfl,rfl⟩;rw [Ya,C4.out];go_wp2_with fail;exact ⟨⟨j + 1,by omega,by go_num,by rw [HGL0.out],HY⟩,by simp [intOf];omega⟩
            ·have hz:=HBAD2.out (by rw [Bool.eq_false_iff];intro ht;exact c3 (VW.1 ht).2.2.1);subst hz;clear HBAD2 HGD HGL0 HBAD HGOOD HVEC;rcases hkey with ⟨qz,_⟩ | ⟨qz,e⟩
             ·go_wp2_with fail;go_ret;exact ⟨rfl,rfl⟩
             ·subst e;go_wp2_with fail;go_ret;exact ⟨rfl,rfl⟩
           ·have hz:=HBAD2.out (by rw [Bool.eq_false_iff];intro ht;exact c2 (VW.1 ht).2.1);subst hz;clear HBAD2 HGD HGL0 HBAD HGOOD HVEC;rcases hkey with ⟨qz,_⟩ | ⟨qz,e⟩
            ·go_wp2_with fail;go_ret;exact ⟨rfl,rfl⟩
            ·subst e;go_wp2_with fail;go_ret;exact ⟨rfl,rfl⟩
          | false=>
           have C4:=zH c4;have hz:=HBAD2.out (by rw [Bool.eq_false_iff];intro ht;have:=(VW.1 ht).2.2.2;rw [c4] at this;cases this);subst hz;clear c4 HBAD2 HGD HGL0 HBAD HGOOD HVEC;rcases (show (xl.length < 1) ∨ (1 <= xl.length /\ 64 < xl.length) ∨ (1 <= xl.length /\ xl.length <= 64) by omega) with c2 | ⟨c2,c3⟩ | ⟨c2,c3⟩
           all_goals
            rcases hkey with ⟨qz,_⟩ | ⟨qz,e⟩
            ·go_wp2_with (go_at_call 112;refine (Yo _ _ Yk XA Xc xl _ HXL.out (by omega)).mono ?_;rintro e w' ⟨rfl,rfl⟩;rw [Ya,C4.out]);go_ret;exact ⟨rfl,rfl⟩
            ·subst e;go_wp2_with (go_at_call 112;refine (Yo _ _ Yk XA Xc xl _ HXL.out (by omega)).mono ?_;rintro e w' ⟨rfl,rfl⟩;rw [Ya,C4.out]);go_ret;exact ⟨rfl,rfl⟩
        ·obtain rfl:j = gl.length:=(by omega);have HF:Hid (flK (gvs G) k ++ (Jx gl).take gl.length = flK (gvs G) (k + 1)):=zH (by rw [HNX.out,List.take_of_length_le (by simp)]);rw [HF.out] at HV ⊢;clear HVEC;go_wp2_with fail;exact ⟨⟨k + 1,by omega,by go_num,rfl,HNE3,HV⟩,by simp [intOf];omega⟩
     ·obtain rfl:k = G.length:=(by omega);have hz:r = 0:=HGOOD.out (by
       unfold Qt;rw [Bool.and_eq_true];refine ⟨?_,by rw [<- HALL.out];exact HVO.out⟩;rw [List.all_eq_true];intro g hg';have:=HNE.out g (by rw [List.take_of_length_le (by rw [HGL.out];omega)];exact hg');simpa using this)
      subst hz;clear HBAD HGOOD;go_wp2_with fail;go_ret;exact ⟨rfl,rfl⟩
theorem ZH {A:Option Addr} {w:World} {xs:List Value} (h:Lies w A xs) (hA:A = none):xs = []:=by
 cases xs with
 | nil=>rfl
 | cons x l=>
  obtain ⟨b,off,e,_⟩:=h (by simp);rw [hA] at e;cases e
theorem Zcm:(Tryz.prog.info? 9).map (fun i=>(i.zero,i.size,i.bytes)) = some (some (.string ByteArray.empty),1,16):=by kernel_rfl
theorem Zfl:(Tryz.prog.info? 79).map (fun i=>(i.zero,i.size,i.bytes)) = some (some (.agg #[.string ByteArray.empty,.slice none 0 0,.bool false,.slice none 0 0,.slice none 0 0,.bool false,.slice none 0 0,.slice none 0 0]),8,152):=by kernel_rfl
theorem U5:(Tryz.prog.info? 76).map (fun i=>(i.zero,i.size,i.bytes)) = some (some (.agg #[.int .i64 0,.string ByteArray.empty,.slice none 0 0]),3,48):=by kernel_rfl
theorem ZbM (A:Option Addr) (c n:Nat) (xs:List Value) (w:World) (h:Lies w A xs) (hx:xs.length = n * 1) (h1:∀ u ∈ xs,u.oneCell' = true) (hA:A = none -> c = 0) (hn:n <= 1000000) :
  Calls Tryz.prog 69 #[.slice A n c] w fun e w'=>∃ A' c',e = .returned (.slice A' n c') /\ w'.ownsRow w.heap.size 40 1 (.slice A' n c') n xs /\ RowKit.Below w.heap.size w w':=by
 obtain ⟨i0,hi0,hz0,hz1,hz2⟩:=info_parts U4;have HI:=zH hi0;have HZ0:=zH hz0;have HZ1:=zH hz1;have HZ2:=zH hz2;clear hi0 hz0 hz1 hz2;cases A with
 | none=>
  have hxs:=ZH h rfl;subst hxs;obtain rfl:n = 0:=by simp at hx;omega
  obtain rfl:=hA rfl;have hnil:∀ W,(binOp .eql 22 (.slice none 0 0) (.slice none 0 0)).run Tryz.prog W = .ok (.bool true) W:=fun W=>Lib.run_eql_slice_nil W 22 40 none 0 0 0 0 Tryz.underlying22;go_enter Tryz.func69,Tryz.ntmps69;go_wp2_with fail;go_ret;exact ⟨none,0,rfl,World.ownsRow_nil _ _ _ _,RowKit.Below.refl _ _⟩
 | some ad=>
  clear hA;have hnil:∀ W,(binOp .eql 22 (.slice (some ad) n c) (.slice none 0 0)).run Tryz.prog W = .ok (.bool false) W:=fun W=>Lib.run_eql_slice_nil W 22 40 (some ad) n c 0 0 Tryz.underlying22;have hnews:=zH (h.news);have HX:=zH hx;clear hx;go_enter Tryz.func69,Tryz.ntmps69;go_wp2_with (at_builtin;refine wpList_append_own_at _ rfl (.tmp 5) (.tmp 6) _ rfl w.heap.size 40 i0 _ 1 24 Tryz.underlying22 HI.out HZ0.out HZ1.out HZ2.out rfl (by omega) (.slice (some ⟨w.heap.size,0,none⟩) 0 0) 0 [] rfl (World.ownsRow_lit w #[] 0 nR (by simp) rfl) ad n c xs rfl HX.out (hnews.out _) h1 (by unfold maxLen;omega) (by omega) (by simp) ?_;intro v' w1 hown1 hgrow _ hat);go_ret;obtain ⟨A',c',rfl⟩:=Xe hown1;refine ⟨A',c',by rw [Nat.zero_add];rfl,by simpa using hown1,(bR.alloc nR _).grown hgrow (by simp) (fun k hk=>?_)⟩;simp [Value.ownBlock] at hk;omega
theorem Ur (A:Option Addr) (c n:Nat) (xs:List Value) (w:World) (h:Lies w A xs) (hx:xs.length = n * 1) (h1:∀ u ∈ xs,u.oneCell' = true) (hA:A = none -> c = 0) (hn:n <= 1000000) :
  Calls Tryz.prog 76 #[.slice A n c] w fun e w'=>∃ A' c',e = .returned (.slice A' n c') /\ w'.ownsRow w.heap.size 9 1 (.slice A' n c') n xs /\ RowKit.Below w.heap.size w w':=by
 obtain ⟨i0,hi0,hz0,hz1,hz2⟩:=info_parts Zcm;have HI:=zH hi0;have HZ0:=zH hz0;have HZ1:=zH hz1;have HZ2:=zH hz2;clear hi0 hz0 hz1 hz2;cases A with
 | none=>
  have hxs:=ZH h rfl;subst hxs;obtain rfl:n = 0:=by simp at hx;omega
  obtain rfl:=hA rfl;have hnil:∀ W,(binOp .eql 74 (.slice none 0 0) (.slice none 0 0)).run Tryz.prog W = .ok (.bool true) W:=fun W=>Lib.run_eql_slice_nil W 74 9 none 0 0 0 0 Tryz.underlying74;go_enter Tryz.func76,Tryz.ntmps76;go_wp2_with fail;go_ret;exact ⟨none,0,rfl,World.ownsRow_nil _ _ _ _,RowKit.Below.refl _ _⟩
 | some ad=>
  clear hA;have hnil:∀ W,(binOp .eql 74 (.slice (some ad) n c) (.slice none 0 0)).run Tryz.prog W = .ok (.bool false) W:=fun W=>Lib.run_eql_slice_nil W 74 9 (some ad) n c 0 0 Tryz.underlying74;have hnews:=zH (h.news);have HX:=zH hx;clear hx;go_enter Tryz.func76,Tryz.ntmps76;go_wp2_with (at_builtin;refine wpList_append_own_at _ rfl (.tmp 5) (.tmp 6) _ rfl w.heap.size 9 i0 _ 1 16 Tryz.underlying74 HI.out HZ0.out HZ1.out HZ2.out rfl (by omega) (.slice (some ⟨w.heap.size,0,none⟩) 0 0) 0 [] rfl (World.ownsRow_lit w #[] 0 nR (by simp) rfl) ad n c xs rfl HX.out (hnews.out _) h1 (by unfold maxLen;omega) (by omega) (by simp) ?_;intro v' w1 hown1 hgrow _ hat);go_ret;obtain ⟨A',c',rfl⟩:=Xe hown1;refine ⟨A',c',by rw [Nat.zero_add];rfl,by simpa using hown1,(bR.alloc nR _).grown hgrow (by simp) (fun k hk=>?_)⟩;simp [Value.ownBlock] at hk;omega
theorem ZaO (A:Option Addr) (c n:Nat) (xs:List Value) (w:World) (h:Lies w A xs) (hx:xs.length = n * 8) (h1:∀ u ∈ xs,u.oneCell' = true) (hA:A = none -> c = 0) (hn:n <= 1000000) :
  Calls Tryz.prog 75 #[.slice A n c] w fun e w'=>∃ A' c',e = .returned (.slice A' n c') /\ w'.ownsRow w.heap.size 79 8 (.slice A' n c') n xs /\ RowKit.Below w.heap.size w w':=by
 obtain ⟨i0,hi0,hz0,hz1,hz2⟩:=info_parts Zfl;have HI:=zH hi0;have HZ0:=zH hz0;have HZ1:=zH hz1;have HZ2:=zH hz2;clear hi0 hz0 hz1 hz2;cases A with
 | none=>
  have hxs:=ZH h rfl;subst hxs;obtain rfl:n = 0:=by simp at hx;omega
  obtain rfl:=hA rfl;have hnil:∀ W,(binOp .eql 46 (.slice none 0 0) (.slice none 0 0)).run Tryz.prog W = .ok (.bool true) W:=fun W=>Lib.run_eql_slice_nil W 46 79 none 0 0 0 0 Tryz.underlying46;go_enter Tryz.func75,Tryz.ntmps75;go_wp2_with fail;go_ret;exact ⟨none,0,rfl,World.ownsRow_nil _ _ _ _,RowKit.Below.refl _ _⟩
 | some ad=>
  clear hA;have hnil:∀ W,(binOp .eql 46 (.slice (some ad) n c) (.slice none 0 0)).run Tryz.prog W = .ok (.bool false) W:=fun W=>Lib.run_eql_slice_nil W 46 79 (some ad) n c 0 0 Tryz.underlying46;have hnews:=zH (h.news);have HX:=zH hx;clear hx;go_enter Tryz.func75,Tryz.ntmps75;go_wp2_with (at_builtin;refine wpList_append_own_at _ rfl (.tmp 5) (.tmp 6) _ rfl w.heap.size 79 i0 _ 8 152 Tryz.underlying46 HI.out HZ0.out HZ1.out HZ2.out rfl (by omega) (.slice (some ⟨w.heap.size,0,none⟩) 0 0) 0 [] rfl (World.ownsRow_lit w #[] 0 nR (by simp) rfl) ad n c xs rfl HX.out (hnews.out _) h1 (by unfold maxLen;omega) (by omega) (by simp) ?_;intro v' w1 hown1 hgrow _ hat);go_ret;obtain ⟨A',c',rfl⟩:=Xe hown1;refine ⟨A',c',by rw [Nat.zero_add];rfl,by simpa using hown1,(bR.alloc nR _).grown hgrow (by simp) (fun k hk=>?_)⟩;simp [Value.ownBlock] at hk;omega
theorem ZbN (A:Option Addr) (c n:Nat) (xs:List Value) (w:World) (h:Lies w A xs) (hx:xs.length = n * 3) (h1:∀ u ∈ xs,u.oneCell' = true) (hA:A = none -> c = 0) (hn:n <= 1000000) :
  Calls Tryz.prog 92 #[.slice A n c] w fun e w'=>∃ A' c',e = .returned (.slice A' n c') /\ w'.ownsRow w.heap.size 76 3 (.slice A' n c') n xs /\ RowKit.Below w.heap.size w w':=by
 obtain ⟨i0,hi0,hz0,hz1,hz2⟩:=info_parts U5;have HI:=zH hi0;have HZ0:=zH hz0;have HZ1:=zH hz1;have HZ2:=zH hz2;clear hi0 hz0 hz1 hz2;cases A with
 | none=>
  have hxs:=ZH h rfl;subst hxs;obtain rfl:n = 0:=by simp at hx;omega
  obtain rfl:=hA rfl;have hnil:∀ W,(binOp .eql 63 (.slice none 0 0) (.slice none 0 0)).run Tryz.prog W = .ok (.bool true) W:=fun W=>Lib.run_eql_slice_nil W 63 76 none 0 0 0 0 Tryz.underlying63;go_enter Tryz.func92,Tryz.ntmps92;go_wp2_with fail;go_ret;exact ⟨none,0,rfl,World.ownsRow_nil _ _ _ _,RowKit.Below.refl _ _⟩
 | some ad=>
  clear hA;have hnil:∀ W,(binOp .eql 63 (.slice (some ad) n c) (.slice none 0 0)).run Tryz.prog W = .ok (.bool false) W:=fun W=>Lib.run_eql_slice_nil W 63 76 (some ad) n c 0 0 Tryz.underlying63;have hnews:=zH (h.news);have HX:=zH hx;clear hx;go_enter Tryz.func92,Tryz.ntmps92;go_wp2_with (at_builtin;refine wpList_append_own_at _ rfl (.tmp 5) (.tmp 6) _ rfl w.heap.size 76 i0 _ 3 48 Tryz.underlying63 HI.out HZ0.out HZ1.out HZ2.out rfl (by omega) (.slice (some ⟨w.heap.size,0,none⟩) 0 0) 0 [] rfl (World.ownsRow_lit w #[] 0 nR (by simp) rfl) ad n c xs rfl HX.out (hnews.out _) h1 (by unfold maxLen;omega) (by omega) (by simp) ?_;intro v' w1 hown1 hgrow _ hat);go_ret;obtain ⟨A',c',rfl⟩:=Xe hown1;refine ⟨A',c',by rw [Nat.zero_add];rfl,by simpa using hown1,(bR.alloc nR _).grown hgrow (by simp) (fun k hk=>?_)⟩;simp [Value.ownBlock] at hk;omega
end Go.Proofs.YtcjicjfbippmnaaGreat
