/- TalkHears -/
import Derived.Test.YtcjicjfbippmnaaGreatMTHear1
set_option maxRecDepth 100000
set_option maxHeartbeats 32000000
namespace Go
section
variable {P:Program} {ops:Array Oper} {Q:Exit -> Act -> World -> Prop} {md:Region.Mode}
theorem Jd {S:World -> Prop} {id:Nat} {a:Act} {w:World} (n:Nat) (hn:ops.size = n) (hm:P.follows .mixedOrders = true) (hS:S w.drew)
  (h:S w.drew -> wpAnyH P .any ops Q S n (Array.replicate n false) a w.drew):(Code.region id ops true).wp P Q a w:=by
 refine wp_region_any hm ?_;rw [hn];exact wpAny_of_held _ _ _ _ (h hS)
theorem Za2 {S:World -> Prop} {i:Nat} (d:Nat) {oi:Oper} {fuel:Nat} {listed:Array Bool} {t:Array Value} {df:List Deferred} {w:World} (hi:ops[i]? = some oi) (hd:oi.dst = some d)
  (hs:Region.noSelect ops = true) (hf:Region.free md ops listed i = true) (hr:(Region.ready md ops listed).contains i = true)
  (hQ:∀ c a w,Q (.panic c) (a.put (some d) undef) w -> Q (.panic c) a w) (hw:Region.wanted oi (yielded ops t) = false) (hS:S w)
  (h:wpAnyH P md ops Q S fuel (listed.setIfInBounds i true) ⟨t.setIfInBounds d undef,df⟩ w):wpAnyH P md ops Q S (fuel + 1) listed ⟨t,df⟩ w:=
 wpAnyH_take hi hs hf hr (by rw [hd];exact hQ) (.inr ⟨hw,rfl⟩) hS (by rw [hd];exact h)
theorem Jk {S:World -> Prop} (i:Nat) {o:Oper} {fuel:Nat} {listed:Array Bool} {a:Act} {w:World} (ho:ops[i]? = some o) (hr:Region.ready md ops listed = [i]) (hw:Region.wanted o (yielded ops a.tmps) = true)
  (h:∀ K':Act -> World -> Prop,Shut (∀ a w,S w -> (S w -> wpAnyH P md ops Q S fuel (listed.setIfInBounds i true) a w) -> K' a w) -> Oper.wp P o a w K' Q):wpAnyH P md ops Q S (fuel + 1) listed a w:=
 wpAnyH_ready hr (by simp) (AllReadyH.cons ho (fun K hK=>by
  rw [WA hw];exact h K hK) AllReadyH.nil)
def Region.nextU:List Oper -> List Bool -> Nat -> Option (Nat × Oper × Nat)
 | o :: os,b :: bs,k=>if b = true then Region.nextU os bs (k + 1) else (match o.dst with | some d=>some (k,o,d) | none=>none)
 | _,_,_=>none
theorem Region.nextU_spec:∀ (os:List Oper) (bs:List Bool) (k:Nat) {i:Nat} {o:Oper} {d:Nat},Region.nextU os bs k = some (i,o,d) -> k <= i /\ os[i - k]? = some o /\ o.dst = some d
 | [],_,_,i,o,d,h=>by simp [Region.nextU] at h
 | _ :: _,[],_,i,o,d,h=>by simp [Region.nextU] at h
 | o' :: os,b :: bs,k,i,o,d,h=>by
  unfold Region.nextU at h;split at h
  ·obtain ⟨h1,h2,h3⟩:=Region.nextU_spec os bs (k + 1) h;refine ⟨by omega,?_,h3⟩;rw [show i - k = (i - (k + 1)) + 1 by omega,WcQ];exact h2
  ·split at h
   ·rename_i d' hd;injection h with h
    simp only [Prod.mk.injEq] at h;obtain ⟨rfl,rfl,rfl⟩:=h;exact ⟨WK _,by simp,hd⟩
   ·cases h
def Region.okU (md:Region.Mode) (ops:Array Oper) (listed:Array Bool) (i:Nat):Bool:=Region.noSelect ops && Region.free md ops listed i && (Region.ready md ops listed).contains i
theorem Ja {S:World -> Prop} {i d:Nat} {oi:Oper} {v:Value} {fuel:Nat} {listed:Array Bool} {t:Array Value} {df:List Deferred} {w:World} (hn:Region.nextU ops.toList listed.toList 0 = some (i,oi,d)) (hb:Region.okU md ops listed i = true)
  (hQ:∀ c a w,Q (.panic c) (a.put (some d) v) w -> Q (.panic c) a w) (hy:Region.wanted oi (yielded ops t) = true /\ ∀ w,S w -> (execOp (Act.eval ⟨t,df⟩) oi).run P w = .ok (.value v) w) (hS:S w)
  (h:wpAnyH P md ops Q S fuel (listed.setIfInBounds i true) ⟨t.setIfInBounds d v,df⟩ w):wpAnyH P md ops Q S (fuel + 1) listed ⟨t,df⟩ w:=by
 obtain ⟨_,h2,h3⟩:=Region.nextU_spec _ _ _ hn;unfold Region.okU at hb;simp only [Bool.and_eq_true] at hb;exact Jq d (by simpa using h2) h3 hb.1.1 hb.1.2 hb.2 hQ hy hS h
theorem Jn {S:World -> Prop} {i d:Nat} {oi:Oper} {fuel:Nat} {listed:Array Bool} {t:Array Value} {df:List Deferred} {w:World} (hn:Region.nextU ops.toList listed.toList 0 = some (i,oi,d)) (hb:Region.okU md ops listed i = true)
  (hQ:∀ c a w,Q (.panic c) (a.put (some d) undef) w -> Q (.panic c) a w) (hw:Region.wanted oi (yielded ops t) = false) (hS:S w)
  (h:wpAnyH P md ops Q S fuel (listed.setIfInBounds i true) ⟨t.setIfInBounds d undef,df⟩ w):wpAnyH P md ops Q S (fuel + 1) listed ⟨t,df⟩ w:=by
 obtain ⟨_,h2,h3⟩:=Region.nextU_spec _ _ _ hn;unfold Region.okU at hb;simp only [Bool.and_eq_true] at hb;exact Za2 d (by simpa using h2) h3 hb.1.1 hb.1.2 hb.2 hQ hw hS h
end
end Go
namespace Go.Proofs.YtcjicjfbippmnaaGreat
open Go.RowKit Ear

structure LL (w:World) (A:Option Addr) (L:List Inn):Prop where
 lies:Lies w A (lcs L)
 inn:∀ x ∈ L,InOk w x
theorem LL.below {w w':World} {A:Option Addr} {L:List Inn} (h:LL w A L) (hb:Below w.heap.size w w'):LL w' A L:=⟨h.lies.below hb,fun x hx=>(h.inn x hx).below hb⟩
def Vcs (n:Nat) (vs:List (List Int)):Prop:=∀ x ∈ vs,x.length = n /\ ZJ (-1048576) 1048576 x = true
theorem Vcs.getD {n:Nat} {vs:List (List Int)} (h:Vcs n vs) {t:Nat} (ht:t < vs.length):(vs[t]?.getD []).length = n /\ ZJ (-1048576) 1048576 (vs[t]?.getD []) = true:=by
 rw [gE ht];exact h _ (gM ht)
theorem Vcs.len0 {n:Nat} {vs:List (List Int)} (h:Vcs n vs) (h0 : 0 < vs.length):len0 vs = n:=by
 cases vs with
 | nil=>simp at h0
 | cons x l=>exact (h x (WbA ..)).1
end Go.Proofs.YtcjicjfbippmnaaGreat
namespace Ear
open Go.Proofs.YtcjicjfbippmnaaGreat (Vcs)

abbrev ZaW:=Option (Nat × Nat × Rat)
def upd (G:Nat -> Nat -> Rat) (acc:ZaW) (i j:Nat):ZaW:=
 match acc with
 | none=>some (i,j,G i j)
 | some (a,b,q)=>if G i j < q then some (i,j,G i j) else some (a,b,q)
def Zb7 (G:Nat -> Nat -> Rat) (i:Nat) (acc:ZaW):Nat -> ZaW
 | 0=>acc
 | k + 1=>upd G (Zb7 G i acc k) i (i + 1 + k)
def YB (G:Nat -> Nat -> Rat) (n:Nat):Nat -> ZaW
 | 0=>none
 | i + 1=>Zb7 G i (YB G n i) (n - (i + 1))
def nA:ZaW -> Int | none=>-1 | some (a,_,_)=>a
def nB:ZaW -> Int | none=>-1 | some (_,b,_)=>b
def nQ:ZaW -> Rat | none=>((0:Int):Rat) | some (_,_,q)=>q
def NearOk (G:Nat -> Nat -> Rat) (n:Nat) (P:Nat -> Nat -> Prop) (acc:ZaW):Prop:=
 match acc with
 | none=>∀ i j,¬ P i j
 | some (a,b,q)=>a < b /\ b < n /\ P a b /\ q = G a b /\ ∀ i j,P i j -> q <= G i j
theorem NearOk.upd {G:Nat -> Nat -> Rat} {n:Nat} {P P':Nat -> Nat -> Prop} {acc:ZaW} {i j:Nat} (h:NearOk G n P acc) (hij:i < j) (hj:j < n) (hP:∀ x y,P' x y ↔ P x y ∨ (x = i /\ y = j)):NearOk G n P' (upd G acc i j):=by
 unfold Ear.upd;cases acc with
 | none=>
  refine ⟨hij,hj,(hP _ _).2 (.inr ⟨rfl,rfl⟩),rfl,fun x y hxy=>?_⟩;rcases (hP _ _).1 hxy with h1 | ⟨rfl,rfl⟩
  ·exact absurd h1 (h x y)
  ·exact Rat.le_refl
 | some t=>
  obtain ⟨a,b,q⟩:=t;obtain ⟨h1,h2,h3,h4,h5⟩:=h;simp only;split
  ·rename_i hlt;refine ⟨hij,hj,(hP _ _).2 (.inr ⟨rfl,rfl⟩),rfl,fun x y hxy=>?_⟩;rcases (hP _ _).1 hxy with h6 | ⟨rfl,rfl⟩
   ·exact Rat.le_trans (Rat.le_of_lt hlt) (h5 x y h6)
   ·exact Rat.le_refl
  ·rename_i hlt;refine ⟨h1,h2,(hP _ _).2 (.inl h3),h4,fun x y hxy=>?_⟩;rcases (hP _ _).1 hxy with h6 | ⟨rfl,rfl⟩
   ·exact h5 x y h6
   ·exact Rat.not_lt.1 hlt
theorem Zel {G:Nat -> Nat -> Rat} {n i:Nat} {acc:ZaW} (h:NearOk G n (fun x y=>x < i /\ x < y /\ y < n) acc):∀ k,i + k < n -> NearOk G n (fun x y=>(x < i /\ x < y /\ y < n) ∨ (x = i /\ i < y /\ y < i + 1 + k)) (Zb7 G i acc k):=by
 intro k
 induction k with
 | zero=>
  intro _;show NearOk G n _ acc;have e:(fun x y=>(x < i /\ x < y /\ y < n) ∨ (x = i /\ i < y /\ y < i + 1 + 0)) = fun x y=>x < i /\ x < y /\ y < n:=by
   funext x y;apply propext;constructor
   ·rintro (h | h)
    ·exact h
    ·omega
   ·exact .inl
  rw [e];exact h
 | succ k ih=>
  intro hk;exact (ih (by omega)).upd (by omega) (by omega) (fun x y=>by omega)
theorem ZcC {G:Nat -> Nat -> Rat} {n:Nat}:∀ i,i <= n -> NearOk G n (fun x y=>x < i /\ x < y /\ y < n) (YB G n i):=by
 intro i
 induction i with
 | zero=>intro _ x y h;omega
 | succ i ih=>
  intro hi;have h:=Zel (ih (by omega)) (n - (i + 1)) (by omega);have e:(fun x y=>(x < i /\ x < y /\ y < n) ∨ (x = i /\ i < y /\ y < i + 1 + (n - (i + 1)))) = fun x y=>x < i + 1 /\ x < y /\ y < n:=by
   funext x y;apply propext;omega
  rw [e] at h;exact h
theorem Zdp {G:Nat -> Nat -> Rat} {n:Nat} (hn : 1 < n):∃ a b q,YB G n n = some (a,b,q) /\ a < b /\ b < n /\ q = G a b /\ ∀ i j,i < j -> j < n -> q <= G i j:=by
 have h:=ZcC (G:=G) (n:=n) n nR;cases hs:YB G n n with
 | none=>rw [hs] at h;exact absurd ⟨by omega,by omega,hn⟩ (h 0 1)
 | some t=>
  obtain ⟨a,b,q⟩:=t;rw [hs] at h;obtain ⟨h1,h2,_,h4,h5⟩:=h;exact ⟨a,b,q,rfl,h1,h2,h4,fun i j hi hj=>h5 i j ⟨by omega,hi,hj⟩⟩
abbrev Clu:=List Int × List (List Int)
def cG (S:List Clu) (i j:Nat):Rat:=Zgr (S[i]?.getD ([],[])).2 (S[j]?.getD ([],[])).2
def Zh8 (S:List Clu):ZaW:=YB (cG S) S.length S.length
def ZaA (S:List Clu) (a b:Nat):List Clu:=
 (S.set a ((S[a]?.getD ([],[])).1 ++ (S[b]?.getD ([],[])).1,(S[a]?.getD ([],[])).2 ++ (S[b]?.getD ([],[])).2)).eraseIdx b
def Zas (most:Int) (lim:Rat) (S:List Clu):Bool:=decide ((S.length:Int) <= most) && decide (lim < nQ (Zh8 S))
def clu (most:Int) (lim:Rat):Nat -> List Clu -> List Clu
 | 0,S=>S
 | f + 1,S=>if S.length <= 1 then S else if Zas most lim S then S else clu most lim f (ZaA S (nA (Zh8 S)).toNat (nB (Zh8 S)).toNat)
def Xo (gs:List (List (List Int))):List Clu:=gs.zipIdx.map fun g=>([(g.2:Int)],g.1)
def YW (o:List Int) (ms:List Int) (c:Int):List Int:=ms.foldl (fun o g=>o.set g.toNat c) o
def ZbT (S:List Clu) (n:Nat):Nat -> List Int
 | 0=>List.replicate n 0
 | k + 1=>YW (ZbT S n k) (S[k]?.getD ([],[])).1 (k:Int)
def Zh7 (S:List Clu) (n:Nat):List Int:=ZbT S n S.length
theorem Vn (c:Int):∀ (ms o:List Int),(YW o ms c).length = o.length:=by
 intro ms
 induction ms with
 | nil=>intro o;rfl
 | cons g l ih=>intro o;show (YW (o.set g.toNat c) l c).length = _;rw [ih];simp
theorem UV (S:List Clu) (n:Nat):∀ k,(ZbT S n k).length = n:=by
 intro k
 induction k with
 | zero=>simp [ZbT]
 | succ k ih=>unfold ZbT;rw [Vn,ih]
theorem Zca (o ms:List Int) (c:Int) {j:Nat} (hj:j < ms.length):YW o (ms.take (j + 1)) c = (YW o (ms.take j) c).set (ms[j].toNat) c:=by
 unfold YW;rw [Wo hj,List.foldl_append];rfl
theorem ZhU {α:Type} (l:List α) {a b:Nat} (hab:a < b) (hb:b < l.length):∃ O M R x y,l = O ++ x :: (M ++ y :: R) /\ a = O.length /\ b = O.length + 1 + M.length:=by
 have ha:a < l.length:=by omega
 have e1:l = l.take a ++ l[a] :: l.drop (a + 1):=by rw [<- Wv ha,WaE]
 have hb':b - (a + 1) < (l.drop (a + 1)).length:=by simp;omega
 have e2:l.drop (a + 1) = (l.drop (a + 1)).take (b - (a + 1)) ++ (l.drop (a + 1))[b - (a + 1)] :: (l.drop (a + 1)).drop (b - (a + 1) + 1):=by rw [<- Wv hb',WaE]
 refine ⟨l.take a,(l.drop (a + 1)).take (b - (a + 1)),(l.drop (a + 1)).drop (b - (a + 1) + 1),l[a],(l.drop (a + 1))[b - (a + 1)],?_,by simp;omega,by simp;omega⟩;rw [<- e2];exact e1
theorem ZcP {α:Type} (O R:List α) (x d : α):(O ++ x :: R)[O.length]?.getD d = x:=by simp
theorem ZeS (O M R:List Clu) (x y:Clu):ZaA (O ++ x :: (M ++ y :: R)) O.length (O.length + 1 + M.length) = O ++ (x.1 ++ y.1,x.2 ++ y.2) :: (M ++ R):=by
 have e1:O ++ x :: (M ++ y :: R) = (O ++ x :: M) ++ y :: R:=by simp
 have hl:O.length + 1 + M.length = (O ++ x :: M).length:=by simp;omega
 have g1:(O ++ x :: (M ++ y :: R))[O.length]?.getD ([],[]) = x:=ZcP O _ x _;have g2:(O ++ x :: (M ++ y :: R))[O.length + 1 + M.length]?.getD ([],[]) = y:=by rw [e1,hl];exact ZcP _ _ y _
 unfold ZaA;rw [g1,g2,WaJ _ _ nR,WcO,WeA,WfE (by omega)];congr 1;rw [show O.length + 1 + M.length - O.length = M.length + 1 by omega,List.eraseIdx_cons_succ];congr 1;rw [WfE nR,WcO,List.eraseIdx_cons_zero]
structure CluI (d n:Nat) (S:List Clu):Prop where
 vcs:∀ x ∈ S,Vcs d x.2
 pos:∀ x ∈ S,0 < x.2.length
 tot:(S.map fun x=>x.2.length).sum <= 10000
 mem:∀ x ∈ S,∀ g ∈ x.1,0 <= g /\ g < (n:Int)
 cnt:(S.map fun x=>x.1.length).sum <= n
theorem CluI.join {d n:Nat} {S:List Clu} (h:CluI d n S) {a b:Nat} (hab:a < b) (hb:b < S.length):CluI d n (ZaA S a b):=by
 obtain ⟨O,M,R,x,y,rfl,rfl,rfl⟩:=ZhU S hab hb;rw [ZeS];obtain ⟨h1,h2,h3,h4,h5⟩:=h;have hx:x ∈ O ++ x :: (M ++ y :: R):=by simp
 have hy:y ∈ O ++ x :: (M ++ y :: R):=by simp
 have hsub:∀ z,z ∈ O ++ (x.1 ++ y.1,x.2 ++ y.2) :: (M ++ R) -> z = (x.1 ++ y.1,x.2 ++ y.2) ∨ z ∈ O ++ x :: (M ++ y :: R):=by
  intro z hz;simp only [List.mem_append,List.mem_cons] at hz ⊢;rcases hz with h | h | h | h
  ·exact .inr (.inl h)
  ·exact .inl h
  ·exact .inr (.inr (.inr (.inl h)))
  ·exact .inr (.inr (.inr (.inr (.inr h))))
 refine ⟨?_,?_,?_,?_,?_⟩
 ·intro z hz;rcases hsub z hz with rfl | hz
  ·intro v hv;rcases WY.1 hv with hv | hv
   ·exact h1 x hx v hv
   ·exact h1 y hy v hv
  ·exact h1 z hz
 ·intro z hz;rcases hsub z hz with rfl | hz
  ·have:=h2 x hx;simp only [List.length_append];omega
  ·exact h2 z hz
 ·simp at h3 ⊢;omega
 ·intro z hz;rcases hsub z hz with rfl | hz
  ·intro v hv;rcases WY.1 hv with hv | hv
   ·exact h4 x hx v hv
   ·exact h4 y hy v hv
  ·exact h4 z hz
 ·simp at h5 ⊢;omega
theorem XB {α:Type} (f : α -> Nat) (l:List α) {x : α} (h:x ∈ l):f x <= (l.map f).sum:=by
 induction l with
 | nil=>cases h
 | cons y l ih=>
  simp only [List.map_cons,List.sum_cons];rcases WE.1 h with rfl | h
  ·omega
  ·have:=ih h;omega
theorem CluI.len {d n:Nat} {S:List Clu} (h:CluI d n S) {x:Clu} (hx:x ∈ S):x.2.length <= 10000 /\ x.1.length <= n:=⟨tR (XB (fun x:Clu=>x.2.length) S hx) h.tot,tR (XB (fun x:Clu=>x.1.length) S hx) h.cnt⟩
theorem Zch {gs:List (List (List Int))} (h:ZeX gs = 0):gs.length <= 60 /\ gs.flatten.length <= 10000 /\ len0 gs.flatten <= 64 /\ ∀ g ∈ gs,0 < g.length /\ Vcs (len0 gs.flatten) g:=by
 unfold ZeX at h;split at h
 ·cases h
 ·rename_i h0;split at h
  ·rename_i hg;unfold QD at hg;rw [Wy,WP] at hg;refine ⟨by omega,by omega,?_,fun g hgm=>⟨?_,fun v hv=>?_⟩⟩
   ·cases hf:gs.flatten with
    | nil=>decide
    | cons v l=>rw [hf] at hg;exact (Vf hg.2 (WbA ..)).2.2.1
   ·have:=hg.1 g hgm;cases g with
    | nil=>simp at this
    | cons v l=>simp
   ·have:=Vf hg.2 (List.mem_flatten.2 ⟨g,hgm,hv⟩);exact ⟨this.1,this.2.2.2⟩
  ·cases h
theorem Zb2 (gs:List (List (List Int))) (g:List (List Int)):Xo (gs ++ [g]) = Xo gs ++ [([(gs.length:Int)],g)]:=by
 unfold Xo;rw [List.zipIdx_append,WaM];simp
theorem Zec {gs:List (List (List Int))} (h:ZeX gs = 0):CluI (len0 gs.flatten) gs.length (Xo gs):=by
 obtain ⟨h1,h2,h3,h4⟩:=Zch h;have hm:∀ x ∈ Xo gs,∃ (k:Nat) (hk:k < gs.length),x = ([(k:Int)],gs[k]):=by
  intro x hx;obtain ⟨g,hg,rfl⟩:=WaO.1 hx;obtain ⟨k,hk,e⟩:=Wb0 hg;simp only [List.length_zipIdx] at hk;rw [List.getElem_zipIdx] at e;exact ⟨k,hk,by rw [<- e];simp⟩
 have e1:(Xo gs).map (fun x=>x.2.length) = gs.map List.length:=by
  unfold Xo;rw [Wb9];have:((fun x:Clu=>x.2.length) ∘ fun g:List (List Int) × Nat=>([(g.2:Int)],g.1)) = List.length ∘ Prod.fst:=rfl;rw [this,<- Wb9,List.zipIdx_map_fst]
 have e2:((Xo gs).map fun x=>x.1.length).sum = gs.length:=by
  have:∀ (gs:List (List (List Int))) (n:Nat),(((gs.zipIdx n).map fun g=>(([(g.2:Int)],g.1):Clu)).map fun x=>x.1.length).sum = gs.length:=by
   intro gs
   induction gs with
   | nil=>intro n;rfl
   | cons g l ih=>intro n;simp only [List.zipIdx_cons,List.map_cons,List.sum_cons,ih,List.length_cons,List.length_nil];omega
  exact this gs 0
 refine ⟨?_,?_,?_,?_,?_⟩
 ·intro x hx;obtain ⟨k,hk,rfl⟩:=hm x hx;exact (h4 _ (gM hk)).2
 ·intro x hx;obtain ⟨k,hk,rfl⟩:=hm x hx;exact (h4 _ (gM hk)).1
 ·rw [e1,<- Wd5];exact h2
 ·intro x hx g hg;obtain ⟨k,hk,rfl⟩:=hm x hx;simp at hg;omega
 ·rw [e2];exact WK _
end Ear
namespace Go.Proofs.YtcjicjfbippmnaaGreat
open Go.RowKit Ear

abbrev Grp:=Option Addr × Nat × List Inn
abbrev gcs (G:List Grp):List Value:=G.map fun g=>Value.slice g.1 g.2.2.length g.2.1
abbrev gvs (G:List Grp):List (List (List Int)):=G.map fun g=>JF g.2.2
structure GG (w:World) (A:Option Addr) (G:List Grp):Prop where
 lies:Lies w A (gcs G)
 grp:∀ g ∈ G,LL w g.1 g.2.2
theorem GG.below {w w':World} {A:Option Addr} {G:List Grp} (h:GG w A G) (hb:Below w.heap.size w w'):GG w' A G:=⟨h.lies.below hb,fun g hg=>(h.grp g hg).below hb⟩
theorem Lies.gat {w:World} {A:Option Addr} {l:List Grp} (h:Lies w A (gcs l)) {k:Nat} (hk:k < l.length) :
  ∃ b off,A = some ⟨b,off,none⟩ /\ b < w.heap.size /\ w.cell? ⟨b,off + k,none⟩ = some (.slice l[k].1 l[k].2.2.length l[k].2.1):=by
 obtain ⟨b,off,e,hlt,hc⟩:=h (by simp;omega);exact ⟨b,off,e,hlt,hc k _ (by simp [gE hk])⟩
theorem ZbA (x:Int) (w:World):Calls Tryz.prog 113 #[.int .i64 x] w fun e w'=>e = .returned (.bool (!inR (-1048576) 1048576 x)) /\ w = w':=by
 by_cases h1:x < -1048576
 ·go_enter Tryz.func113,Tryz.ntmps113;go_wp2_with fail;go_ret;exact ⟨JB (by simp [inR];omega),rfl⟩
 ·by_cases h2 : 1048576 < x
  ·go_enter Tryz.func113,Tryz.ntmps113;go_wp2_with fail;go_ret;exact ⟨JB (by simp [inR];omega),rfl⟩
  ·go_enter Tryz.func113,Tryz.ntmps113;go_wp2_with fail;go_ret;exact ⟨JB (by simp [inR];omega),rfl⟩
theorem Yi:Pred 113 (fun x=>!inR (-1048576) 1048576 x):=⟨WcL Tryz.func113 (by kernel_rfl) rfl,ZbA⟩
theorem U9 (A:Option Addr) (c:Nat) (G:List Grp) (w:World) (h:GG w A G) (hn:G.length <= 1000) (hg:Hid (∀ g ∈ G,g.2.2.length <= 10000)) (r:Int) (hr:Hid (ZeX (gvs G) = r)) :
  Calls Tryz.prog 55 #[.slice A G.length c] w fun e w'=>e = .returned (.int .i64 r) /\ w = w':=by
 have HGL:Hid ((gvs G).length = G.length):=zH (by simp);have HFL:=zH (fun k=>ZhN (gs:=gvs G) (fun g hg'=>by simp only [gvs,List.mem_map] at hg';obtain ⟨x,hx,rfl⟩:=hg';simpa using hg.out x hx) k);have HGK:Hid (∀ k (hk:k < G.length),(gvs G)[k]'(by rw [HGL.out];exact hk) = JF G[k].2.2):=zH (fun k hk=>by simp);have HFS:Hid (∀ k (hk:k < G.length),flK (gvs G) (k + 1) = flK (gvs G) k ++ JF G[k].2.2):=zH (fun k hk=>by rw [ZaG (by rw [HGL.out];exact hk),HGK.out k hk]);have HALL:Hid (flK (gvs G) G.length = (gvs G).flatten):=zH (Zci (by rw [HGL.out];omega));have H:=zH h;clear h;go_enter Tryz.func55,Tryz.ntmps55;go_wp2_with fail;go_loop [3,13] (fun n i=>∃ k:Nat,k <= G.length /\ i = .int .i64 k /\ n = .int .i64 ((flK (gvs G) k).length:Nat)) (fun _ i=>G.length - (intOf i).toNat)
 case atStart=>exact ⟨0,by omega,rfl,by rw [ZaF];rfl⟩
 case round=>
  obtain ⟨k,hk,rfl,rfl⟩:=hrel;have hfl:=HFL.out k (by omega);by_cases hlt:k < G.length
  ·obtain ⟨bk,off,rfl,hbk,hc⟩:=H.out.lies.gat hlt;have hgk:=hg.out _ (gM hlt);have HS:Hid ((flK (gvs G) (k + 1)).length = (flK (gvs G) k).length + G[k].2.2.length):=zH (by rw [HFS.out k hlt];simp);generalize G[k] = g at *
   generalize hm:(flK (gvs G) k).length = m at *
   have HM:=zH hm;clear hm;go_wp2_with fail;exact ⟨⟨k + 1,by omega,by go_num,by rw [HS.out];go_num⟩,by simp [intOf];omega⟩
  ·obtain rfl:k = G.length:=by omega
   rw [HALL.out] at hfl ⊢;have hr0:=hr.out;unfold ZeX at hr0;rw [HGL.out] at hr0;have HR0:=zH hr0;clear hr0;generalize hm:(gvs G).flatten.length = m at *
   by_cases hlong : 60 < G.length ∨ 10000 < m
   ·have e5:r = 5:=(by rw [<- HR0.out,WA hlong]);subst e5;clear hm HR0;rcases (show 60 < G.length ∨ (¬ 60 < G.length /\ 10000 < m) by omega) with h1 | ⟨h1,h2⟩
    ·go_wp2_with fail;go_ret;exact ⟨rfl,rfl⟩
    ·go_wp2_with fail;go_ret;exact ⟨rfl,rfl⟩
   ·have h1:¬ 60 < G.length:=(by omega);have h2:¬ 10000 < m:=(by omega);have HBAD:Hid (QD (gvs G) = false -> r = 2):=zH (fun hb=>by rw [<- HR0.out,Ww hlong,Ww (by rw [hb];decide)]);have HGOOD:Hid (QD (gvs G) = true -> r = 0):=zH (fun hb=>by rw [<- HR0.out,Ww hlong,WA hb]);clear hm HR0 hlong hr;go_wp2_with fail;go_loop [6,31] (fun s i=>∃ k:Nat,k <= G.length /\ i = .int .i64 k /\ s = .int .i64 (len0 (flK (gvs G) k):Nat) /\ Hid (∀ g ∈ (gvs G).take k,g ≠ []) /\ Hid (ZW (flK (gvs G) k) = true)) (fun _ i=>G.length - (intOf i).toNat)
    case atStart=>exact ⟨0,by omega,rfl,by rw [ZaF];rfl,zH (by simp),zH (by rw [ZaF];rfl)⟩
    case round=>
     obtain ⟨k,hk,rfl,rfl,HNE,HVO⟩:=hrel;by_cases hlt:k < G.length
     ·obtain ⟨bk,off,rfl,hbk,hc⟩:=H.out.lies.gat hlt;have hgk:=hg.out _ (gM hlt);have HLL:=zH (H.out.grp _ (gM hlt));have hgk2:=HGK.out k hlt;have HEMP:Hid (G[k].2.2.length = 0 -> r = 2):=zH (fun he=>HBAD.out (ZeW (k:=k) (by rw [HGL.out];exact hlt) (by rw [hgk2];simpa using he)));have HVEC:Hid (∀ j (hj:j < G[k].2.2.length),ZW (flK (gvs G) k ++ (JF G[k].2.2).take j ++ [G[k].2.2[j].2.2]) = false -> r = 2):=zH (fun j hj hb=>HBAD.out (ZhF (k:=k) (j:=j) (by rw [HGL.out];exact hlt) (by rw [hgk2];simpa using hj) (by simp only [hgk2];simpa using hb)));have HNX:Hid (flK (gvs G) (k + 1) = flK (gvs G) k ++ JF G[k].2.2):=zH (HFS.out k hlt);have HNE2:Hid (G[k].2.2.length ≠ 0 -> ∀ g ∈ (gvs G).take (k + 1),g ≠ []):=zH (fun hne g hg'=>by
       rw [Wo (by rw [HGL.out];exact hlt),WY] at hg';rcases hg' with h' | h'
       ·exact HNE.out g h'
       ·rw [WS] at h';rw [h',hgk2];intro e;exact hne (by simpa using e))
      clear hgk2 HNE;generalize G[k] = g at *
      obtain ⟨gA,gc,gl⟩:=g;simp only at *
      by_cases h0:gl.length = 0
      ·have hz:=HEMP.out h0;subst hz;have q0:((gl.length:Int) == 0) = true:=(by simp [h0]);clear HEMP HVEC HNX HNE2 h0 HBAD HGOOD;go_wp2_with fail;go_ret;exact ⟨rfl,rfl⟩
      ·have q0:((gl.length:Int) == 0) = false:=(by rw [Wz];omega);have HNE3:=zH (HNE2.out h0);clear HEMP HNE2;go_wp2_with fail;go_loop [6,40] (fun s i=>∃ j:Nat,j <= gl.length /\ i = .int .i64 j /\ s = .int .i64 (len0 (flK (gvs G) k ++ (JF gl).take j):Nat) /\ Hid (ZW (flK (gvs G) k ++ (JF gl).take j) = true)) (fun _ i=>gl.length - (intOf i).toNat)
       case atStart=>exact ⟨0,by omega,rfl,by simp,zH (by simpa using HVO.out)⟩
       case round=>
        obtain ⟨j,hj,rfl,rfl,HV⟩:=hrel;by_cases hjl:j < gl.length
        ·obtain ⟨bx,ox,rfl,hbx,hcx⟩:=HLL.out.lies.lat hjl;have hx:=HLL.out.inn _ (gM hjl);have HTK:Hid ((JF gl).take (j + 1) = (JF gl).take j ++ [gl[j].2.2]):=zH (by rw [Wo (by simpa using hjl)];simp);have hbad:=HVEC.out j hjl;generalize hP:flK (gvs G) k ++ (JF gl).take j = P at *
         have HP:=zH hP;clear hP;have HZ:Hid (len0 P = 0 ↔ P = []):=zH (ZeM HV.out);have HSN:=zH (Zc8 P gl[j].2.2);have HL0:=zH (ZeN (vs:=P) (v:=gl[j].2.2));generalize gl[j] = X at *
         obtain ⟨XA,Xc,xl⟩:=X;simp only at *
         obtain ⟨hxl,_,hxn,_,_⟩:=hx;have HXL:=zH hxl;obtain ⟨s1,hs1⟩:∃ s1:Nat,s1 = if P = [] then xl.length else len0 P:=⟨_,rfl⟩;rw [<- hs1] at HSN HL0;have HBAD2:Hid (okV s1 xl = false -> r = 2):=zH (fun hb=>hbad (by rw [HSN.out,hb,WdC]));have HGD:Hid (okV s1 xl = true -> ZW (flK (gvs G) k ++ (JF gl).take (j + 1)) = true):=zH (fun hb=>by rw [HTK.out,<- Wa6,HP.out,HSN.out,hb,HV.out];rfl);have HGL0:Hid (len0 (flK (gvs G) k ++ (JF gl).take (j + 1)) = s1):=zH (by rw [HTK.out,<- Wa6,HP.out,HL0.out]);clear HSN HL0 hbad hxl;have HS1:Hid (len0 P ≠ 0 -> s1 = len0 P):=zH (fun hne=>by rw [hs1,Ww (fun e=>hne (HZ.out.2 e))]);have HS0:Hid (len0 P = 0 -> s1 = xl.length):=zH (fun hne=>by rw [hs1,WA (HZ.out.1 hne)]);clear hs1 HZ;generalize len0 P = s0 at *
         have hkey:(((s0:Int) == 0) = true /\ s1 = xl.length) ∨ (((s0:Int) == 0) = false /\ s1 = s0):=by
          by_cases z:s0 = 0
          ·exact .inl ⟨by simp [z],HS0.out z⟩
          ·exact .inr ⟨by simp;omega,HS1.out z⟩
         clear HS1 HS0;cases c0:decide (xl.length = s1) with
         | false=>
          have c1:=Wa7 c0;clear c0;rcases hkey with ⟨_,e⟩ | ⟨qz,rfl⟩
          ·exact absurd e.symm c1
          have hz:=HBAD2.out (by rw [WQ];intro ht;exact c1 (Ug.1 ht).1);subst hz;have q1:((xl.length:Int) != (s1:Int)) = true:=(by simp;omega);clear HBAD2 HGD HGL0 c1 HBAD HGOOD HVEC;go_wp2_with fail;go_ret;exact ⟨rfl,rfl⟩
         | true=>
          obtain rfl:xl.length = s1:=WaB c0;clear c0;cases c4:ZJ (-1048576) 1048576 xl with
          | true=>
           have C4:=zH c4;clear c4;by_cases c2 : 1 <= xl.length
           ·by_cases c3:xl.length <= 64
            ·have HY:=zH (HGD.out (Ug.2 ⟨rfl,c2,c3,C4.out⟩));clear HGD HBAD2;rcases hkey with ⟨qz,_⟩ | ⟨qz,e⟩
             ·go_wp2_with fail;refine (Yl _ _ Yi XA Xc xl _ HXL.out (by omega)).mono ?_;rintro e w' ⟨rfl,rfl⟩;rw [Yb,C4.out];go_wp2_with fail;exact ⟨⟨j + 1,by omega,by go_num,by rw [HGL0.out],HY⟩,by simp [intOf];omega⟩
             ·subst e;go_wp2_with fail;refine (Yl _ _ Yi XA Xc xl _ HXL.out (by omega)).mono ?_;rintro e w' ⟨rfl,rfl⟩;rw [Yb,C4.out];go_wp2_with fail;exact ⟨⟨j + 1,by omega,by go_num,by rw [HGL0.out],HY⟩,by simp [intOf];omega⟩
            ·have hz:=HBAD2.out (by rw [WQ];intro ht;exact c3 (Ug.1 ht).2.2.1);subst hz;clear HBAD2 HGD HGL0 HBAD HGOOD HVEC;rcases hkey with ⟨qz,_⟩ | ⟨qz,e⟩
             ·go_wp2_with fail;go_ret;exact ⟨rfl,rfl⟩
             ·subst e;go_wp2_with fail;go_ret;exact ⟨rfl,rfl⟩
           ·have hz:=HBAD2.out (by rw [WQ];intro ht;exact c2 (Ug.1 ht).2.1);subst hz;clear HBAD2 HGD HGL0 HBAD HGOOD HVEC;rcases hkey with ⟨qz,_⟩ | ⟨qz,e⟩
            ·go_wp2_with fail;go_ret;exact ⟨rfl,rfl⟩
            ·subst e;go_wp2_with fail;go_ret;exact ⟨rfl,rfl⟩
          | false=>
           have C4:=zH c4;have hz:=HBAD2.out (by rw [WQ];intro ht;have:=(Ug.1 ht).2.2.2;rw [c4] at this;cases this);subst hz;clear c4 HBAD2 HGD HGL0 HBAD HGOOD HVEC;rcases (show (xl.length < 1) ∨ (1 <= xl.length /\ 64 < xl.length) ∨ (1 <= xl.length /\ xl.length <= 64) by omega) with c2 | ⟨c2,c3⟩ | ⟨c2,c3⟩
           all_goals
            rcases hkey with ⟨qz,_⟩ | ⟨qz,e⟩
            ·go_wp2_with (go_at_call 112;refine (Yl _ _ Yi XA Xc xl _ HXL.out (by omega)).mono ?_;rintro e w' ⟨rfl,rfl⟩;rw [Yb,C4.out]);go_ret;exact ⟨rfl,rfl⟩
            ·subst e;go_wp2_with (go_at_call 112;refine (Yl _ _ Yi XA Xc xl _ HXL.out (by omega)).mono ?_;rintro e w' ⟨rfl,rfl⟩;rw [Yb,C4.out]);go_ret;exact ⟨rfl,rfl⟩
        ·obtain rfl:j = gl.length:=(by omega);have HF:Hid (flK (gvs G) k ++ (JF gl).take gl.length = flK (gvs G) (k + 1)):=zH (by rw [HNX.out,Wm (by simp)]);rw [HF.out] at HV ⊢;clear HVEC;go_wp2_with fail;exact ⟨⟨k + 1,by omega,by go_num,rfl,HNE3,HV⟩,by simp [intOf];omega⟩
     ·obtain rfl:k = G.length:=(by omega);have hz:r = 0:=HGOOD.out (by
       unfold QD;rw [Wy];refine ⟨?_,by rw [<- HALL.out];exact HVO.out⟩;rw [WP];intro g hg';have:=HNE.out g (by rw [Wm (by rw [HGL.out];omega)];exact hg');simpa using this)
      subst hz;clear HBAD HGOOD;go_wp2_with fail;go_ret;exact ⟨rfl,rfl⟩
theorem ZE {A:Option Addr} {w:World} {xs:List Value} (h:Lies w A xs) (hA:A = none):xs = []:=by
 cases xs with
 | nil=>rfl
 | cons x l=>
  obtain ⟨b,off,e,_⟩:=h (by simp);rw [hA] at e;cases e
theorem Yt:(Tryz.prog.info? 9).map (fun i=>(i.zero,i.size,i.bytes)) = some (some (.string ByteArray.empty),1,16):=by kernel_rfl
theorem ZeU:(Tryz.prog.info? 79).map (fun i=>(i.zero,i.size,i.bytes)) = some (some (.agg #[.string ByteArray.empty,.slice none 0 0,.bool false,.slice none 0 0,.slice none 0 0,.bool false,.slice none 0 0,.slice none 0 0]),8,152):=by kernel_rfl
theorem Zb:(Tryz.prog.info? 76).map (fun i=>(i.zero,i.size,i.bytes)) = some (some (.agg #[.int .i64 0,.string ByteArray.empty,.slice none 0 0]),3,48):=by kernel_rfl
theorem ZbP (A:Option Addr) (c n:Nat) (xs:List Value) (w:World) (h:Lies w A xs) (hx:xs.length = n * 1) (h1:∀ u ∈ xs,u.oneCell' = true) (hA:A = none -> c = 0) (hn:n <= 1000000) :
  Calls Tryz.prog 69 #[.slice A n c] w fun e w'=>∃ A' c',e = .returned (.slice A' n c') /\ w'.ownsRow w.heap.size 40 1 (.slice A' n c') n xs /\ RowKit.Below w.heap.size w w':=by
 obtain ⟨i0,hi0,hz0,hz1,hz2⟩:=WaI U5;have HI:=zH hi0;have HZ0:=zH hz0;have HZ1:=zH hz1;have HZ2:=zH hz2;clear hi0 hz0 hz1 hz2;cases A with
 | none=>
  have hxs:=ZE h rfl;subst hxs;obtain rfl:n = 0:=by simp at hx;omega
  obtain rfl:=hA rfl;have hnil:∀ W,(binOp .eql 22 (.slice none 0 0) (.slice none 0 0)).run Tryz.prog W = .ok (.bool true) W:=fun W=>WaD W 22 40 none 0 0 0 0 Tryz.underlying22;go_enter Tryz.func69,Tryz.ntmps69;go_wp2_with fail;go_ret;exact ⟨none,0,rfl,WJ _ _ _ _,WcB _ _⟩
 | some ad=>
  clear hA;have hnil:∀ W,(binOp .eql 22 (.slice (some ad) n c) (.slice none 0 0)).run Tryz.prog W = .ok (.bool false) W:=fun W=>WaD W 22 40 (some ad) n c 0 0 Tryz.underlying22;have hnews:=zH (h.news);have HX:=zH hx;clear hx;go_enter Tryz.func69,Tryz.ntmps69;go_wp2_with (at_builtin;refine WbV _ rfl (.tmp 5) (.tmp 6) _ rfl w.heap.size 40 i0 _ 1 24 Tryz.underlying22 HI.out HZ0.out HZ1.out HZ2.out rfl (by omega) (.slice (some ⟨w.heap.size,0,none⟩) 0 0) 0 [] rfl (WcA w #[] 0 nR (by simp) rfl) ad n c xs rfl HX.out (hnews.out _) h1 (by unfold maxLen;omega) (by omega) (by simp) ?_;intro v' w1 hown1 hgrow _ hat);go_ret;obtain ⟨A',c',rfl⟩:=Xf hown1;refine ⟨A',c',by rw [WH];rfl,by simpa using hown1,(bR.alloc nR _).grown hgrow (by simp) (fun k hk=>?_)⟩;simp [Value.ownBlock] at hk;omega
theorem Ur (A:Option Addr) (c n:Nat) (xs:List Value) (w:World) (h:Lies w A xs) (hx:xs.length = n * 1) (h1:∀ u ∈ xs,u.oneCell' = true) (hA:A = none -> c = 0) (hn:n <= 1000000) :
  Calls Tryz.prog 76 #[.slice A n c] w fun e w'=>∃ A' c',e = .returned (.slice A' n c') /\ w'.ownsRow w.heap.size 9 1 (.slice A' n c') n xs /\ RowKit.Below w.heap.size w w':=by
 obtain ⟨i0,hi0,hz0,hz1,hz2⟩:=WaI Yt;have HI:=zH hi0;have HZ0:=zH hz0;have HZ1:=zH hz1;have HZ2:=zH hz2;clear hi0 hz0 hz1 hz2;cases A with
 | none=>
  have hxs:=ZE h rfl;subst hxs;obtain rfl:n = 0:=by simp at hx;omega
  obtain rfl:=hA rfl;have hnil:∀ W,(binOp .eql 74 (.slice none 0 0) (.slice none 0 0)).run Tryz.prog W = .ok (.bool true) W:=fun W=>WaD W 74 9 none 0 0 0 0 Tryz.underlying74;go_enter Tryz.func76,Tryz.ntmps76;go_wp2_with fail;go_ret;exact ⟨none,0,rfl,WJ _ _ _ _,WcB _ _⟩
 | some ad=>
  clear hA;have hnil:∀ W,(binOp .eql 74 (.slice (some ad) n c) (.slice none 0 0)).run Tryz.prog W = .ok (.bool false) W:=fun W=>WaD W 74 9 (some ad) n c 0 0 Tryz.underlying74;have hnews:=zH (h.news);have HX:=zH hx;clear hx;go_enter Tryz.func76,Tryz.ntmps76;go_wp2_with (at_builtin;refine WbV _ rfl (.tmp 5) (.tmp 6) _ rfl w.heap.size 9 i0 _ 1 16 Tryz.underlying74 HI.out HZ0.out HZ1.out HZ2.out rfl (by omega) (.slice (some ⟨w.heap.size,0,none⟩) 0 0) 0 [] rfl (WcA w #[] 0 nR (by simp) rfl) ad n c xs rfl HX.out (hnews.out _) h1 (by unfold maxLen;omega) (by omega) (by simp) ?_;intro v' w1 hown1 hgrow _ hat);go_ret;obtain ⟨A',c',rfl⟩:=Xf hown1;refine ⟨A',c',by rw [WH];rfl,by simpa using hown1,(bR.alloc nR _).grown hgrow (by simp) (fun k hk=>?_)⟩;simp [Value.ownBlock] at hk;omega
theorem ZaP (A:Option Addr) (c n:Nat) (xs:List Value) (w:World) (h:Lies w A xs) (hx:xs.length = n * 8) (h1:∀ u ∈ xs,u.oneCell' = true) (hA:A = none -> c = 0) (hn:n <= 1000000) :
  Calls Tryz.prog 75 #[.slice A n c] w fun e w'=>∃ A' c',e = .returned (.slice A' n c') /\ w'.ownsRow w.heap.size 79 8 (.slice A' n c') n xs /\ RowKit.Below w.heap.size w w':=by
 obtain ⟨i0,hi0,hz0,hz1,hz2⟩:=WaI ZeU;have HI:=zH hi0;have HZ0:=zH hz0;have HZ1:=zH hz1;have HZ2:=zH hz2;clear hi0 hz0 hz1 hz2;cases A with
 | none=>
  have hxs:=ZE h rfl;subst hxs;obtain rfl:n = 0:=by simp at hx;omega
  obtain rfl:=hA rfl;have hnil:∀ W,(binOp .eql 46 (.slice none 0 0) (.slice none 0 0)).run Tryz.prog W = .ok (.bool true) W:=fun W=>WaD W 46 79 none 0 0 0 0 Tryz.underlying46;go_enter Tryz.func75,Tryz.ntmps75;go_wp2_with fail;go_ret;exact ⟨none,0,rfl,WJ _ _ _ _,WcB _ _⟩
 | some ad=>
  clear hA;have hnil:∀ W,(binOp .eql 46 (.slice (some ad) n c) (.slice none 0 0)).run Tryz.prog W = .ok (.bool false) W:=fun W=>WaD W 46 79 (some ad) n c 0 0 Tryz.underlying46;have hnews:=zH (h.news);have HX:=zH hx;clear hx;go_enter Tryz.func75,Tryz.ntmps75;go_wp2_with (at_builtin;refine WbV _ rfl (.tmp 5) (.tmp 6) _ rfl w.heap.size 79 i0 _ 8 152 Tryz.underlying46 HI.out HZ0.out HZ1.out HZ2.out rfl (by omega) (.slice (some ⟨w.heap.size,0,none⟩) 0 0) 0 [] rfl (WcA w #[] 0 nR (by simp) rfl) ad n c xs rfl HX.out (hnews.out _) h1 (by unfold maxLen;omega) (by omega) (by simp) ?_;intro v' w1 hown1 hgrow _ hat);go_ret;obtain ⟨A',c',rfl⟩:=Xf hown1;refine ⟨A',c',by rw [WH];rfl,by simpa using hown1,(bR.alloc nR _).grown hgrow (by simp) (fun k hk=>?_)⟩;simp [Value.ownBlock] at hk;omega
theorem ZbQ (A:Option Addr) (c n:Nat) (xs:List Value) (w:World) (h:Lies w A xs) (hx:xs.length = n * 3) (h1:∀ u ∈ xs,u.oneCell' = true) (hA:A = none -> c = 0) (hn:n <= 1000000) :
  Calls Tryz.prog 92 #[.slice A n c] w fun e w'=>∃ A' c',e = .returned (.slice A' n c') /\ w'.ownsRow w.heap.size 76 3 (.slice A' n c') n xs /\ RowKit.Below w.heap.size w w':=by
 obtain ⟨i0,hi0,hz0,hz1,hz2⟩:=WaI Zb;have HI:=zH hi0;have HZ0:=zH hz0;have HZ1:=zH hz1;have HZ2:=zH hz2;clear hi0 hz0 hz1 hz2;cases A with
 | none=>
  have hxs:=ZE h rfl;subst hxs;obtain rfl:n = 0:=by simp at hx;omega
  obtain rfl:=hA rfl;have hnil:∀ W,(binOp .eql 63 (.slice none 0 0) (.slice none 0 0)).run Tryz.prog W = .ok (.bool true) W:=fun W=>WaD W 63 76 none 0 0 0 0 Tryz.underlying63;go_enter Tryz.func92,Tryz.ntmps92;go_wp2_with fail;go_ret;exact ⟨none,0,rfl,WJ _ _ _ _,WcB _ _⟩
 | some ad=>
  clear hA;have hnil:∀ W,(binOp .eql 63 (.slice (some ad) n c) (.slice none 0 0)).run Tryz.prog W = .ok (.bool false) W:=fun W=>WaD W 63 76 (some ad) n c 0 0 Tryz.underlying63;have hnews:=zH (h.news);have HX:=zH hx;clear hx;go_enter Tryz.func92,Tryz.ntmps92;go_wp2_with (at_builtin;refine WbV _ rfl (.tmp 5) (.tmp 6) _ rfl w.heap.size 76 i0 _ 3 48 Tryz.underlying63 HI.out HZ0.out HZ1.out HZ2.out rfl (by omega) (.slice (some ⟨w.heap.size,0,none⟩) 0 0) 0 [] rfl (WcA w #[] 0 nR (by simp) rfl) ad n c xs rfl HX.out (hnews.out _) h1 (by unfold maxLen;omega) (by omega) (by simp) ?_;intro v' w1 hown1 hgrow _ hat);go_ret;obtain ⟨A',c',rfl⟩:=Xf hown1;refine ⟨A',c',by rw [WH];rfl,by simpa using hown1,(bR.alloc nR _).grown hgrow (by simp) (fun k hk=>?_)⟩;simp [Value.ownBlock] at hk;omega
def blk (A:Option Addr):Option Nat:=(Value.slice A 0 0).ownBlock
theorem Jm (A:Option Addr) (n c:Nat):(Value.slice A n c).ownBlock = blk A:=by cases A <;> rfl
def Zh6:List Value -> Nat -> List Value -> List Value
 | xs,_,[]=>xs
 | xs,o,v :: r=>Zh6 (xs.set o v) (o + 1) r
theorem UO:∀ (vs:List Value) (o:Nat) (xs:List Value),o + vs.length <= xs.length -> Zh6 xs o vs = xs.take o ++ vs ++ xs.drop (o + vs.length)
 | [],o,xs,_=>by simp [Zh6]
 | v :: r,o,xs,h=>by
  simp only [List.length_cons] at h;have hlt:o < (xs.set o v).length:=by simp;omega
  rw [Zh6,UO r (o + 1) _ (by simp;omega),Wo hlt];simp only [List.getElem_set_self,List.length_cons];rw [List.take_set_of_le nR,List.drop_set_of_lt (by omega),show o + 1 + r.length = o + (r.length + 1) by omega];simp
section
variable {base n cap g size:Nat} {e:TypeId}
theorem J8:∀ (vs:List Value) (o:Nat) (w:World) (xs:List Value),w.ownsRow base e size (.slice (some ⟨g,0,none⟩) n cap) n xs ->
  (w.setCells g o vs).ownsRow base e size (.slice (some ⟨g,0,none⟩) n cap) n (Zh6 xs o vs) /\ w.grownBy (w.setCells g o vs) (some g)
 | [],o,w,xs,h=>⟨h,rfl,rfl,rfl,WK _,fun _ _ _=>rfl⟩
 | v :: r,o,w,xs,h=>by
  have h1:=h.stored o v;have h2:=J8 r (o + 1) _ _ h1.1;refine ⟨h2.1,h2.2.os.trans h1.2.os,h2.2.tape.trans h1.2.tape,h2.2.output.trans h1.2.output,tR h1.2.size h2.2.size,fun k hk hne=>?_⟩;exact (h2.2.block k (Wk hk h1.2.size) hne).trans (h1.2.block k hk hne)
end
theorem Vo {w:World} {base:Nat} {e:TypeId} {size n m c:Nat} {A:Option Addr} {xs ys:List Value} (h:w.ownsRow base e size (.slice A n c) n (xs ++ ys)) (hx:xs.length = m * size) (hm:m <= n):w.ownsRow base e size (.slice A m c) m xs:=by
 refine ⟨hx,?_⟩;rcases h.2 with ⟨h1,h2⟩ | ⟨g,cap,cur,h1,h2,h3,h4,h5,h6,h7⟩
 ·injection h1 with e1 e2 e3
  subst e1 e2 e3;exact .inl ⟨by rw [show m = 0 by omega],by omega⟩
 ·injection h1 with e1 e2 e3
  subst e1 e3;refine .inr ⟨g,c,cur,rfl,h2,h3,by omega,h5,h6,?_⟩;have h8:(cur.toList.take (n * size)).take (m * size) = xs:=by rw [h7,<- hx];exact List.take_left
  rwa [List.take_take,WbO (WbW _ hm)] at h8
theorem QB {P:Program} (w:World) (t e ty:TypeId) (z z1 z2:Value) (ht:P.underlying t = some (.slice e)) (hv:∀ w,(zeroValue e).run P w = .ok z w) (hz:z.cells = #[z1,z2]) (h1:z1.oneCell' = true) (h2:z2.oneCell' = true) (b o c:Nat)
  (hc:∀ j,j < 2 -> (w.cell? ⟨b,o + j,none⟩).isSome = true) (hf:∀ j,j < 2 -> w.frozen? ⟨b,o + j,none⟩ = false) :
  (Builtin.clear_ #[t] ty #[.slice (some ⟨b,o,none⟩) 1 c]).run P w = .ok (.tuple #[]) (w.setCells b o [z1,z2]):=by
 have hzc:(Builtin.zeroCells z.cells 1).toList = [z1,z2]:=by
  rw [hz];simp [Builtin.zeroCells];rfl
 have hst:=run_storeCells_cells (P:=P) b o [z1,z2] 0 w (by simpa using hc) (by simpa using hf) (by intro v hv';simp at hv';rcases hv' with rfl | rfl <;> assumption);simp only [Nat.add_zero] at hst;simp [Builtin.clear_,run_underlying ht,hv,hzc,hst]
theorem Up:(Tryz.prog.info? 128).map (fun i=>(i.zero,i.size,i.bytes)) = some (some (.agg #[.slice none 0 0,.slice none 0 0]),2,48):=by kernel_rfl
theorem Zai (base g n cap i:Nat) (xs:List Value) (w:World) (h:w.ownsRow base 128 2 (.slice (some ⟨g,0,none⟩) n cap) n xs) (hi:i < n) (hn:n <= 1000000) (h1:∀ u ∈ xs,u.oneCell' = true) :
  Calls Tryz.prog 70 #[.slice (some ⟨g,0,none⟩) n cap,.int .i64 i,.int .i64 ((i:Int) + 1)] w fun e w'=>e = .returned (.slice (some ⟨g,0,none⟩) (n - 1) cap) /\
   w'.ownsRow base 128 2 (.slice (some ⟨g,0,none⟩) (n - 1) cap) (n - 1) (xs.take (i * 2) ++ xs.drop ((i + 1) * 2)) /\ w.grownBy w' (some g):=by
 obtain ⟨i0,hi0,hz0,hz1,hz2⟩:=WaI Up;have CI:=zH hi0;have CZ1:=zH hz1;clear hi0 hz0 hz1 hz2;have hxl:xs.length = n * 2:=h.1;obtain ⟨news,hnews⟩:∃ news,news = xs.drop ((i + 1) * 2):=⟨_,rfl⟩;have hlen:news.length = (n - (i + 1)) * 2:=by rw [hnews];simp;omega
 have hcap:n <= cap /\ cap <= maxLen:=by
  rcases h.2 with ⟨h',_⟩ | ⟨_,_,_,h',_,_,h3,h4,_⟩
  ·cases h'
  ·injection h' with e1 e2 e3
   subst e3;exact ⟨h3,h4⟩
 unfold maxLen at hcap;obtain ⟨A,hA,hsrc⟩:∃ A:Addr,(if cap = i + 1 then some (⟨g,0,none⟩:Addr) else some ⟨g,(i + 1) * 2,none⟩) = some A /\ Hid (∀ t u,news[t]? = some u -> w.drew.cell? (A.add t) = some u):=by
  by_cases hc:cap = i + 1
  ·refine ⟨⟨g,0,none⟩,by simp [hc],fun t u hu=>?_⟩;have h0:news.length = 0:=(by rw [hlen];omega);rw [Wb7.1 h0] at hu;simp at hu
  ·refine ⟨⟨g,(i + 1) * 2,none⟩,by simp [hc],fun t u hu=>?_⟩;have ht:=(Wl.1 hu).1;rw [hnews,WdM] at hu;rw [WdV];have hlt:(i + 1) * 2 + t < xs.length:=(by omega);refine (h.cellAt ((i + 1) * 2 + t) (by omega)).trans ?_;exact hu
 have s1:Hid (news.length = (n - (i + 1)) * 2):=hlen;have s2:Hid (∀ u ∈ news,u.oneCell' = true):=fun u hu=>h1 u (by rw [hnews] at hu;exact Wc9 hu);have s3:Hid (∀ t,t < news.length -> (w.drew.cell? ⟨g,0 + i * 2 + t,none⟩).isSome = true /\ w.drew.frozen? ⟨g,0 + i * 2 + t,none⟩ = false):=by
  intro t ht;have hlt:i * 2 + t < xs.length:=by omega
  rw [WH];refine ⟨?_,h.frozenAt _⟩;show (w.cell? _).isSome = true;rw [h.cellAt (i * 2 + t) (by omega),gE hlt];rfl
 obtain ⟨W1,hW1⟩:∃ W1,W1 = w.drew.setCells g (0 + i * 2) news:=⟨_,rfl⟩;have hd:w.drew.ownsRow base 128 2 (.slice (some ⟨g,0,none⟩) n cap) n xs:=h;have hown1:=J8 news (0 + i * 2) _ _ hd;rw [<- hW1,UO _ _ _ (by omega)] at hown1;obtain ⟨r1,g1⟩:=hown1;have R1:=zH r1;have G1:Hid (w.grownBy W1 (some g)):=zH ⟨g1.os,g1.tape,g1.output,g1.size,g1.block⟩;obtain ⟨W2,hW2⟩:∃ W2,W2 = W1.setCells g ((n - 1) * 2) [.slice none 0 0,.slice none 0 0]:=⟨_,rfl⟩;have hown2:=J8 [.slice none 0 0,.slice none 0 0] ((n - 1) * 2) _ _ r1;rw [<- hW2] at hown2;have R2:=zH hown2.1;have G2:=zH hown2.2;have hW:Hid (W1 = w.drew.setCells g (0 + i * 2) news):=hW1;have hcl:∀ ty,(Builtin.clear_ #[125] ty #[.slice (some ⟨g,(n - 1) * 2,none⟩) 1 (cap - (n - 1))]).run Tryz.prog W1 = .ok (.tuple #[]) W2:=fun ty=>by
  rw [hW2];refine QB W1 125 128 ty (.agg #[.slice none 0 0,.slice none 0 0]) _ _ Tryz.underlying125 (fun w=>by kernel_rfl) rfl rfl rfl g _ _ (fun j hj=>?_) (fun j _=>R1.out.frozenAt _);rw [R1.out.cellAt _ (by omega),gE (by have:=R1.out.1;omega)];rfl
 have HCL:=zH hcl;have NW:=zH hnews;have XL:=zH hxl;clear hW1 hd r1 g1 hW2 hown2 hnews hxl h;clear hcl;have hcl:=HCL.out;have hic:i <= cap:=by omega
 have hjc:i + 1 <= cap:=by omega
 have b1:(0:Int) <= (i:Int) + 1:=by omega
 have b2:(i:Int) + 1 <= (n:Int):=by omega
 go_enter Tryz.func70,Tryz.ntmps70;go_wp2_with fail
 go_region_law (refine step_append_room rfl (.tmp 22) (.tmp 25) 125 rfl 128 i0 2 Tryz.underlying125 CI.out CZ1.out g 0 i cap (by simp [Act.eval,Act.put]) A (n - (i + 1)) (cap - (i + 1)) news (by simp [Act.eval,Act.put]) s1.out hsrc.out s2.out (by omega) s3.out ?_;rw [<- hW.out])
 have e1:i + (n - (i + 1)) = n - 1:=by omega
 have e2:n - (n - 1) = 1:=by omega
 rw [e1];go_wp2_with fail;go_ret;refine ⟨rfl,?_,⟨G2.out.os.trans G1.out.os,G2.out.tape.trans G1.out.tape,G2.out.output.trans G1.out.output,tR G1.out.size G2.out.size,fun k hk hne=>(G2.out.block k (Wk hk G1.out.size) hne).trans (G1.out.block k hk hne)⟩⟩;have hr:=R2.out;rw [UO _ _ _ (by have:=R1.out.1;simp only [List.length_cons,List.length_nil];omega)] at hr;have hxl:xs.length = n * 2:=XL.out;have e3:(xs.take (0 + i * 2) ++ news ++ xs.drop (0 + i * 2 + news.length)).take ((n - 1) * 2) = xs.take (i * 2) ++ xs.drop ((i + 1) * 2):=by
  rw [NW.out,WdZ (by simp;omega),Wm (by simp;omega),WH]
 rw [e3,Wa6] at hr;exact Vo hr (by simp;omega) (by omega)
end Go.Proofs.YtcjicjfbippmnaaGreat
namespace Go.Proofs.YtcjicjfbippmnaaGreat
open Go.RowKit Ear

theorem Yh (w:World) (u:Value) (t:TypeId):Lies (w.alloc (.cells #[u] t)) (some ⟨w.heap.size,0,none⟩) [u]:=fun _=>
 ⟨w.heap.size,0,rfl,by simp,fun k v hv=>by rw [WH,Wx _ _ k _ _ _ (Wg w _)];simpa using hv⟩
theorem Zcg (L:List Inn):∀ u ∈ lcs L,u.oneCell' = true:=by
 intro u hu;obtain ⟨x,_,rfl⟩:=WaO.1 hu;rfl
end Go.Proofs.YtcjicjfbippmnaaGreat
