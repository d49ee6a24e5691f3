/- TalkClusters -/
import Derived.Test.YtcjicjfbippmnaaGreatMTClus3
set_option maxRecDepth 100000
set_option maxHeartbeats 32000000
namespace Go.Proofs.YtcjicjfbippmnaaGreat
open Go.RowKit Ear

structure Cl where
 A:Option Addr
 c:Nat
 m:List Int
 B:Option Addr
 d:Nat
 v:List Inn
def Cl.pure (x:Cl):Clu:=(x.m,Jk x.v)
def clp (x:Cl):List Value:=[.slice x.A x.m.length x.c,.slice x.B x.v.length x.d]
def ccs (Cs:List Cl):List Value:=Cs.flatMap clp
theorem Zw (Cs:List Cl):(ccs Cs).length = Cs.length * 2:=by
 induction Cs with
 | nil=>rfl
 | cons x l ih=>simp only [ccs,List.flatMap_cons,List.length_append] at ih ⊢;rw [ih];simp [clp];omega
theorem QN (X Y:List Cl):ccs (X ++ Y) = ccs X ++ ccs Y:=by simp [ccs]
theorem VM (O R:List Cl) (x:Cl):ccs (O ++ x :: R) = ccs O ++ (Value.slice x.A x.m.length x.c :: Value.slice x.B x.v.length x.d :: ccs R):=by simp [ccs,clp]
theorem ZeJ (Cs:List Cl):∀ u ∈ ccs Cs,u.oneCell' = true:=by
 intro u hu;obtain ⟨g,_,hg⟩:=List.mem_flatMap.1 hu;simp [clp] at hg;rcases hg with rfl | rfl <;> rfl
theorem Zcx {α:Type} (l:List α) {k:Nat} (hk:k < l.length):l = l.take k ++ l[k] :: l.drop (k + 1):=by
 rw [<- List.drop_eq_getElem_cons hk,List.take_append_drop]
theorem ZeK (Cs:List Cl) {k:Nat} (hk:k < Cs.length):(ccs Cs)[k * 2]? = some (.slice Cs[k].A Cs[k].m.length Cs[k].c) /\ (ccs Cs)[k * 2 + 1]? = some (.slice Cs[k].B Cs[k].v.length Cs[k].d):=by
 have e:=Zcx Cs hk;have hl:(ccs (Cs.take k)).length = k * 2:=by rw [Zw];simp;omega
 generalize Cs[k] = x at *
 rw [e,VM];constructor
 ·rw [List.getElem?_append_right (by omega),hl,Nat.sub_self];rfl
 ·rw [List.getElem?_append_right (by omega),hl,show k * 2 + 1 - k * 2 = 1 by omega];rfl
theorem ZeL (Cs:List Cl) {k:Nat} (hk:k < Cs.length):(ccs Cs).take (k * 2) ++ (ccs Cs).drop ((k + 1) * 2) = ccs (Cs.eraseIdx k):=by
 have e:=Zcx Cs hk;have hl:(ccs (Cs.take k)).length = k * 2:=by rw [Zw];simp;omega
 have e2:Cs.eraseIdx k = Cs.take k ++ Cs.drop (k + 1):=List.eraseIdx_eq_take_drop_succ _ _;rw [e2,QN];have e3:ccs Cs = ccs (Cs.take k) ++ (clp Cs[k] ++ ccs (Cs.drop (k + 1))):=by
  conv=>lhs;rw [e]
  rw [VM];rfl
 rw [e3,List.take_append_of_le_length (by omega),List.take_of_length_le (by omega),List.drop_append,List.drop_of_length_le (l:=ccs (Cs.take k)) (by omega),hl,show (k + 1) * 2 - k * 2 = 2 by omega];rfl
theorem Zf2 (Cs:List Cl) {k:Nat} (hk:k < Cs.length) (x:Cl) (h:x.B = Cs[k].B /\ x.d = Cs[k].d /\ x.v = Cs[k].v):(ccs Cs).set (k * 2) (.slice x.A x.m.length x.c) = ccs (Cs.set k x):=by
 have e:=Zcx Cs hk;have hl:(ccs (Cs.take k)).length = k * 2:=by rw [Zw];simp;omega
 have e2:Cs.set k x = Cs.take k ++ x :: Cs.drop (k + 1):=List.set_eq_take_append_cons_drop.trans (by rw [if_pos hk]);obtain ⟨h1,h2,h3⟩:=h;generalize Cs[k] = y at *
 rw [e2,VM]
 conv=>lhs;rw [e]
 rw [VM,List.set_append_right _ _ (by omega),hl,Nat.sub_self,List.set_cons_zero,h1,h2,h3]
theorem Zf1 (Cs:List Cl) {k:Nat} (hk:k < Cs.length) (x:Cl) (h:x.A = Cs[k].A /\ x.c = Cs[k].c /\ x.m = Cs[k].m):(ccs Cs).set (k * 2 + 1) (.slice x.B x.v.length x.d) = ccs (Cs.set k x):=by
 have e:=Zcx Cs hk;have hl:(ccs (Cs.take k)).length = k * 2:=by rw [Zw];simp;omega
 have e2:Cs.set k x = Cs.take k ++ x :: Cs.drop (k + 1):=List.set_eq_take_append_cons_drop.trans (by rw [if_pos hk]);obtain ⟨h1,h2,h3⟩:=h;generalize Cs[k] = y at *
 rw [e2,VM]
 conv=>lhs;rw [e]
 rw [VM,List.set_append_right _ _ (by omega),hl,show k * 2 + 1 - k * 2 = 1 by omega,List.set_cons_succ,List.set_cons_zero,h1,h2,h3]
structure CLs (w0 W:World) (base:Nat) (A:Option Addr) (c:Nat) (Cs:List Cl):Prop where
 row:W.ownsRow base 128 2 (.slice A Cs.length c) Cs.length (ccs Cs)
 mem:∀ x ∈ Cs,W.ownsRow base 3 1 (.slice x.A x.m.length x.c) x.m.length (ics x.m)
 vec:∀ x ∈ Cs,W.ownsRow base 40 1 (.slice x.B x.v.length x.d) x.v.length (lcs x.v)
 inn:∀ x ∈ Cs,∀ y ∈ x.v,InOk w0 y
 dm:Cs.Pairwise fun x y=>∀ k,blk x.A = some k -> blk y.A ≠ some k
 dv:Cs.Pairwise fun x y=>∀ k,blk x.B = some k -> blk y.B ≠ some k
section
variable {w0 W W':World} {base c:Nat} {A:Option Addr} {Cs:List Cl}
theorem CLs.nil:CLs w0 W base none 0 []:=⟨World.ownsRow_nil _ _ _ _,by simp,by simp,by simp,.nil,.nil⟩
theorem CLs.below (h:CLs w0 W base A c Cs) (hb:Below W.heap.size W W'):CLs w0 W' base A c Cs:=
 ⟨Jh h.row hb,fun x hx=>Jh (h.mem x hx) hb,fun x hx=>Jh (h.vec x hx) hb,h.inn,h.dm,h.dv⟩
theorem CLs.drew (h:CLs w0 W base A c Cs):CLs w0 W.drew base A c Cs:=⟨h.row,h.mem,h.vec,h.inn,h.dm,h.dv⟩
theorem CLs.ll (h:CLs w0 W base A c Cs) (hb:Below w0.heap.size w0 W) {k:Nat} (hk:k < Cs.length):LL W Cs[k].B Cs[k].v:=
 ⟨Lies.of_own (h.vec _ (yM hk)),fun y hy=>(h.inn _ (yM hk) y hy).below hb⟩
theorem CLs.at_ (h:CLs w0 W base A c Cs) {k:Nat} (hk:k < Cs.length):∃ g,A = some ⟨g,0,none⟩ /\ base <= g /\ g < W.heap.size /\ BT W g 128 /\ W.cell? ⟨g,k * 2,none⟩ = some (.slice Cs[k].A Cs[k].m.length Cs[k].c) /\ W.cell? ⟨g,k * 2 + 1,none⟩ = some (.slice Cs[k].B Cs[k].v.length Cs[k].d) /\
  W.frozen? ⟨g,k * 2,none⟩ = false /\ W.frozen? ⟨g,k * 2 + 1,none⟩ = false:=by
 have hr:=h.row;have hbt:=fun b (hb:(Value.slice A Cs.length c).ownBlock = some b)=>BT.of_own hr hb;obtain ⟨g,cap,hv,hg,hlt⟩:=hr.form (by omega);injection hv with e1 _ e3
 subst e1 e3;refine ⟨g,rfl,hg,hlt,hbt g rfl,?_,?_,hr.frozenAt _,hr.frozenAt _⟩
 ·rw [hr.cellAt (k * 2) (by omega)];exact (ZeK Cs hk).1
 ·rw [hr.cellAt (k * 2 + 1) (by omega)];exact (ZeK Cs hk).2
theorem CLs.snoc {A':Option Addr} {c' n:Nat} {x:Cl} (h:CLs w0 W base A c Cs) (hn:n = Cs.length) (hm:W.ownsRow base 3 1 (.slice x.A x.m.length x.c) x.m.length (ics x.m)) (hv:W.ownsRow base 40 1 (.slice x.B x.v.length x.d) x.v.length (lcs x.v)) (hi:∀ y ∈ x.v,InOk w0 y)
  (hg:W.grownBy W' (Value.slice A n c).ownBlock) (hr:W'.ownsRow base 128 2 (.slice A' (n + 1) c') (n + 1) (ccs Cs ++ clp x)) (h1:∀ y ∈ Cs,∀ k,blk y.A = some k -> blk x.A ≠ some k) (h2:∀ y ∈ Cs,∀ k,blk y.B = some k -> blk x.B ≠ some k):CLs w0 W' base A' c' (Cs ++ [x]):=by
 subst hn;have key:∀ {e:TypeId} {size m:Nat} {v:Value} {xs:List Value},e ≠ 128 -> W.ownsRow base e size v m xs -> W'.ownsRow base e size v m xs:=fun he ho=>Jq ho hg fun k hk e2=>(BT.of_own ho hk).ne (BT.of_own h.row e2) he rfl;refine ⟨by rw [QN,List.length_append];simpa [ccs] using hr,?_,?_,?_,?_,?_⟩
 ·intro y hy;rcases List.mem_append.1 hy with hy | hy
  ·exact key (by decide) (h.mem y hy)
  ·rw [List.mem_singleton.1 hy];exact key (by decide) hm
 ·intro y hy;rcases List.mem_append.1 hy with hy | hy
  ·exact key (by decide) (h.vec y hy)
  ·rw [List.mem_singleton.1 hy];exact key (by decide) hv
 ·intro y hy;rcases List.mem_append.1 hy with hy | hy
  ·exact h.inn y hy
  ·rw [List.mem_singleton.1 hy];exact hi
 ·rw [List.pairwise_append];exact ⟨h.dm,by simp,fun a ha b hb=>by rw [List.mem_singleton.1 hb];exact h1 a ha⟩
 ·rw [List.pairwise_append];exact ⟨h.dv,by simp,fun a ha b hb=>by rw [List.mem_singleton.1 hb];exact h2 a ha⟩
theorem CLs.del {k:Nat} {cap:Nat} (h:CLs w0 W base A c Cs) (hg:∀ row,(∃ b,A = some ⟨b,0,none⟩ /\ row = some b) -> W.grownBy W' row) (hA:∃ b,A = some ⟨b,0,none⟩) (hk:k < Cs.length)
  (hr:W'.ownsRow base 128 2 (.slice A (Cs.length - 1) cap) (Cs.length - 1) (ccs (Cs.eraseIdx k))):CLs w0 W' base A cap (Cs.eraseIdx k):=by
 obtain ⟨g,rfl⟩:=hA;have hg':=hg (some g) ⟨g,rfl,rfl⟩;have key:∀ {e:TypeId} {size m:Nat} {v:Value} {xs:List Value},e ≠ 128 -> W.ownsRow base e size v m xs -> W'.ownsRow base e size v m xs:=fun he ho=>Jq ho hg' fun k hk e2=>(BT.of_own ho hk).ne (BT.of_own h.row (by rw [Jo,<- e2];rfl)) he rfl;have hsub:(Cs.eraseIdx k).Sublist Cs:=List.eraseIdx_sublist _ _;refine ⟨?_,fun x hx=>key (by decide) (h.mem x (hsub.mem hx)),fun x hx=>key (by decide) (h.vec x (hsub.mem hx)),fun x hx=>h.inn x (hsub.mem hx),h.dm.sublist hsub,h.dv.sublist hsub⟩;rw [List.length_eraseIdx_of_lt hk];exact hr
theorem Yq {f:Cl -> Option Nat} {Cs:List Cl} (h:Cs.Pairwise fun x y=>∀ k,f x = some k -> f y ≠ some k) {i j:Nat} (hi:i < Cs.length) (hj:j < Cs.length) (hne:i ≠ j):∀ k,f Cs[i] = some k -> f Cs[j] ≠ some k:=by
 intro k h1 h2;rw [List.pairwise_iff_getElem] at h;rcases Nat.lt_or_ge i j with hl | hl
 ·exact h i j hi hj hl k h1 h2
 ·exact h j i hj hi (by omega) k h2 h1
theorem Vr {f:Cl -> Option Nat} {Cs:List Cl} {a:Nat} {X:Cl} (h:Cs.Pairwise fun x y=>∀ k,f x = some k -> f y ≠ some k) (hX:∀ k,f X = some k -> ∀ j (hj:j < Cs.length),j ≠ a -> f Cs[j] ≠ some k):(Cs.set a X).Pairwise fun x y=>∀ k,f x = some k -> f y ≠ some k:=by
 rw [List.pairwise_iff_getElem];intro i j hi hj hlt k h1 h2;simp only [List.length_set] at hi hj;rw [List.getElem_set] at h1 h2;split at h1
 ·split at h2
  ·omega
  ·rename_i e1 e2;exact hX k h1 j hj (fun e=>e2 e.symm) h2
 ·split at h2
  ·rename_i e1 e2;exact hX k h2 i hi (fun e=>e1 e.symm) h1
  ·exact Yq h hi hj (by omega) k h1 h2
theorem Yd {Cs:List Cl} {a:Nat} {X x:Cl} (h:x ∈ Cs.set a X):x = X ∨ ∃ j,∃ hj:j < Cs.length,j ≠ a /\ x = Cs[j]:=by
 obtain ⟨j,hj,rfl⟩:=List.getElem_of_mem h;rw [List.getElem_set];split
 ·exact .inl rfl
 ·rename_i e;exact .inr ⟨j,by simpa using hj,fun e2=>e e2.symm,rfl⟩
theorem CLs.setM {A1:Option Addr} {c1 a g:Nat} {m:List Int} (h:CLs w0 W base (some ⟨g,0,none⟩) c Cs) (ha:a < Cs.length) (hg:W.grownBy W' (blk Cs[a].A)) (hrow:W'.ownsRow base 3 1 (.slice A1 m.length c1) m.length (ics m))
  (hfr:blk A1 = blk Cs[a].A ∨ blk A1 = some W.heap.size):CLs w0 (W'.setCell ⟨g,a * 2,none⟩ (.slice A1 m.length c1)) base (some ⟨g,0,none⟩) c (Cs.set a { Cs[a] with A:=A1,c:=c1,m:=m }):=by
 have hga:∀ k,blk Cs[a].A = some k -> BT W k 3:=fun k hk=>BT.of_own (h.mem _ (yM ha)) (by rw [Jo];exact hk);have hgb:BT W g 128:=BT.of_own h.row rfl;have hr1:W'.ownsRow base 128 2 (.slice (some ⟨g,0,none⟩) Cs.length c) Cs.length (ccs Cs):=Jq h.row hg fun k hk e=>(hga k e).ne (BT.of_own h.row hk) (by decide) rfl;have hst:=hr1.stored (a * 2) (.slice A1 m.length c1);have hgb':BT W' g 128:=BT.of_own hr1 rfl;have hset:=hst.2;have key:∀ {e:TypeId} {size n:Nat} {v:Value} {xs:List Value},e ≠ 128 -> W'.ownsRow base e size v n xs -> (W'.setCell ⟨g,a * 2,none⟩ (.slice A1 m.length c1)).ownsRow base e size v n xs:=fun he ho=>Jq ho hset fun k hk e2=>by
  injection e2 with e2
  subst e2;exact (BT.of_own ho hk).ne hgb' he rfl
 refine ⟨?_,?_,?_,?_,?_,?_⟩
 ·have h1:=hst.1;rw [Zf2 Cs ha { Cs[a] with A:=A1,c:=c1,m:=m } ⟨rfl,rfl,rfl⟩] at h1;rw [List.length_set];exact h1
 ·intro x hx;rcases Yd hx with rfl | ⟨j,hj,hne,rfl⟩
  ·exact key (by decide) hrow
  ·refine key (by decide) (Jq (h.mem _ (yM hj)) hg fun k hk e=>?_);rw [Jo] at hk;exact Yq (f:=fun x=>blk x.A) h.dm hj ha hne k hk e
 ·intro x hx;rcases Yd hx with rfl | ⟨j,hj,hne,rfl⟩
  ·exact key (by decide) (Jq (h.vec Cs[a] (yM ha)) hg fun k hk e=>(hga k e).ne (BT.of_own (h.vec Cs[a] (yM ha)) hk) (by decide) rfl)
  ·exact key (by decide) (Jq (h.vec _ (yM hj)) hg fun k hk e=>(hga k e).ne (BT.of_own (h.vec _ (yM hj)) hk) (by decide) rfl)
 ·intro x hx;rcases Yd hx with rfl | ⟨j,hj,hne,rfl⟩
  ·exact h.inn Cs[a] (yM ha)
  ·exact h.inn _ (yM hj)
 ·refine Vr (f:=fun x=>blk x.A) h.dm fun k hk j hj hne=>?_;simp only at hk;rcases hfr with e | e
  ·rw [e] at hk;exact Yq (f:=fun x=>blk x.A) h.dm ha hj (fun e=>hne e.symm) k hk
  ·rw [e] at hk;injection hk with hk
   intro e2;have:=((h.mem _ (yM hj)).lt k (by rw [Jo];exact e2)).2;omega
 ·exact Vr (f:=fun x=>blk x.B) h.dv fun k hk j hj hne=>Yq (f:=fun x=>blk x.B) h.dv ha hj (fun e=>hne e.symm) k hk
theorem CLs.setV {A1:Option Addr} {c1 a g:Nat} {m:List Inn} (h:CLs w0 W base (some ⟨g,0,none⟩) c Cs) (ha:a < Cs.length) (hg:W.grownBy W' (blk Cs[a].B)) (hrow:W'.ownsRow base 40 1 (.slice A1 m.length c1) m.length (lcs m))
  (hm:∀ y ∈ m,InOk w0 y) (hfr:blk A1 = blk Cs[a].B ∨ blk A1 = some W.heap.size):CLs w0 (W'.setCell ⟨g,a * 2 + 1,none⟩ (.slice A1 m.length c1)) base (some ⟨g,0,none⟩) c (Cs.set a { Cs[a] with B:=A1,d:=c1,v:=m }):=by
 have hga:∀ k,blk Cs[a].B = some k -> BT W k 40:=fun k hk=>BT.of_own (h.vec _ (yM ha)) (by rw [Jo];exact hk);have hgb:BT W g 128:=BT.of_own h.row rfl;have hr1:W'.ownsRow base 128 2 (.slice (some ⟨g,0,none⟩) Cs.length c) Cs.length (ccs Cs):=Jq h.row hg fun k hk e=>(hga k e).ne (BT.of_own h.row hk) (by decide) rfl;have hst:=hr1.stored (a * 2 + 1) (.slice A1 m.length c1);have hgb':BT W' g 128:=BT.of_own hr1 rfl;have hset:=hst.2;have key:∀ {e:TypeId} {size n:Nat} {v:Value} {xs:List Value},e ≠ 128 -> W'.ownsRow base e size v n xs -> (W'.setCell ⟨g,a * 2 + 1,none⟩ (.slice A1 m.length c1)).ownsRow base e size v n xs:=fun he ho=>Jq ho hset fun k hk e2=>by
  injection e2 with e2
  subst e2;exact (BT.of_own ho hk).ne hgb' he rfl
 refine ⟨?_,?_,?_,?_,?_,?_⟩
 ·have h1:=hst.1;rw [Zf1 Cs ha { Cs[a] with B:=A1,d:=c1,v:=m } ⟨rfl,rfl,rfl⟩] at h1;rw [List.length_set];exact h1
 ·intro x hx;rcases Yd hx with rfl | ⟨j,hj,hne,rfl⟩
  ·exact key (by decide) (Jq (h.mem Cs[a] (yM ha)) hg fun k hk e=>(hga k e).ne (BT.of_own (h.mem Cs[a] (yM ha)) hk) (by decide) rfl)
  ·exact key (by decide) (Jq (h.mem _ (yM hj)) hg fun k hk e=>(hga k e).ne (BT.of_own (h.mem _ (yM hj)) hk) (by decide) rfl)
 ·intro x hx;rcases Yd hx with rfl | ⟨j,hj,hne,rfl⟩
  ·exact key (by decide) hrow
  ·refine key (by decide) (Jq (h.vec _ (yM hj)) hg fun k hk e=>?_);rw [Jo] at hk;exact Yq (f:=fun x=>blk x.B) h.dv hj ha hne k hk e
 ·intro x hx;rcases Yd hx with rfl | ⟨j,hj,hne,rfl⟩
  ·exact hm
  ·exact h.inn _ (yM hj)
 ·exact Vr (f:=fun x=>blk x.A) h.dm fun k hk j hj hne=>Yq (f:=fun x=>blk x.A) h.dm ha hj (fun e=>hne e.symm) k hk
 ·refine Vr (f:=fun x=>blk x.B) h.dv fun k hk j hj hne=>?_;simp only at hk;rcases hfr with e | e
  ·rw [e] at hk;exact Yq (f:=fun x=>blk x.B) h.dv ha hj (fun e=>hne e.symm) k hk
  ·rw [e] at hk;injection hk with hk
   intro e2;have:=((h.vec _ (yM hj)).lt k (by rw [Jo];exact e2)).2;omega
theorem CLs.atX {k g:Nat} {X:Cl} (h:CLs w0 W base (some ⟨g,0,none⟩) c Cs) (hX:Cs[k]? = some X):W.cell? ⟨g,k * 2,none⟩ = some (.slice X.A X.m.length X.c) /\ W.cell? ⟨g,k * 2 + 1,none⟩ = some (.slice X.B X.v.length X.d) /\ W.frozen? ⟨g,k * 2,none⟩ = false /\ W.frozen? ⟨g,k * 2 + 1,none⟩ = false /\
  W.ownsRow base 3 1 (.slice X.A X.m.length X.c) X.m.length (ics X.m) /\ W.ownsRow base 40 1 (.slice X.B X.v.length X.d) X.v.length (lcs X.v) /\ (∀ y ∈ X.v,InOk w0 y) /\ BT W g 128 /\ base <= g /\ g < W.heap.size:=by
 obtain ⟨hk,rfl⟩:=List.getElem?_eq_some_iff.1 hX;obtain ⟨g',e,h1,h2,h3,h4,h5,h6,h7⟩:=h.at_ hk;injection e with e
 injection e with e
 subst e;exact ⟨h4,h5,h6,h7,h.mem _ (yM hk),h.vec _ (yM hk),h.inn _ (yM hk),h3,h1,h2⟩
theorem CLs.setMX {A1:Option Addr} {c1 a g:Nat} {m:List Int} {X:Cl} (h:CLs w0 W base (some ⟨g,0,none⟩) c Cs) (hX:Cs[a]? = some X) (hg:W.grownBy W' (blk X.A)) (hrow:W'.ownsRow base 3 1 (.slice A1 m.length c1) m.length (ics m))
  (hfr:blk A1 = blk X.A ∨ blk A1 = some W.heap.size):CLs w0 (W'.setCell ⟨g,a * 2,none⟩ (.slice A1 m.length c1)) base (some ⟨g,0,none⟩) c (Cs.set a { X with A:=A1,c:=c1,m:=m }):=by
 obtain ⟨hk,rfl⟩:=List.getElem?_eq_some_iff.1 hX;exact h.setM hk hg hrow hfr
theorem CLs.setVX {A1:Option Addr} {c1 a g:Nat} {m:List Inn} {X:Cl} (h:CLs w0 W base (some ⟨g,0,none⟩) c Cs) (hX:Cs[a]? = some X) (hg:W.grownBy W' (blk X.B)) (hrow:W'.ownsRow base 40 1 (.slice A1 m.length c1) m.length (lcs m))
  (hm:∀ y ∈ m,InOk w0 y) (hfr:blk A1 = blk X.B ∨ blk A1 = some W.heap.size):CLs w0 (W'.setCell ⟨g,a * 2 + 1,none⟩ (.slice A1 m.length c1)) base (some ⟨g,0,none⟩) c (Cs.set a { X with B:=A1,d:=c1,v:=m }):=by
 obtain ⟨hk,rfl⟩:=List.getElem?_eq_some_iff.1 hX;exact h.setV hk hg hrow hm hfr
end
theorem UM {Cs:List Cl} {a b:Nat} {X Y X2 X3:Cl} (hX:Cs[a]? = some X) (hY:Cs[b]? = some Y) (h1:X3.m = X.m ++ Y.m) (h2:X3.v = X.v ++ Y.v):(((Cs.set a X2).set a X3).eraseIdx b).map Cl.pure = Qd (Cs.map Cl.pure) a b:=by
 unfold Qd;rw [List.getElem?_map,List.getElem?_map,hX,hY,List.set_set];simp only [Option.map_some,Option.getD_some];rw [List.eraseIdx_eq_take_drop_succ,List.eraseIdx_eq_take_drop_succ,List.map_append,List.map_take,List.map_drop,List.map_set];have e:X3.pure = (X.pure.1 ++ Y.pure.1,X.pure.2 ++ Y.pure.2):=by simp [Cl.pure,h1,h2,Jk]
 rw [e]
theorem YU {w:World} {base:Nat} {e:TypeId} {size n c:Nat} {A:Option Addr} {xs:List Value} (h:w.ownsRow base e size (.slice A n c) n xs):A = none -> c = 0:=fun hA=>by
 subst hA;rcases h.2 with ⟨e1,_⟩ | ⟨_,_,_,e1,_⟩
 ·injection e1
 ·injection e1 with e2;cases e2
theorem JD {P:Program} (w:World) {o:Oper} {t0:Array Value} {df:List Deferred} {K:Act -> World -> Prop} {Q:Exit -> Act -> World -> Prop} (d:Nat) (hd:o.dst = some d) (s x:Operand) (t:TypeId)
  (ho:o.op = .call { callee:=.builtin .append,args:=#[s,x],argTypes:=#[t,t] })
  (base:Nat) (e:TypeId) (i:TypeInfo) (z:Value) (size bytes:Nat) (ht:P.underlying t = some (.slice e)) (hi:P.info? e = some i) (hz:i.zero = some z)
  (hsize:i.size = size) (hby:i.bytes = bytes) (hzs:z.cells.size = size) (hsz : 0 < size)
  (v:Value) (n:Nat) (xs:List Value) (hs:Act.eval ⟨t0,df⟩ s = v) (hown:w.ownsRow base e size v n xs)
  (A:Option Addr) (m c:Nat) (news:List Value) (hx:Act.eval ⟨t0,df⟩ x = .slice A m c) (hA:A = none -> c = 0) (hr:Lies w A news) (hl:news.length = m * size) (h1:∀ u ∈ news,u.oneCell' = true)
  (h63:n + m <= maxLen) (hbytes:(n + m) * bytes <= 140737488355328) (hbase:base <= w.heap.size) (N:Nat) (hN:n + m = N)
  (h:∀ A' c' w',w'.ownsRow base e size (.slice A' N c') N (xs ++ news) -> w.grownBy w' v.ownBlock -> ((Value.slice A' N c').ownBlock = v.ownBlock ∨ (Value.slice A' N c').ownBlock = some w.heap.size) -> K ⟨t0.setIfInBounds d (.slice A' N c'),df⟩ w'):o.wp P ⟨t0,df⟩ w K Q:=
 Jz w s x t ho base e i z size bytes ht hi hz hsize hby hzs hsz v n xs hs hown A m c news hx hA hr hl h1 h63 hbytes hbase N hN (by rw [hd];exact h)
end Go.Proofs.YtcjicjfbippmnaaGreat
namespace Go.Proofs.YtcjicjfbippmnaaGreat
open Go.RowKit Ear

theorem ZaE (A:Option Addr) (c n:Nat) (L:List Inn) (w:World) (hA:LL w A L) (hv:Hid (Vcs n (Jk L))) (h0 : 0 < L.length) (hn:L.length <= 10000) (hn2:n <= 1000) :
  Calls Tryz.prog 114 #[.slice A L.length c] w fun e w'=>∃ A c,e = .returned (.slice A n c) /\ w'.ownsRow w.heap.size 3 1 (.slice A n c) n (ics (Qq (Jk L) n L.length)) /\ Below w.heap.size w w':=by
 have HVL:Hid ((Jk L).length = L.length):=zH (by simp);have HL0:Hid (L[0].2.2.length = n):=zH (by
  have:=(hv.out.getD (t:=0) (by rw [HVL.out];exact h0)).1;rw [List.getElem?_map,gE h0] at this;exact this)
 obtain ⟨b0,o0,rfl,hb0,hc0⟩:=hA.lies.lat h0;rw [HL0.out,Nat.add_zero] at hc0;generalize L[0] = X0 at *
 go_enter Tryz.func114,Tryz.ntmps114;go_wp2_with fail;obtain ⟨w1,hmk,ho1,hb1⟩:=Zh w n (by omega) w.heap.size nR;rw [hmk];clear hmk;rw [<- Zdz (Jk L) n] at ho1;generalize hz:(Value.slice (some ⟨w.heap.size,0,none⟩) n n) = s0 at *
 obtain ⟨A0,c0,rfl⟩:=J5 ho1;clear hz;go_wp2_with fail;go_loopw [5,6,7,15] (fun _ _ _ i wr=>∃ k:Nat,k <= L.length /\ i = .int .i64 k /\ wr.ownsRow w.heap.size 3 1 (.slice A0 n c0) n (ics (Qq (Jk L) n k)) /\ Below w.heap.size w wr) (fun _ _ _ i _=>L.length - (intOf i).toNat)
 case atStart=>exact ⟨0,by omega,rfl,ho1,hb1⟩
 case round=>
  obtain ⟨k,hk,rfl,r1,r2⟩:=hrel;by_cases hlt:k < L.length
  ·obtain ⟨bk,off,eA,hbk,hc⟩:=(hA.below r2).lies.lat hlt;cases eA;have hx:=fun W (hW:Below w.heap.size w W)=>(hA.below hW).inn _ (yM hlt);have hget:=hv.out.getD (t:=k) (by rw [HVL.out];exact hlt);have HB:=zH (fun c t=>Y0 (fun x hx=>(hv.out x hx).2) c t);have HE:Hid ((Jk L)[k]?.getD [] = L[k].2.2):=zH (QW hlt);rw [QW hlt] at hget;generalize L[k] = X at *
   obtain ⟨XA,Xc,xl⟩:=X;simp only at *
   obtain ⟨hxn,hxb⟩:=hget;have HX:=zH hx;have HXB:=zH hxb;have HP:wr.ownsRow w.heap.size 3 1 (.slice A0 n c0) n (ics (Zas (Jk L) n k 0)):=(by rw [ZdO];exact r1);rw [hxn] at hc;have HXN:=zH hxn;clear hx hxb r1 ho1 hxn;go_wp2_with fail;go_loopw [6,7,21] (fun _ _ i wr=>∃ j:Nat,j <= n /\ i = .int .i64 j /\ wr.ownsRow w.heap.size 3 1 (.slice A0 n c0) n (ics (Zas (Jk L) n k j)) /\ Below w.heap.size w wr) (fun _ _ i _=>n - (intOf i).toNat)
   case atStart=>exact ⟨0,by omega,rfl,HP,r2⟩
   case round=>
    obtain ⟨j,hj,rfl,s1,s2⟩:=hrel;clear HP r2 hc;by_cases hjl:j < n
    ·obtain ⟨bx,ox,rfl,hbx,hcx⟩:=(HX.out _ s2).1.at_ (k:=j) (by rw [HXN.out];exact hjl);obtain ⟨g,cap,hv',hgg,hglt⟩:=s1.form (by omega);obtain rfl:A0 = some ⟨g,0,none⟩:=(by injection hv');clear hv' cap;have q1:wr.cell? ⟨g,j,none⟩ = some (.int .i64 (YR (Jk L) j k)):=by
      rw [s1.cellAt j (by omega)];have:=Zfs (vs:=Jk L) (k:=k) hjl;rw [gE (by rw [UD];exact hjl)] at this;simp only [List.getElem?_map,gE (show j < (Zas (Jk L) n k j).length by rw [UD];exact hjl)];simp at this;simp [this]
     have q2:wr.frozen? ⟨g,j,none⟩ = false:=s1.frozenAt j;have b1:=HB.out j k;have b2:=Zhy HXB.out (show j < xl.length by rw [HXN.out];exact hjl);have HS:Hid ((Zas (Jk L) n k j).set j (YR (Jk L) j k + xl[j]?.getD 0) = Zas (Jk L) n k (j + 1)):=zH (by rw [<- Zfr,HE.out]);have HO:=zH s1;have HS2:=zH s2;generalize YR (Jk L) j k = y at *
     generalize xl[j]?.getD 0 = x at *
     clear s1 s2;go_wp2_with fail;refine ⟨⟨j + 1,by omega,by go_num,?_,HS2.out.setCell hgg _⟩,by simp [intOf];omega⟩;have hst:=HO.out.stored j (.int .i64 (y + x));rw [<- List.map_set,HS.out] at hst;exact hst.1
    ·obtain rfl:j = n:=(by omega);have HF:Hid (wr.ownsRow w.heap.size 3 1 (.slice A0 j c0) j (ics (Qq (Jk L) j (k + 1)))):=zH (by rw [<- Zft];exact s1);clear s1;go_wp2_with fail;exact ⟨⟨k + 1,by omega,by go_num,HF.out,s2⟩,by simp [intOf];omega⟩
  ·obtain rfl:k = L.length:=by omega
   go_wp2_with fail;go_ret;exact ⟨A0,c0,rfl,r1,r2⟩
theorem Vn (w:World) (a b c:Nat):∃ n,((w.drewN a).drewN b).drewN c = w.drewN n:=⟨a + (b + c),by rw [World.drewN_drewN,World.drewN_drewN]⟩
theorem Zbs (l:List Int):zer l l.length:=fun q hq=>by rw [List.getElem?_eq_none hq];rfl
theorem QT {l:List Int} {n:Nat} (hn : 0 < n) (h:zer l n) (hx:l[n - 1]?.getD 0 = 0):zer l (n - 1):=fun q hq=>by
 by_cases e:q = n - 1
 ·subst e;exact hx
 ·exact h q (by omega)
theorem Lies.ndl {w:World} {A:Option Addr} {l:List Int} (h:Lies w A (ucs l)) (hd:dgs l) {v:Nat} (hv:vl l = v):Lies w A (ucs (nd v)):=by
 have key:∀ k,∀ l:List Int,l.length = k -> dgs l -> ∃ m,m <= l.length /\ zer l m /\ (m = 0 ∨ l[m - 1]?.getD 0 ≠ 0):=by
  intro k l hk _;have:∀ m,m <= l.length -> zer l m -> ∃ m,m <= l.length /\ zer l m /\ (m = 0 ∨ l[m - 1]?.getD 0 ≠ 0):=by
   intro m
   induction m with
   | zero=>intro h1 h2;exact ⟨0,h1,h2,.inl rfl⟩
   | succ m ih=>
    intro h1 h2;by_cases hx:l[m]?.getD 0 = 0
    ·exact ih (by omega) (QT (by omega) h2 hx)
    ·exact ⟨m + 1,h1,h2,.inr hx⟩
  exact this l.length nR (Zbs l)
 obtain ⟨m,_,hz,hm⟩:=key l.length l rfl hd;have e:=Zbz hd hz hm;rw [hv,Int.toNat_natCast] at e;rw [<- e];have h2:=h.take m
 rwa [show (ucs l).take m = ucs (l.take m) from List.map_take.symm] at h2
theorem JC {l:List Int} (hd:dgs l) {v:Nat} (hv:vl l = v):(nd v).length <= l.length:=by
 apply JO;have:=(ZcJ hd).2;rw [hv,U3] at this;omega
theorem JJ (A:Option Addr) (c:Nat) (l:List Int) (w:World) (h:Lies w A (ucs l)) (hd:Hid (dgs l)) (hlc:l.length <= c) (hn:l.length <= 9223372036854775807) (v:Nat) (hv:Hid (vl l = v)) :
  Calls Tryz.prog 71 #[.slice A l.length c] w fun e w'=>e = .returned (.slice A (nd v).length c) /\ w = w':=by
 have HZ:=zH (Zbs l);go_enter Tryz.func71,Tryz.ntmps71;go_wp2;go_loop [3] (fun i=>∃ k:Nat,k <= l.length /\ i = .int .i64 k /\ Hid (zer l k)) (fun i=>(intOf i).toNat)
 case atStart=>exact ⟨_,Nat.le_refl _,rfl,HZ⟩
 case round=>
  obtain ⟨k,hk,rfl,hz⟩:=hrel;clear HZ;have fin:∀ (hm:k = 0 ∨ l[k - 1]?.getD 0 ≠ 0),Hid ((nd v).length = k):=fun hm=>zH (by
   have e:=Zbz hd.out hz.out hm;rw [hv.out,Int.toNat_natCast] at e;rw [<- e,List.length_take];omega)
  have FIN:=zH fin;clear fin;by_cases h0:k = 0
  ·subst h0;have F:=FIN.out (.inl rfl);go_wp2_with fail;go_ret;exact ⟨by rw [F.out];rfl,rfl⟩
  ·obtain ⟨b,off,rfl,hb,hc⟩:=h.uat (k:=k - 1) (by omega);have i0:((k:Int) - 1).toNat = k - 1:=(by omega);by_cases hx:l[k - 1]?.getD 0 = 0
   ·have HZ1:=zH (QT (by omega) hz.out hx);rw [hx] at hc;clear hx;go_wp2_with fail;exact ⟨⟨k - 1,by omega,by go_num,HZ1⟩,by simp [intOf];omega⟩
   ·have F:=FIN.out (.inr hx);have hd1:=JG hd.out (k - 1);generalize hx1:l[k - 1]?.getD 0 = x at *
    have HX:=zH hx1;clear hx1;have q:(x == 0) = false:=(by simpa using hx);have hkc:k <= c:=(by omega);go_wp2_with fail;go_ret;exact ⟨by rw [F.out];rfl,rfl⟩
theorem VG (A:Option Addr) (c n:Nat) (w:World) (h:Lies w A (ucs (nd n))) (hn:(nd n).length <= 9223372036854775807) (b:Bool) (hb:Hid (decide (n = 1) = b)) :
  Calls Tryz.prog 145 #[.slice A (nd n).length c] w fun e w'=>e = .returned (.bool b) /\ w = w':=by
 by_cases h1:(nd n).length = 1
 ·have hn0:n ≠ 0:=by rintro rfl;rw [JE] at h1;simp at h1
  have e:=YJ hn0;have e2:n / 4294967296 = 0:=by
   have:=h1;rw [e,List.length_cons] at this;exact Jr.1 (by omega)
  obtain ⟨bk,off,rfl,hbk,hc⟩:=h.uat (k:=0) (by omega);rw [e] at hc;simp only [List.getElem?_cons_zero,Option.getD_some,Nat.add_zero] at hc;have hlt:n % 4294967296 = n:=by omega
  rw [hlt] at hc;have HB:Hid (b = decide ((n:Int) = 1)):=zH (by rw [<- hb.out];simp;omega);have HL:=zH h1;rw [h1];have b1:n < 4294967296:=by omega
  clear e e2 hlt h1;go_enter Tryz.func145,Tryz.ntmps145;go_wp2_with fail;go_ret;exact ⟨Ju (by rw [HB.out];rfl),rfl⟩
 ·have HB:Hid (b = false):=zH (by
   rw [<- hb.out];simp;rintro rfl;exact h1 (by rw [Yy];rfl))
  have q:(((nd n).length:Int) == 1) = false:=by simp;omega
  generalize (nd n).length = m at *
  go_enter Tryz.func145,Tryz.ntmps145;go_wp2_with fail;go_ret;exact ⟨Ju (by rw [HB.out]),rfl⟩
theorem XH (A B:Option Addr) (c d:Nat) (a b:List Int) (w:World) (hA:Lies w A (ucs a)) (hB:Lies w B (ucs b)) (da:Hid (dgs a)) (db:Hid (dgs b)) (hac:a.length <= c) (hbd:b.length <= d) (hn:a.length <= 9223372036854775807) (hm:b.length <= 9223372036854775807)
  (x y:Nat) (hx:Hid (vl a = x)) (hy:Hid (vl b = y)) (r:Int) (hr:Hid (Ua x y = r)) :
  Calls Tryz.prog 123 #[.slice A a.length c,.slice B b.length d] w (ZiV r w):=by
 have LA:=zH (hA.ndl da.out hx.out);have LB:=zH (hB.ndl db.out hy.out);have na:=JC da.out hx.out;have nb:=JC db.out hy.out;have nx:(nd x).length <= 9223372036854775807:=by omega
 have ny:(nd y).length <= 9223372036854775807:=by omega
 clear na nb;go_enter Tryz.func123,Tryz.ntmps123;go_wp2_with fail;refine (JJ A c a w hA da hac hn x hx).mono ?_;rintro e w' ⟨rfl,rfl⟩;go_wp2_with fail;refine (JJ B d b w hB db hbd hm y hy).mono ?_;rintro e w' ⟨rfl,rfl⟩;by_cases h1:(nd x).length < (nd y).length
 ·have HR:Hid (r = -1):=zH (by rw [<- hr.out];exact Yo (Z6 h1));have q:(((nd x).length:Int) != (nd y).length) = true:=by simp;omega
  generalize (nd x).length = m at *
  generalize (nd y).length = n at *
  go_wp2_with fail;go_ret;exact ⟨JN (by rw [HR.out]),0,rfl⟩
 ·by_cases h2:(nd y).length < (nd x).length
  ·have HR:Hid (r = 1):=zH (by rw [<- hr.out];exact XS (Z6 h2));have q:(((nd x).length:Int) != (nd y).length) = true:=(by simp;omega);generalize (nd x).length = m at *
   generalize (nd y).length = n at *
   go_wp2_with fail;go_ret;exact ⟨JN (by rw [HR.out]),0,rfl⟩
  ·have hl:(nd y).length = (nd x).length:=by omega
   have DX:=zH (Jw x);have DY:=zH (Jw y);have VX:=zH (Jp x);have VY:=zH (Jp y);have LX:=LA.out;have LY:=LB.out;clear LA LB h1 h2;generalize nd x = xs at *
   generalize nd y = ys at *
   have HL:=zH hl;rw [hl] at ny ⊢;clear hl;go_wp2_with fail;go_loopw [5] (fun i wr=>∃ k:Nat,k <= xs.length /\ i = .int .i64 ((k:Int) - 1) /\ Hid (xs.drop k = ys.drop k) /\ ∃ n,wr = w.drewN n) (fun i _=>(intOf i + 1).toNat)
   case atStart=>exact ⟨xs.length,Nat.le_refl _,rfl,zH (by rw [List.drop_eq_nil_of_le nR,List.drop_eq_nil_of_le (by rw [HL.out];exact Nat.le_refl _)]),0,rfl⟩
   case round=>
    obtain ⟨k,hk,rfl,hdr,n,hwd⟩:=hrel;have L1:Lies wr A (ucs xs):=(by rw [hwd];exact LX.drewN n);have L2:Lies wr B (ucs ys):=(by rw [hwd];exact LY.drewN n);have WD:=zH hwd;clear hwd;by_cases h0:k = 0
    ·subst h0;have HR:Hid (r = 0):=zH (by
      have e:xs = ys:=(by simpa using hdr.out);have h1:=VX.out;rw [e,VY.out] at h1;rw [<- hr.out];exact Yp (by omega))
     go_wp2_with fail;go_ret;exact ⟨JN (by rw [HR.out]),n,WD.out⟩
    ·obtain ⟨b1,o1,rfl,hb1,hc1⟩:=L1.uat (k:=k - 1) (by omega);obtain ⟨b2,o2,rfl,hb2,hc2⟩:=L2.uat (k:=k - 1) (by rw [HL.out];omega);have i0:((k:Int) - 1).toNat = k - 1:=(by omega);have d1:=JG DX.out (k - 1);have d2:=JG DY.out (k - 1);have ek:k - 1 + 1 = k:=(by omega);have lt1:xs[k - 1]?.getD 0 < ys[k - 1]?.getD 0 -> Hid (r = -1):=fun hlt=>zH (by
      have:=Zb9 DX.out DY.out HL.out.symm (i:=k - 1) (by omega) (by rw [ek];exact hdr.out) hlt;rw [VX.out,VY.out] at this;rw [<- hr.out];exact Yo (by omega))
     have gt1:ys[k - 1]?.getD 0 < xs[k - 1]?.getD 0 -> Hid (r = 1):=fun hlt=>zH (by
      have:=Zb9 DY.out DX.out HL.out (i:=k - 1) (by rw [HL.out];omega) (by rw [ek];exact hdr.out.symm) hlt;rw [VX.out,VY.out] at this;rw [<- hr.out];exact XS (by omega))
     have eq1:xs[k - 1]?.getD 0 = ys[k - 1]?.getD 0 -> Hid (xs.drop (k - 1) = ys.drop (k - 1)):=fun he=>zH (Zbf HL.out.symm (by rw [ek];exact hdr.out) he);have LT:=zH lt1;have GT:=zH gt1;have EQ:=zH eq1;clear lt1 gt1 eq1 ek;generalize xs[k - 1]?.getD 0 = u at *
     generalize ys[k - 1]?.getD 0 = v at *
     by_cases hlt:u < v
     ·have HR:=LT.out hlt;have q:(u != v) = true:=(by simp;omega);clear LT GT EQ;go_wp2_with fail;go_quiet (fail);go_wp2_with fail;go_quiet (fail);go_wp2_with fail;go_ret;exact ⟨JN (by rw [HR.out]),by rw [WD.out];exact Vn _ _ _ _⟩
     ·by_cases hgt:v < u
      ·have HR:=GT.out hgt;have q:(u != v) = true:=(by simp;omega);clear LT GT EQ;go_wp2_with fail;go_quiet (fail);go_wp2_with fail;go_quiet (fail);go_wp2_with fail;go_ret;exact ⟨JN (by rw [HR.out]),by rw [WD.out];exact Vn _ _ _ _⟩
      ·have he:u = v:=(by omega);have HD:=EQ.out he;subst he;clear LT GT EQ hlt hgt;go_wp2_with fail;go_quiet (fail);go_wp2_with fail;exact ⟨⟨k - 1,by omega,by go_num,HD,by rw [WD.out];exact Xu _ _ _⟩,by simp [intOf];omega⟩
theorem Ja {B:Nat} (w:World) (n:Nat):Below B w (w.drewN n):=⟨rfl,rfl,rfl,Nat.le_refl _,fun _ _=>rfl⟩

end Go.Proofs.YtcjicjfbippmnaaGreat
