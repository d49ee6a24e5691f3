/- TalkLearns -/
import Derived.Test.YtcjicjfbippmnaaGreatMTLear29
set_option maxRecDepth 100000
set_option maxHeartbeats 32000000
namespace Go.Proofs.YtcjicjfbippmnaaGreat
open Go.RowKit Ear

structure Cl where
 A:Option Addr
 c:Nat
 m:List Int
 B:Option Addr
 d:Nat
 v:List Inn
def Cl.pure (x:Cl):Clu:=(x.m,Jx x.v)
def clp (x:Cl):List Value:=[.slice x.A x.m.length x.c,.slice x.B x.v.length x.d]
def ccs (Cs:List Cl):List Value:=Cs.flatMap clp
theorem ZE (Cs:List Cl):(ccs Cs).length = Cs.length * 2:=by
 induction Cs with
 | nil=>rfl
 | cons x l ih=>simp only [ccs,List.flatMap_cons,List.length_append] at ih ⊢;rw [ih];simp [clp];omega
theorem Zaa (X Y:List Cl):ccs (X ++ Y) = ccs X ++ ccs Y:=by simp [ccs]
theorem Ud (O R:List Cl) (x:Cl):ccs (O ++ x :: R) = ccs O ++ (Value.slice x.A x.m.length x.c :: Value.slice x.B x.v.length x.d :: ccs R):=by simp [ccs,clp]
theorem Ze1 (Cs:List Cl):∀ u ∈ ccs Cs,u.oneCell' = true:=by
 intro u hu;obtain ⟨g,_,hg⟩:=List.mem_flatMap.1 hu;simp [clp] at hg;rcases hg with rfl | rfl <;> rfl
theorem ZcR {α:Type} (l:List α) {k:Nat} (hk:k < l.length):l = l.take k ++ l[k] :: l.drop (k + 1):=by
 rw [<- List.drop_eq_getElem_cons hk,List.take_append_drop]
theorem Ze2 (Cs:List Cl) {k:Nat} (hk:k < Cs.length):(ccs Cs)[k * 2]? = some (.slice Cs[k].A Cs[k].m.length Cs[k].c) /\ (ccs Cs)[k * 2 + 1]? = some (.slice Cs[k].B Cs[k].v.length Cs[k].d):=by
 have e:=ZcR Cs hk;have hl:(ccs (Cs.take k)).length = k * 2:=by rw [ZE];simp;omega
 generalize Cs[k] = x at *
 rw [e,Ud];constructor
 ·rw [List.getElem?_append_right (by omega),hl,Nat.sub_self];rfl
 ·rw [List.getElem?_append_right (by omega),hl,show k * 2 + 1 - k * 2 = 1 by omega];rfl
theorem Ze3 (Cs:List Cl) {k:Nat} (hk:k < Cs.length):(ccs Cs).take (k * 2) ++ (ccs Cs).drop ((k + 1) * 2) = ccs (Cs.eraseIdx k):=by
 have e:=ZcR Cs hk;have hl:(ccs (Cs.take k)).length = k * 2:=by rw [ZE];simp;omega
 have e2:Cs.eraseIdx k = Cs.take k ++ Cs.drop (k + 1):=List.eraseIdx_eq_take_drop_succ _ _;rw [e2,Zaa];have e3:ccs Cs = ccs (Cs.take k) ++ (clp Cs[k] ++ ccs (Cs.drop (k + 1))):=by
  conv=>lhs;rw [e]
  rw [Ud];rfl
 rw [e3,List.take_append_of_le_length (by omega),List.take_of_length_le (by omega),List.drop_append,List.drop_of_length_le (l:=ccs (Cs.take k)) (by omega),hl,show (k + 1) * 2 - k * 2 = 2 by omega];rfl
theorem Zgi (Cs:List Cl) {k:Nat} (hk:k < Cs.length) (x:Cl) (h:x.B = Cs[k].B /\ x.d = Cs[k].d /\ x.v = Cs[k].v):(ccs Cs).set (k * 2) (.slice x.A x.m.length x.c) = ccs (Cs.set k x):=by
 have e:=ZcR Cs hk;have hl:(ccs (Cs.take k)).length = k * 2:=by rw [ZE];simp;omega
 have e2:Cs.set k x = Cs.take k ++ x :: Cs.drop (k + 1):=List.set_eq_take_append_cons_drop.trans (by rw [if_pos hk]);obtain ⟨h1,h2,h3⟩:=h;generalize Cs[k] = y at *
 rw [e2,Ud]
 conv=>lhs;rw [e]
 rw [Ud,List.set_append_right _ _ (by omega),hl,Nat.sub_self,List.set_cons_zero,h1,h2,h3]
theorem Zgh (Cs:List Cl) {k:Nat} (hk:k < Cs.length) (x:Cl) (h:x.A = Cs[k].A /\ x.c = Cs[k].c /\ x.m = Cs[k].m):(ccs Cs).set (k * 2 + 1) (.slice x.B x.v.length x.d) = ccs (Cs.set k x):=by
 have e:=ZcR Cs hk;have hl:(ccs (Cs.take k)).length = k * 2:=by rw [ZE];simp;omega
 have e2:Cs.set k x = Cs.take k ++ x :: Cs.drop (k + 1):=List.set_eq_take_append_cons_drop.trans (by rw [if_pos hk]);obtain ⟨h1,h2,h3⟩:=h;generalize Cs[k] = y at *
 rw [e2,Ud]
 conv=>lhs;rw [e]
 rw [Ud,List.set_append_right _ _ (by omega),hl,show k * 2 + 1 - k * 2 = 1 by omega,List.set_cons_succ,List.set_cons_zero,h1,h2,h3]
structure CLs (w0 W:World) (base:Nat) (A:Option Addr) (c:Nat) (Cs:List Cl):Prop where
 row:W.ownsRow base 128 2 (.slice A Cs.length c) Cs.length (ccs Cs)
 mem:∀ x ∈ Cs,W.ownsRow base 3 1 (.slice x.A x.m.length x.c) x.m.length (ics x.m)
 vec:∀ x ∈ Cs,W.ownsRow base 40 1 (.slice x.B x.v.length x.d) x.v.length (lcs x.v)
 inn:∀ x ∈ Cs,∀ y ∈ x.v,InOk w0 y
 dm:Cs.Pairwise fun x y=>∀ k,blk x.A = some k -> blk y.A ≠ some k
 dv:Cs.Pairwise fun x y=>∀ k,blk x.B = some k -> blk y.B ≠ some k
section
variable {w0 W W':World} {base c:Nat} {A:Option Addr} {Cs:List Cl}
theorem CLs.nil:CLs w0 W base none 0 []:=⟨World.ownsRow_nil _ _ _ _,by simp,by simp,by simp,.nil,.nil⟩
theorem CLs.below (h:CLs w0 W base A c Cs) (hb:Below W.heap.size W W'):CLs w0 W' base A c Cs:=
 ⟨Ja h.row hb,fun x hx=>Ja (h.mem x hx) hb,fun x hx=>Ja (h.vec x hx) hb,h.inn,h.dm,h.dv⟩
theorem CLs.drew (h:CLs w0 W base A c Cs):CLs w0 W.drew base A c Cs:=⟨h.row,h.mem,h.vec,h.inn,h.dm,h.dv⟩
theorem CLs.ll (h:CLs w0 W base A c Cs) (hb:Below w0.heap.size w0 W) {k:Nat} (hk:k < Cs.length):LL W Cs[k].B Cs[k].v:=
 ⟨Lies.of_own (h.vec _ (yM hk)),fun y hy=>(h.inn _ (yM hk) y hy).below hb⟩
theorem CLs.at_ (h:CLs w0 W base A c Cs) {k:Nat} (hk:k < Cs.length):∃ g,A = some ⟨g,0,none⟩ /\ base <= g /\ g < W.heap.size /\ BT W g 128 /\ W.cell? ⟨g,k * 2,none⟩ = some (.slice Cs[k].A Cs[k].m.length Cs[k].c) /\ W.cell? ⟨g,k * 2 + 1,none⟩ = some (.slice Cs[k].B Cs[k].v.length Cs[k].d) /\
  W.frozen? ⟨g,k * 2,none⟩ = false /\ W.frozen? ⟨g,k * 2 + 1,none⟩ = false:=by
 have hr:=h.row;have hbt:=fun b (hb:(Value.slice A Cs.length c).ownBlock = some b)=>BT.of_own hr hb;obtain ⟨g,cap,hv,hg,hlt⟩:=hr.form (by omega);injection hv with e1 _ e3
 subst e1 e3;refine ⟨g,rfl,hg,hlt,hbt g rfl,?_,?_,hr.frozenAt _,hr.frozenAt _⟩
 ·rw [hr.cellAt (k * 2) (by omega)];exact (Ze2 Cs hk).1
 ·rw [hr.cellAt (k * 2 + 1) (by omega)];exact (Ze2 Cs hk).2
theorem CLs.snoc {A':Option Addr} {c' n:Nat} {x:Cl} (h:CLs w0 W base A c Cs) (hn:n = Cs.length) (hm:W.ownsRow base 3 1 (.slice x.A x.m.length x.c) x.m.length (ics x.m)) (hv:W.ownsRow base 40 1 (.slice x.B x.v.length x.d) x.v.length (lcs x.v)) (hi:∀ y ∈ x.v,InOk w0 y)
  (hg:W.grownBy W' (Value.slice A n c).ownBlock) (hr:W'.ownsRow base 128 2 (.slice A' (n + 1) c') (n + 1) (ccs Cs ++ clp x)) (h1:∀ y ∈ Cs,∀ k,blk y.A = some k -> blk x.A ≠ some k) (h2:∀ y ∈ Cs,∀ k,blk y.B = some k -> blk x.B ≠ some k):CLs w0 W' base A' c' (Cs ++ [x]):=by
 subst hn;have key:∀ {e:TypeId} {size m:Nat} {v:Value} {xs:List Value},e ≠ 128 -> W.ownsRow base e size v m xs -> W'.ownsRow base e size v m xs:=fun he ho=>Ji ho hg fun k hk e2=>(BT.of_own ho hk).ne (BT.of_own h.row e2) he rfl;refine ⟨by rw [Zaa,List.length_append];simpa [ccs] using hr,?_,?_,?_,?_,?_⟩
 ·intro y hy;rcases List.mem_append.1 hy with hy | hy
  ·exact key (by decide) (h.mem y hy)
  ·rw [List.mem_singleton.1 hy];exact key (by decide) hm
 ·intro y hy;rcases List.mem_append.1 hy with hy | hy
  ·exact key (by decide) (h.vec y hy)
  ·rw [List.mem_singleton.1 hy];exact key (by decide) hv
 ·intro y hy;rcases List.mem_append.1 hy with hy | hy
  ·exact h.inn y hy
  ·rw [List.mem_singleton.1 hy];exact hi
 ·rw [List.pairwise_append];exact ⟨h.dm,by simp,fun a ha b hb=>by rw [List.mem_singleton.1 hb];exact h1 a ha⟩
 ·rw [List.pairwise_append];exact ⟨h.dv,by simp,fun a ha b hb=>by rw [List.mem_singleton.1 hb];exact h2 a ha⟩
theorem CLs.del {k:Nat} {cap:Nat} (h:CLs w0 W base A c Cs) (hg:∀ row,(∃ b,A = some ⟨b,0,none⟩ /\ row = some b) -> W.grownBy W' row) (hA:∃ b,A = some ⟨b,0,none⟩) (hk:k < Cs.length)
  (hr:W'.ownsRow base 128 2 (.slice A (Cs.length - 1) cap) (Cs.length - 1) (ccs (Cs.eraseIdx k))):CLs w0 W' base A cap (Cs.eraseIdx k):=by
 obtain ⟨g,rfl⟩:=hA;have hg':=hg (some g) ⟨g,rfl,rfl⟩;have key:∀ {e:TypeId} {size m:Nat} {v:Value} {xs:List Value},e ≠ 128 -> W.ownsRow base e size v m xs -> W'.ownsRow base e size v m xs:=fun he ho=>Ji ho hg' fun k hk e2=>(BT.of_own ho hk).ne (BT.of_own h.row (by rw [Jn,<- e2];rfl)) he rfl;have hsub:(Cs.eraseIdx k).Sublist Cs:=List.eraseIdx_sublist _ _;refine ⟨?_,fun x hx=>key (by decide) (h.mem x (hsub.mem hx)),fun x hx=>key (by decide) (h.vec x (hsub.mem hx)),fun x hx=>h.inn x (hsub.mem hx),h.dm.sublist hsub,h.dv.sublist hsub⟩;rw [List.length_eraseIdx_of_lt hk];exact hr
theorem Yv {f:Cl -> Option Nat} {Cs:List Cl} (h:Cs.Pairwise fun x y=>∀ k,f x = some k -> f y ≠ some k) {i j:Nat} (hi:i < Cs.length) (hj:j < Cs.length) (hne:i ≠ j):∀ k,f Cs[i] = some k -> f Cs[j] ≠ some k:=by
 intro k h1 h2;rw [List.pairwise_iff_getElem] at h;rcases Nat.lt_or_ge i j with hl | hl
 ·exact h i j hi hj hl k h1 h2
 ·exact h j i hj hi (by omega) k h2 h1
theorem VF {f:Cl -> Option Nat} {Cs:List Cl} {a:Nat} {X:Cl} (h:Cs.Pairwise fun x y=>∀ k,f x = some k -> f y ≠ some k) (hX:∀ k,f X = some k -> ∀ j (hj:j < Cs.length),j ≠ a -> f Cs[j] ≠ some k):(Cs.set a X).Pairwise fun x y=>∀ k,f x = some k -> f y ≠ some k:=by
 rw [List.pairwise_iff_getElem];intro i j hi hj hlt k h1 h2;simp only [List.length_set] at hi hj;rw [List.getElem_set] at h1 h2;split at h1
 ·split at h2
  ·omega
  ·rename_i e1 e2;exact hX k h1 j hj (fun e=>e2 e.symm) h2
 ·split at h2
  ·rename_i e1 e2;exact hX k h2 i hi (fun e=>e1 e.symm) h1
  ·exact Yv h hi hj (by omega) k h1 h2
theorem Yk {Cs:List Cl} {a:Nat} {X x:Cl} (h:x ∈ Cs.set a X):x = X ∨ ∃ j,∃ hj:j < Cs.length,j ≠ a /\ x = Cs[j]:=by
 obtain ⟨j,hj,rfl⟩:=List.getElem_of_mem h;rw [List.getElem_set];split
 ·exact .inl rfl
 ·rename_i e;exact .inr ⟨j,by simpa using hj,fun e2=>e e2.symm,rfl⟩
theorem CLs.setM {A1:Option Addr} {c1 a g:Nat} {m:List Int} (h:CLs w0 W base (some ⟨g,0,none⟩) c Cs) (ha:a < Cs.length) (hg:W.grownBy W' (blk Cs[a].A)) (hrow:W'.ownsRow base 3 1 (.slice A1 m.length c1) m.length (ics m))
  (hfr:blk A1 = blk Cs[a].A ∨ blk A1 = some W.heap.size):CLs w0 (W'.setCell ⟨g,a * 2,none⟩ (.slice A1 m.length c1)) base (some ⟨g,0,none⟩) c (Cs.set a { Cs[a] with A:=A1,c:=c1,m:=m }):=by
 have hga:∀ k,blk Cs[a].A = some k -> BT W k 3:=fun k hk=>BT.of_own (h.mem _ (yM ha)) (by rw [Jn];exact hk);have hgb:BT W g 128:=BT.of_own h.row rfl;have hr1:W'.ownsRow base 128 2 (.slice (some ⟨g,0,none⟩) Cs.length c) Cs.length (ccs Cs):=Ji h.row hg fun k hk e=>(hga k e).ne (BT.of_own h.row hk) (by decide) rfl;have hst:=hr1.stored (a * 2) (.slice A1 m.length c1);have hgb':BT W' g 128:=BT.of_own hr1 rfl;have hset:=hst.2;have key:∀ {e:TypeId} {size n:Nat} {v:Value} {xs:List Value},e ≠ 128 -> W'.ownsRow base e size v n xs -> (W'.setCell ⟨g,a * 2,none⟩ (.slice A1 m.length c1)).ownsRow base e size v n xs:=fun he ho=>Ji ho hset fun k hk e2=>by
  injection e2 with e2
  subst e2;exact (BT.of_own ho hk).ne hgb' he rfl
 refine ⟨?_,?_,?_,?_,?_,?_⟩
 ·have h1:=hst.1;rw [Zgi Cs ha { Cs[a] with A:=A1,c:=c1,m:=m } ⟨rfl,rfl,rfl⟩] at h1;rw [List.length_set];exact h1
 ·intro x hx;rcases Yk hx with rfl | ⟨j,hj,hne,rfl⟩
  ·exact key (by decide) hrow
  ·refine key (by decide) (Ji (h.mem _ (yM hj)) hg fun k hk e=>?_);rw [Jn] at hk;exact Yv (f:=fun x=>blk x.A) h.dm hj ha hne k hk e
 ·intro x hx;rcases Yk hx with rfl | ⟨j,hj,hne,rfl⟩
  ·exact key (by decide) (Ji (h.vec Cs[a] (yM ha)) hg fun k hk e=>(hga k e).ne (BT.of_own (h.vec Cs[a] (yM ha)) hk) (by decide) rfl)
  ·exact key (by decide) (Ji (h.vec _ (yM hj)) hg fun k hk e=>(hga k e).ne (BT.of_own (h.vec _ (yM hj)) hk) (by decide) rfl)
 ·intro x hx;rcases Yk hx with rfl | ⟨j,hj,hne,rfl⟩
  ·exact h.inn Cs[a] (yM ha)
  ·exact h.inn _ (yM hj)
 ·refine VF (f:=fun x=>blk x.A) h.dm fun k hk j hj hne=>?_;simp only at hk;rcases hfr with e | e
  ·rw [e] at hk;exact Yv (f:=fun x=>blk x.A) h.dm ha hj (fun e=>hne e.symm) k hk
  ·rw [e] at hk;injection hk with hk
   intro e2;have:=((h.mem _ (yM hj)).lt k (by rw [Jn];exact e2)).2;omega
 ·exact VF (f:=fun x=>blk x.B) h.dv fun k hk j hj hne=>Yv (f:=fun x=>blk x.B) h.dv ha hj (fun e=>hne e.symm) k hk
theorem CLs.setV {A1:Option Addr} {c1 a g:Nat} {m:List Inn} (h:CLs w0 W base (some ⟨g,0,none⟩) c Cs) (ha:a < Cs.length) (hg:W.grownBy W' (blk Cs[a].B)) (hrow:W'.ownsRow base 40 1 (.slice A1 m.length c1) m.length (lcs m))
  (hm:∀ y ∈ m,InOk w0 y) (hfr:blk A1 = blk Cs[a].B ∨ blk A1 = some W.heap.size):CLs w0 (W'.setCell ⟨g,a * 2 + 1,none⟩ (.slice A1 m.length c1)) base (some ⟨g,0,none⟩) c (Cs.set a { Cs[a] with B:=A1,d:=c1,v:=m }):=by
 have hga:∀ k,blk Cs[a].B = some k -> BT W k 40:=fun k hk=>BT.of_own (h.vec _ (yM ha)) (by rw [Jn];exact hk);have hgb:BT W g 128:=BT.of_own h.row rfl;have hr1:W'.ownsRow base 128 2 (.slice (some ⟨g,0,none⟩) Cs.length c) Cs.length (ccs Cs):=Ji h.row hg fun k hk e=>(hga k e).ne (BT.of_own h.row hk) (by decide) rfl;have hst:=hr1.stored (a * 2 + 1) (.slice A1 m.length c1);have hgb':BT W' g 128:=BT.of_own hr1 rfl;have hset:=hst.2;have key:∀ {e:TypeId} {size n:Nat} {v:Value} {xs:List Value},e ≠ 128 -> W'.ownsRow base e size v n xs -> (W'.setCell ⟨g,a * 2 + 1,none⟩ (.slice A1 m.length c1)).ownsRow base e size v n xs:=fun he ho=>Ji ho hset fun k hk e2=>by
  injection e2 with e2
  subst e2;exact (BT.of_own ho hk).ne hgb' he rfl
 refine ⟨?_,?_,?_,?_,?_,?_⟩
 ·have h1:=hst.1;rw [Zgh Cs ha { Cs[a] with B:=A1,d:=c1,v:=m } ⟨rfl,rfl,rfl⟩] at h1;rw [List.length_set];exact h1
 ·intro x hx;rcases Yk hx with rfl | ⟨j,hj,hne,rfl⟩
  ·exact key (by decide) (Ji (h.mem Cs[a] (yM ha)) hg fun k hk e=>(hga k e).ne (BT.of_own (h.mem Cs[a] (yM ha)) hk) (by decide) rfl)
  ·exact key (by decide) (Ji (h.mem _ (yM hj)) hg fun k hk e=>(hga k e).ne (BT.of_own (h.mem _ (yM hj)) hk) (by decide) rfl)
 ·intro x hx;rcases Yk hx with rfl | ⟨j,hj,hne,rfl⟩
  ·exact key (by decide) hrow
  ·refine key (by decide) (Ji (h.vec _ (yM hj)) hg fun k hk e=>?_);rw [Jn] at hk;exact Yv (f:=fun x=>blk x.B) h.dv hj ha hne k hk e
 ·intro x hx;rcases Yk hx with rfl | ⟨j,hj,hne,rfl⟩
  ·exact hm
  ·exact h.inn _ (yM hj)
 ·exact VF (f:=fun x=>blk x.A) h.dm fun k hk j hj hne=>Yv (f:=fun x=>blk x.A) h.dm ha hj (fun e=>hne e.symm) k hk
 ·refine VF (f:=fun x=>blk x.B) h.dv fun k hk j hj hne=>?_;simp only at hk;rcases hfr with e | e
  ·rw [e] at hk;exact Yv (f:=fun x=>blk x.B) h.dv ha hj (fun e=>hne e.symm) k hk
  ·rw [e] at hk;injection hk with hk
   intro e2;have:=((h.vec _ (yM hj)).lt k (by rw [Jn];exact e2)).2;omega
theorem CLs.atX {k g:Nat} {X:Cl} (h:CLs w0 W base (some ⟨g,0,none⟩) c Cs) (hX:Cs[k]? = some X):W.cell? ⟨g,k * 2,none⟩ = some (.slice X.A X.m.length X.c) /\ W.cell? ⟨g,k * 2 + 1,none⟩ = some (.slice X.B X.v.length X.d) /\ W.frozen? ⟨g,k * 2,none⟩ = false /\ W.frozen? ⟨g,k * 2 + 1,none⟩ = false /\
  W.ownsRow base 3 1 (.slice X.A X.m.length X.c) X.m.length (ics X.m) /\ W.ownsRow base 40 1 (.slice X.B X.v.length X.d) X.v.length (lcs X.v) /\ (∀ y ∈ X.v,InOk w0 y) /\ BT W g 128 /\ base <= g /\ g < W.heap.size:=by
 obtain ⟨hk,rfl⟩:=List.getElem?_eq_some_iff.1 hX;obtain ⟨g',e,h1,h2,h3,h4,h5,h6,h7⟩:=h.at_ hk;injection e with e
 injection e with e
 subst e;exact ⟨h4,h5,h6,h7,h.mem _ (yM hk),h.vec _ (yM hk),h.inn _ (yM hk),h3,h1,h2⟩
theorem CLs.setMX {A1:Option Addr} {c1 a g:Nat} {m:List Int} {X:Cl} (h:CLs w0 W base (some ⟨g,0,none⟩) c Cs) (hX:Cs[a]? = some X) (hg:W.grownBy W' (blk X.A)) (hrow:W'.ownsRow base 3 1 (.slice A1 m.length c1) m.length (ics m))
  (hfr:blk A1 = blk X.A ∨ blk A1 = some W.heap.size):CLs w0 (W'.setCell ⟨g,a * 2,none⟩ (.slice A1 m.length c1)) base (some ⟨g,0,none⟩) c (Cs.set a { X with A:=A1,c:=c1,m:=m }):=by
 obtain ⟨hk,rfl⟩:=List.getElem?_eq_some_iff.1 hX;exact h.setM hk hg hrow hfr
theorem CLs.setVX {A1:Option Addr} {c1 a g:Nat} {m:List Inn} {X:Cl} (h:CLs w0 W base (some ⟨g,0,none⟩) c Cs) (hX:Cs[a]? = some X) (hg:W.grownBy W' (blk X.B)) (hrow:W'.ownsRow base 40 1 (.slice A1 m.length c1) m.length (lcs m))
  (hm:∀ y ∈ m,InOk w0 y) (hfr:blk A1 = blk X.B ∨ blk A1 = some W.heap.size):CLs w0 (W'.setCell ⟨g,a * 2 + 1,none⟩ (.slice A1 m.length c1)) base (some ⟨g,0,none⟩) c (Cs.set a { X with B:=A1,d:=c1,v:=m }):=by
 obtain ⟨hk,rfl⟩:=List.getElem?_eq_some_iff.1 hX;exact h.setV hk hg hrow hm hfr
end
theorem Zbq {Cs:List Cl} {a b:Nat} {X Y X2 X3:Cl} (hX:Cs[a]? = some X) (hY:Cs[b]? = some Y) (h1:X3.m = X.m ++ Y.m) (h2:X3.v = X.v ++ Y.v):(((Cs.set a X2).set a X3).eraseIdx b).map Cl.pure = ZaA (Cs.map Cl.pure) a b:=by
 unfold ZaA;rw [List.getElem?_map,List.getElem?_map,hX,hY,List.set_set];simp only [Option.map_some,Option.getD_some];rw [List.eraseIdx_eq_take_drop_succ,List.eraseIdx_eq_take_drop_succ,List.map_append,List.map_take,List.map_drop,List.map_set];have e:X3.pure = (X.pure.1 ++ Y.pure.1,X.pure.2 ++ Y.pure.2):=by simp [Cl.pure,h1,h2,Jx]
 rw [e]
theorem Zx {w:World} {base:Nat} {e:TypeId} {size n c:Nat} {A:Option Addr} {xs:List Value} (h:w.ownsRow base e size (.slice A n c) n xs):A = none -> c = 0:=fun hA=>by
 subst hA;rcases h.2 with ⟨e1,_⟩ | ⟨_,_,_,e1,_⟩
 ·injection e1
 ·injection e1 with e2;cases e2
theorem Jk {P:Program} (w:World) {o:Oper} {t0:Array Value} {df:List Deferred} {K:Act -> World -> Prop} {Q:Exit -> Act -> World -> Prop} (d:Nat) (hd:o.dst = some d) (s x:Operand) (t:TypeId)
  (ho:o.op = .call { callee:=.builtin .append,args:=#[s,x],argTypes:=#[t,t] })
  (base:Nat) (e:TypeId) (i:TypeInfo) (z:Value) (size bytes:Nat) (ht:P.underlying t = some (.slice e)) (hi:P.info? e = some i) (hz:i.zero = some z)
  (hsize:i.size = size) (hby:i.bytes = bytes) (hzs:z.cells.size = size) (hsz : 0 < size)
  (v:Value) (n:Nat) (xs:List Value) (hs:Act.eval ⟨t0,df⟩ s = v) (hown:w.ownsRow base e size v n xs)
  (A:Option Addr) (m c:Nat) (news:List Value) (hx:Act.eval ⟨t0,df⟩ x = .slice A m c) (hA:A = none -> c = 0) (hr:Lies w A news) (hl:news.length = m * size) (h1:∀ u ∈ news,u.oneCell' = true)
  (h63:n + m <= maxLen) (hbytes:(n + m) * bytes <= 140737488355328) (hbase:base <= w.heap.size) (N:Nat) (hN:n + m = N)
  (h:∀ A' c' w',w'.ownsRow base e size (.slice A' N c') N (xs ++ news) -> w.grownBy w' v.ownBlock -> ((Value.slice A' N c').ownBlock = v.ownBlock ∨ (Value.slice A' N c').ownBlock = some w.heap.size) -> K ⟨t0.setIfInBounds d (.slice A' N c'),df⟩ w'):o.wp P ⟨t0,df⟩ w K Q:=
 Jv w s x t ho base e i z size bytes ht hi hz hsize hby hzs hsz v n xs hs hown A m c news hx hA hr hl h1 h63 hbytes hbase N hN (by rw [hd];exact h)
end Go.Proofs.YtcjicjfbippmnaaGreat
namespace Go.Proofs.YtcjicjfbippmnaaGreat
open Go.RowKit Ear

theorem Q2 {w:World} {A:Option Addr} {xs:List Value} (h:Lies w A xs) (K:Nat):Lies w A (xs.take K):=fun hl=>by
 obtain ⟨b,off,e,hb,hc⟩:=h (by rw [List.length_take] at hl;omega);refine ⟨b,off,e,hb,fun k v hk=>hc k v ?_⟩;have hk2:=(List.getElem?_eq_some_iff.1 hk).1;rw [<- List.take_append_drop K xs,List.getElem?_append_left hk2];exact hk
theorem Zba {t:TypeId} (e0:Tryz.prog.underlying t = some (.slice (Tryz.prog.elem t))) (hs:∀ W,(sizeOf (Tryz.prog.elem t)).run Tryz.prog W = .ok 1 W) (A:Option Addr) (l c K:Nat) (hK:K <= l) (hl:l <= c) (W:World):(Instr.sliceAt t (.slice A l c) none (some (.int .i64 (K:Int))) none).run Tryz.prog W = .ok (.slice A K c) W:=by
 rw [run_sliceAt_slice (h:=e0),run_slice_h (ht:=e0) (h0:=by omega) (h2:=by omega),hs];cases A with
 | none=>simp [Result.andThen,sliced]
 | some a=>obtain ⟨b,o,s⟩:=a;simp [Result.andThen,sliced,Addr.add]
theorem Xb {w w':World} (h:w.grownBy w' none):Below w.heap.size w w':=⟨h.os,h.tape,h.output,h.size,fun k hk=>h.block k hk (by simp)⟩
section
variable {w0 W W':World} {base mc vc:Nat} {MA VA:Option Addr} {Cs:List Cl}
end
end Go.Proofs.YtcjicjfbippmnaaGreat
namespace Go.Proofs.YtcjicjfbippmnaaGreat
open Go.RowKit Ear

theorem Zen {w:World} {S:Option Addr} {sc:Nat} {s:List Int} (h:InOk w (S,sc,s)):LL (w.alloc (.cells #[.slice S s.length sc] 40)) (some ⟨w.heap.size,0,none⟩) [(S,sc,s)]:=
 ⟨Vo _ _ _,fun y hy=>by
  simp at hy;subst hy;exact h.alloc _⟩
def ZgZ (v:Int) (s:List Int):Int:=if 500 < s.length then 5 else if Xy 1 v s = true then 0 else 2
theorem Zff (o v:Int) (A:Option Addr) (c:Nat) (x:Inn) (w:World) (h:LL w A [x]) (hz:XD o v = true) (r:Int) (hr:Hid (ZgZ v x.2.2 = r)) (h0:r ≠ 0) :
  Calls Tryz.prog 103 #[.int .i64 o,.int .i64 v,.slice A 1 c] w fun e w'=>e = .returned (.tuple #[.agg #[.int .i64 0,.int .i64 0,.slice none 0 0],.int .i64 r]) /\ Below w.heap.size w w':=by
 obtain ⟨W0,hW0⟩:∃ W0:World,W0 = (w.alloc (.cells #[.int .i64 v] 3)).alloc (.cells #[.int .i64 0,.int .i64 0,.slice none 0 0] 84):=⟨_,rfl⟩;have hs0:W0.heap.size = w.heap.size + 2:=by rw [hW0];simp
 have HB0:Hid (Below w.heap.size w W0):=zH (by rw [hW0];exact al2 w _ _);have HV:Hid (W0.heap[w.heap.size]? = some (.cells #[.int .i64 v] 3 (0,0))):=zH (by rw [hW0];exact (Below.heap_alloc _ _ _ (by simp)).trans (heap_alloc_new w _));have HT6:Hid (W0.heap[w.heap.size + 1]? = some (.cells #[.int .i64 0,.int .i64 0,.slice none 0 0] 84 (0,0))):=zH (by rw [hW0];have:=heap_alloc_new (w.alloc (.cells #[.int .i64 v] 3)) (.cells #[.int .i64 0,.int .i64 0,.slice none 0 0] 84);simpa using this);have HLL:=zH (h.below HB0.out);clear h;by_cases hl : 500 < x.2.2.length
 ·have e:r = 5:=by rw [<- hr.out];unfold ZgZ;rw [if_pos hl]
  subst e;go_enter Tryz.func103,Tryz.ntmps103;go_wp2_with fail;rw [<- hW0];clear hW0;refine (Xo 154 #[] _ A c [x] W0 (Zf [x] W0) HLL.out (by simp) true (zH (by simp;omega))).mono ?_;rintro e W1 ⟨rfl,hb1⟩;have HB1:=zH (HB0.out.trans (hb1.mono HB0.out.size));have HT1:Hid (W1.heap[w.heap.size + 1]? = some (.cells #[.int .i64 0,.int .i64 0,.slice none 0 0] 84 (0,0))):=zH ((hb1.block _ (by omega)).trans HT6.out);clear hb1;have d0:=(cR 0 HT1.out).trans rfl;have d1:=(cR 1 HT1.out).trans rfl;have d2:=(cR 2 HT1.out).trans rfl;have f0:=Jp HT1.out 0;have f1:=Jp HT1.out 1;have f2:=Jp HT1.out 2;go_wp2_with fail;have hr6:=row3 HT1.out (.int .i64 0) (.int .i64 0) (.slice none 0 0);have g0:=(cR 0 hr6).trans rfl;have g1:=(cR 1 hr6).trans rfl;have g2:=(cR 2 hr6).trans rfl;refine bodyPost_ret (v:=.tuple #[.agg #[.int .i64 0,.int .i64 0,.slice none 0 0],.int .i64 5]) (by simp [results,Tryz.results103,go_sem,g0,g1,g2]) rfl ?_;exact ⟨rfl,((HB1.out.setCell (by show _ <= w.heap.size + 1;omega) _).setCell (by show _ <= w.heap.size + 1;omega) _).setCell (by show _ <= w.heap.size + 1;omega) _⟩
 ·have ha:Xy 1 v x.2.2 = false:=by
   cases ha:Xy 1 v x.2.2 with
   | false=>rfl
   | true=>
    exfalso;apply h0;rw [<- hr.out];unfold ZgZ;rw [if_neg hl,if_pos ha]
  have e:r = 2:=by rw [<- hr.out];unfold ZgZ;rw [if_neg hl,if_neg (by rw [ha];decide)]
  subst e;have HA:=zH ha;clear ha;go_enter Tryz.func103,Tryz.ntmps103;go_wp2_with fail;rw [<- hW0];clear hW0;refine (Xo 154 #[] _ A c [x] W0 (Zf [x] W0) HLL.out (by simp) false (zH (by simp;omega))).mono ?_;rintro e W1 ⟨rfl,hb1⟩;have HB1:=zH (HB0.out.trans (hb1.mono HB0.out.size));have HT1:Hid (W1.heap[w.heap.size + 1]? = some (.cells #[.int .i64 0,.int .i64 0,.slice none 0 0] 84 (0,0))):=zH ((hb1.block _ (by omega)).trans HT6.out);have HV1:Hid (W1.heap[w.heap.size]? = some (.cells #[.int .i64 v] 3 (0,0))):=zH ((hb1.block _ (by omega)).trans HV.out);have cv1:W1.cell? ⟨w.heap.size,0,none⟩ = some (.int .i64 v):=(cR 0 HV1.out).trans rfl;have HLL1:=zH (HLL.out.below hb1);have hs1:W0.heap.size <= W1.heap.size:=hb1.size;clear hb1;go_wp2_with fail;refine (ZB o v W1 true (zH hz)).mono ?_;rintro e W1' ⟨rfl,rfl⟩;go_wp2_with fail;refine (Xo 155 #[.pointer (some ⟨w.heap.size,0,none⟩)] _ A c [x] W1 (Qm [x] W1 v w.heap.size (fun y hy=>HLL1.out.inn y hy) cv1 (by omega)) HLL1.out (by simp) true (zH (by simp [HA.out]))).mono ?_;rintro e W2 ⟨rfl,hb2⟩;have HB2:=zH (HB1.out.trans (hb2.mono HB1.out.size));have HT2:Hid (W2.heap[w.heap.size + 1]? = some (.cells #[.int .i64 0,.int .i64 0,.slice none 0 0] 84 (0,0))):=zH ((hb2.block _ (by omega)).trans HT1.out);clear hb2 cv1;have d0:=(cR 0 HT2.out).trans rfl;have d1:=(cR 1 HT2.out).trans rfl;have d2:=(cR 2 HT2.out).trans rfl;have f0:=Jp HT2.out 0;have f1:=Jp HT2.out 1;have f2:=Jp HT2.out 2;go_wp2_with fail;have hr6:=row3 HT2.out (.int .i64 0) (.int .i64 0) (.slice none 0 0);have g0:=(cR 0 hr6).trans rfl;have g1:=(cR 1 hr6).trans rfl;have g2:=(cR 2 hr6).trans rfl;refine bodyPost_ret (v:=.tuple #[.agg #[.int .i64 0,.int .i64 0,.slice none 0 0],.int .i64 2]) (by simp [results,Tryz.results103,go_sem,g0,g1,g2]) rfl ?_;exact ⟨rfl,((HB2.out.setCell (by show _ <= w.heap.size + 1;omega) _).setCell (by show _ <= w.heap.size + 1;omega) _).setCell (by show _ <= w.heap.size + 1;omega) _⟩
theorem Qn (base p cap o:Nat) (v:Int) (B:Option Addr) (Ts:List TT) (t:TT) (S:Option Addr) (sc:Nat) (s:List Int) (n:Int) (w:World) (h:LrI w base p B cap (Ts ++ [t])) (hto:t.o = o) (htv:t.v = v) (hI:InOk w (S,sc,s)) (hT:Ts.length <= 200) (r:Int) (hr:Hid (ZgZ v s = r)) (h0:r ≠ 0) :
  Calls Tryz.prog 43 #[.pointer (some ⟨p,0,none⟩),.slice S s.length sc,.int .i64 n] w fun e w'=>e = .returned (.int .i64 r) /\ Below w.heap.size w w':=by
 have H:=zH h;have hlen:(Ts ++ [t]).length = Ts.length + 1:=by simp
 have hat:=H.out.at_;rw [hlen] at hat;have HAT:=zH hat;have HT:=zH (H.out.tab t (by simp));have HI:=zH hI;have HZ:=zH (JP.1 HT.out.ok).2.1;obtain ⟨xo,xv,xA,xc,xL⟩:=t;simp only at hto htv;subst hto htv;clear h hat hI hlen;have hf0:=fun W=>Zi o xv xA xL.length xc W;have hf1:=fun W=>Zh o xv xA xL.length xc W;have q0:(r != 0) = true:=by simp [h0]
 go_enter Tryz.func43,Tryz.ntmps43;go_wp2_with fail;refine (XN p (Ts.length + 1) cap B w HAT.out (by omega)).mono ?_;rintro e w' ⟨rfl,rfl⟩;go_wp2_with fail;refine (YD p cap B Ts _ w' HAT.out H.out.tts (by omega)).mono ?_;rintro e W1 ⟨rfl,hb1⟩;have HB1:=zH hb1;have H1:=zH (H.out.below hb1);have HAT1:=zH ((hb1.cell (p:=⟨p,0,none⟩) (X8 HAT.out)).trans HAT.out);clear hb1;unfold TT.val;go_wp2_with fail;refine (YD p cap B Ts _ W1 HAT1.out H1.out.tts (by omega)).mono ?_;rintro e W2 ⟨rfl,hb2⟩;have HB2:=zH (HB1.out.trans (hb2.mono HB1.out.size));have HI2:=zH (HI.out.below HB2.out);clear hb2;unfold TT.val;go_wp2_with fail;obtain ⟨W3,hW3⟩:∃ W3:World,W3 = W2.alloc (.cells #[.slice S s.length sc] 40):=⟨_,rfl⟩;rw [<- hW3];have HB3:Hid (Below w'.heap.size w' W3):=zH (by rw [hW3];exact HB2.out.alloc HB2.out.size _);have HLL:Hid (LL W3 (some ⟨W2.heap.size,0,none⟩) [(S,sc,s)]):=zH (by rw [hW3];exact Zen HI2.out);clear hW3;refine (Zff o xv (some ⟨W2.heap.size,0,none⟩) 1 (S,sc,s) W3 HLL.out HZ.out r hr h0).mono ?_;rintro e W4 ⟨rfl,hb4⟩;have HB4:=zH (HB3.out.trans (hb4.mono HB3.out.size));clear hb4;go_wp2_with fail;go_ret;exact ⟨rfl,HB4.out.alloc HB4.out.size _⟩
theorem ZaQ (base p cap o:Nat) (v:Int) (B:Option Addr) (Ts:List TT) (t:TT) (S:Option Addr) (sc:Nat) (s:List Int) (n:Int) (w:World) (h:LrI w base p B cap (Ts ++ [t])) (hto:t.o = o) (htv:t.v = v) (hI:InOk w (S,sc,s)) (hs:s.length <= 500) (ha:Xy 1 v s = true) (hT:Ts.length <= 200) (hn:¬ (1 <= n /\ n <= 1000)) :
  Calls Tryz.prog 43 #[.pointer (some ⟨p,0,none⟩),.slice S s.length sc,.int .i64 n] w fun e w'=>e = .returned (.int .i64 2) /\ Below w.heap.size w w':=by
 have H:=zH h;have hlen:(Ts ++ [t]).length = Ts.length + 1:=by simp
 have hat:=H.out.at_;rw [hlen] at hat;have HAT:=zH hat;have HT:=zH (H.out.tab t (by simp));have HI:=zH hI;have HZ:=zH (JP.1 HT.out.ok).2.1;obtain ⟨xo,xv,xA,xc,xL⟩:=t;simp only at hto htv;subst hto htv;clear h hat hI hlen;have hf0:=fun W=>Zi o xv xA xL.length xc W;have hf1:=fun W=>Zh o xv xA xL.length xc W;go_enter Tryz.func43,Tryz.ntmps43;go_wp2_with fail;refine (XN p (Ts.length + 1) cap B w HAT.out (by omega)).mono ?_;rintro e w' ⟨rfl,rfl⟩;go_wp2_with fail;refine (YD p cap B Ts _ w' HAT.out H.out.tts (by omega)).mono ?_;rintro e W1 ⟨rfl,hb1⟩;have HB1:=zH hb1;have H1:=zH (H.out.below hb1);have HAT1:=zH ((hb1.cell (p:=⟨p,0,none⟩) (X8 HAT.out)).trans HAT.out);clear hb1;unfold TT.val;go_wp2_with fail;refine (YD p cap B Ts _ W1 HAT1.out H1.out.tts (by omega)).mono ?_;rintro e W2 ⟨rfl,hb2⟩;have HB2:=zH (HB1.out.trans (hb2.mono HB1.out.size));have HI2:=zH (HI.out.below HB2.out);clear hb2;unfold TT.val;go_wp2_with fail;obtain ⟨W3,hW3⟩:∃ W3:World,W3 = W2.alloc (.cells #[.slice S s.length sc] 40):=⟨_,rfl⟩;rw [<- hW3];have HB3:Hid (Below w'.heap.size w' W3):=zH (by rw [hW3];exact HB2.out.alloc HB2.out.size _);have HLL:Hid (LL W3 (some ⟨W2.heap.size,0,none⟩) [(S,sc,s)]):=zH (by rw [hW3];exact Zen HI2.out);have ho12:=JL.1 HZ.out;clear hW3;refine (ZbE o xv (some ⟨W2.heap.size,0,none⟩) 1 (S,sc,s) W3 HLL.out (by omega) (by omega) HZ.out hs ha).mono ?_;rintro e W4 ⟨hb4,hret⟩;rw [if_pos (ZcS o s hs)] at hret;obtain ⟨A1,c1,L1,rfl,-,-,-⟩:=hret;have HB4:=zH (HB3.out.trans (hb4.mono HB3.out.size));clear hb4 ho12;by_cases h1:n < 1
 ·go_wp2_with fail;go_ret;exact ⟨rfl,HB4.out.alloc HB4.out.size _⟩
 ·have h2 : 1000 < n:=by omega
  go_wp2_with fail;go_ret;exact ⟨rfl,HB4.out.alloc HB4.out.size _⟩
theorem Ze9 (base p cap:Nat) (B:Option Addr) (t:TT) (w:World) (h:LrI w base p B cap [t]) :
  Calls Tryz.prog 45 #[.pointer (some ⟨p,0,none⟩)] w fun e w'=>e = .returned (.int .i64 7) /\ w' = w:=by
 have HAT:Hid (w.cell? ⟨p,0,none⟩ = some (.slice B 1 cap)):=zH h.at_;clear h;go_enter Tryz.func45,Tryz.ntmps45;go_wp2_with fail;refine (XN p 1 cap B w HAT.out (by omega)).mono ?_;rintro e w' ⟨rfl,rfl⟩;go_wp2_with fail;refine (YP p 1 cap B w' HAT.out (by omega) (by omega)).mono ?_;rintro e w1 ⟨rfl,rfl⟩;go_wp2_with fail;go_ret;exact ⟨rfl,rfl⟩
theorem ZdM (Ts:List TT) (t:TT):Zak (Ts ++ [t]) = Zak Ts ++ [.int .i64 t.o,.int .i64 t.v,.slice t.A t.L.length t.c]:=by simp [Zak]
theorem ZhH (base p cap:Nat) (B:Option Addr) (Ts:List TT) (t:TT) (w:World) (h:LrI w base p B cap (Ts ++ [t])) (hT : 0 < Ts.length) (hm:Ts.length <= 1000) :
  Calls Tryz.prog 45 #[.pointer (some ⟨p,0,none⟩)] w fun e w'=>e = .returned (.int .i64 0) /\ LrI w' base p B cap Ts /\ Two w w' p (blk B):=by
 have H:=zH h;have hlen:(Ts ++ [t]).length = Ts.length + 1:=by simp
 have hat:=H.out.at_;rw [hlen] at hat;have HAT:=zH hat;have hrow:=H.out.row;rw [hlen,ZdM] at hrow;have HROW:=zH hrow;obtain ⟨g,cap',hv,hg,hlt⟩:=hrow.form (by omega);injection hv with e1 e2 e3
 subst e1 e3;have hcp:Ts.length + 1 <= cap:=by
  rcases hrow.2 with ⟨h1,_⟩ | ⟨_,_,_,h1,_,_,h2,_⟩
  ·cases h1
  ·injection h1 with q1 q2 q3
   omega
 have hcell:=H.out.cell;rw [hlen] at hcell;have HCELL:=zH hcell;have hz:w.frozen? ⟨p,0,none⟩ = false:=Jp hcell 0;have HZ:=zH hz;clear h hat hlen hrow hcell hz;go_enter Tryz.func45,Tryz.ntmps45;go_wp2_with fail;refine (XN p (Ts.length + 1) cap _ w HAT.out (by omega)).mono ?_;rintro e w' ⟨rfl,rfl⟩;go_wp2_with fail;refine (YP p (Ts.length + 1) cap _ w' HAT.out (by omega) (by omega)).mono ?_;rintro e w1 ⟨rfl,rfl⟩;have hne:¬ (((Ts.length:Int) + 1) - 1 = 0):=by omega
 have hne2:(((Ts.length:Int) + 1) - 1 == 0) = false:=by rw [beq_eq_false_iff_ne];omega
 go_wp2_with fail;have c0:=HAT.out;have f0:=HZ.out;have p1:IntKind.i64.wrap ((Ts.length:Int) + 1 - 1) = (Ts.length:Int):=by rw [IntWalk.i64_in _ (by omega)];omega
 have p2:IntKind.i64.wrap (Ts.length:Int) = (Ts.length:Int):=IntWalk.i64_in _ (by omega);have b1:(0:Int) <= (Ts.length:Int):=by omega
 have b2:Ts.length <= cap:=by omega
 go_still_tail 14,(by kernel_rfl);go_wp2_with fail;go_ret;obtain ⟨W9,hW9⟩:∃ W9,W9 = w1.setCell ⟨p,0,none⟩ (.slice (some ⟨g,0,none⟩) Ts.length cap):=⟨_,rfl⟩;rw [<- hW9];have hgp:g ≠ p:=(BT.of_own HROW.out rfl).ne ⟨_,_,HCELL.out⟩ (by decide);have hs9:W9.heap.size = w1.heap.size:=by rw [hW9];simp [World.setCell]
 have stab:∀ b,b ≠ p -> W9.heap[b]? = w1.heap[b]?:=fun b h2=>by rw [hW9];exact RowKit.Below.heap_setCell w1 _ _ b h2
 have keep:∀ {A0:Option Addr} {c0:Nat} {L0:List Gm} {b0:Nat},GLo w1 b0 A0 c0 L0 -> GLo W9.drew b0 A0 c0 L0:=fun hg=>hg.block (w':=W9.drew) (by show _ <= W9.heap.size;omega) (fun b hb=>by
  refine stab b ?_;rintro rfl;rcases hb with hb | hb
  ·exact hb.ne ⟨_,_,HCELL.out⟩ (by decide) rfl
  ·exact hb.1.ne ⟨_,_,HCELL.out⟩ (by decide) rfl)
 have glo9:∀ t0 ∈ Ts,GLo W9.drew base t0.A t0.c t0.L /\ XH t0.o t0.v (Jf t0.L) = 0:=fun t0 ht0=>⟨keep (H.out.glo t0 (List.mem_append_left _ ht0)),(H.out.tab t0 (List.mem_append_left _ ht0)).ok⟩;refine ⟨rfl,⟨?_,?_,fun t0 ht0=>⟨(glo9 t0 ht0).1.tb,(glo9 t0 ht0).1.nilA,(glo9 t0 ht0).2⟩,fun t0 ht0=>(glo9 t0 ht0).1⟩,?_⟩
 ·show W9.heap[p]? = _;rw [hW9];exact (JF HCELL.out 0 _).trans rfl
 ·have h1:=Y4 HROW.out (UC Ts) (Nat.le_succ _);have h2:=Ji h1 (JS (World.grownBy.refl w1 (some p)) (.inl rfl) (.slice (some ⟨g,0,none⟩) Ts.length cap) (p:=⟨p,0,none⟩)) (fun k9 hk9 e9=>by
   simp [Value.ownBlock] at hk9;injection e9 with e9
   omega)
  rw [<- hW9] at h2;exact h2
 ·exact ⟨by rw [hW9];rfl,by rw [hW9];rfl,by rw [hW9];rfl,by show _ <= W9.heap.size;omega,fun b h1 h2 h3=>stab b h2⟩
end Go.Proofs.YtcjicjfbippmnaaGreat
