/- TalkBetter -/
import Derived.Test.YtcjicjfbippmnaaGreatMTBett28
import Derived.Test.YtcjicjfbippmnaaGreatMTBett26
set_option maxRecDepth 100000
set_option maxHeartbeats 32000000
namespace Go.Proofs.YtcjicjfbippmnaaGreat
open Go.RowKit Ear

structure Cl where
 A:Option Addr
 c:Nat
 m:List Int
 B:Option Addr
 d:Nat
 v:List Inn
def Cl.pure (x:Cl):Clu:=(x.m,Jx x.v)
def clp (x:Cl):List Value:=[.slice x.A x.m.length x.c,.slice x.B x.v.length x.d]
def ccs (Cs:List Cl):List Value:=Cs.flatMap clp
theorem ZL (Cs:List Cl):(ccs Cs).length = Cs.length * 2:=by
 induction Cs with
 | nil=>rfl
 | cons x l ih=>simp only [ccs,List.flatMap_cons,List.length_append] at ih ⊢;rw [ih];simp [clp];omega
theorem QY (X Y:List Cl):ccs (X ++ Y) = ccs X ++ ccs Y:=by simp [ccs]
theorem Ue (O R:List Cl) (x:Cl):ccs (O ++ x :: R) = ccs O ++ (Value.slice x.A x.m.length x.c :: Value.slice x.B x.v.length x.d :: ccs R):=by simp [ccs,clp]
theorem ZfT (Cs:List Cl):∀ u ∈ ccs Cs,u.oneCell' = true:=by
 intro u hu;obtain ⟨g,_,hg⟩:=List.mem_flatMap.1 hu;simp [clp] at hg;rcases hg with rfl | rfl <;> rfl
theorem Zdi {α:Type} (l:List α) {k:Nat} (hk:k < l.length):l = l.take k ++ l[k] :: l.drop (k + 1):=by
 rw [<- List.drop_eq_getElem_cons hk,List.take_append_drop]
theorem ZfU (Cs:List Cl) {k:Nat} (hk:k < Cs.length):(ccs Cs)[k * 2]? = some (.slice Cs[k].A Cs[k].m.length Cs[k].c) /\ (ccs Cs)[k * 2 + 1]? = some (.slice Cs[k].B Cs[k].v.length Cs[k].d):=by
 have e:=Zdi Cs hk;have hl:(ccs (Cs.take k)).length = k * 2:=by rw [ZL];simp;omega
 generalize Cs[k] = x at *
 rw [e,Ue];constructor
 ·rw [List.getElem?_append_right (by omega),hl,Nat.sub_self];rfl
 ·rw [List.getElem?_append_right (by omega),hl,show k * 2 + 1 - k * 2 = 1 by omega];rfl
theorem ZfV (Cs:List Cl) {k:Nat} (hk:k < Cs.length):(ccs Cs).take (k * 2) ++ (ccs Cs).drop ((k + 1) * 2) = ccs (Cs.eraseIdx k):=by
 have e:=Zdi Cs hk;have hl:(ccs (Cs.take k)).length = k * 2:=by rw [ZL];simp;omega
 have e2:Cs.eraseIdx k = Cs.take k ++ Cs.drop (k + 1):=List.eraseIdx_eq_take_drop_succ _ _;rw [e2,QY];have e3:ccs Cs = ccs (Cs.take k) ++ (clp Cs[k] ++ ccs (Cs.drop (k + 1))):=by
  conv=>lhs;rw [e]
  rw [Ue];rfl
 rw [e3,List.take_append_of_le_length (by omega),List.take_of_length_le (by omega),List.drop_append,List.drop_of_length_le (l:=ccs (Cs.take k)) (by omega),hl,show (k + 1) * 2 - k * 2 = 2 by omega];rfl
theorem Zhk (Cs:List Cl) {k:Nat} (hk:k < Cs.length) (x:Cl) (h:x.B = Cs[k].B /\ x.d = Cs[k].d /\ x.v = Cs[k].v):(ccs Cs).set (k * 2) (.slice x.A x.m.length x.c) = ccs (Cs.set k x):=by
 have e:=Zdi Cs hk;have hl:(ccs (Cs.take k)).length = k * 2:=by rw [ZL];simp;omega
 have e2:Cs.set k x = Cs.take k ++ x :: Cs.drop (k + 1):=List.set_eq_take_append_cons_drop.trans (by rw [if_pos hk]);obtain ⟨h1,h2,h3⟩:=h;generalize Cs[k] = y at *
 rw [e2,Ue]
 conv=>lhs;rw [e]
 rw [Ue,List.set_append_right _ _ (by omega),hl,Nat.sub_self,List.set_cons_zero,h1,h2,h3]
theorem Zhj (Cs:List Cl) {k:Nat} (hk:k < Cs.length) (x:Cl) (h:x.A = Cs[k].A /\ x.c = Cs[k].c /\ x.m = Cs[k].m):(ccs Cs).set (k * 2 + 1) (.slice x.B x.v.length x.d) = ccs (Cs.set k x):=by
 have e:=Zdi Cs hk;have hl:(ccs (Cs.take k)).length = k * 2:=by rw [ZL];simp;omega
 have e2:Cs.set k x = Cs.take k ++ x :: Cs.drop (k + 1):=List.set_eq_take_append_cons_drop.trans (by rw [if_pos hk]);obtain ⟨h1,h2,h3⟩:=h;generalize Cs[k] = y at *
 rw [e2,Ue]
 conv=>lhs;rw [e]
 rw [Ue,List.set_append_right _ _ (by omega),hl,show k * 2 + 1 - k * 2 = 1 by omega,List.set_cons_succ,List.set_cons_zero,h1,h2,h3]
structure CLs (w0 W:World) (base:Nat) (A:Option Addr) (c:Nat) (Cs:List Cl):Prop where
 row:W.ownsRow base 128 2 (.slice A Cs.length c) Cs.length (ccs Cs)
 mem:∀ x ∈ Cs,W.ownsRow base 3 1 (.slice x.A x.m.length x.c) x.m.length (ics x.m)
 vec:∀ x ∈ Cs,W.ownsRow base 40 1 (.slice x.B x.v.length x.d) x.v.length (lcs x.v)
 inn:∀ x ∈ Cs,∀ y ∈ x.v,InOk w0 y
 dm:Cs.Pairwise fun x y=>∀ k,blk x.A = some k -> blk y.A ≠ some k
 dv:Cs.Pairwise fun x y=>∀ k,blk x.B = some k -> blk y.B ≠ some k
section
variable {w0 W W':World} {base c:Nat} {A:Option Addr} {Cs:List Cl}
theorem CLs.nil:CLs w0 W base none 0 []:=⟨World.ownsRow_nil _ _ _ _,by simp,by simp,by simp,.nil,.nil⟩
theorem CLs.below (h:CLs w0 W base A c Cs) (hb:Below W.heap.size W W'):CLs w0 W' base A c Cs:=
 ⟨Jg h.row hb,fun x hx=>Jg (h.mem x hx) hb,fun x hx=>Jg (h.vec x hx) hb,h.inn,h.dm,h.dv⟩
theorem CLs.drew (h:CLs w0 W base A c Cs):CLs w0 W.drew base A c Cs:=⟨h.row,h.mem,h.vec,h.inn,h.dm,h.dv⟩
theorem CLs.ll (h:CLs w0 W base A c Cs) (hb:Below w0.heap.size w0 W) {k:Nat} (hk:k < Cs.length):LL W Cs[k].B Cs[k].v:=
 ⟨Lies.of_own (h.vec _ (yM hk)),fun y hy=>(h.inn _ (yM hk) y hy).below hb⟩
theorem CLs.at_ (h:CLs w0 W base A c Cs) {k:Nat} (hk:k < Cs.length):∃ g,A = some ⟨g,0,none⟩ /\ base <= g /\ g < W.heap.size /\ BT W g 128 /\ W.cell? ⟨g,k * 2,none⟩ = some (.slice Cs[k].A Cs[k].m.length Cs[k].c) /\ W.cell? ⟨g,k * 2 + 1,none⟩ = some (.slice Cs[k].B Cs[k].v.length Cs[k].d) /\
  W.frozen? ⟨g,k * 2,none⟩ = false /\ W.frozen? ⟨g,k * 2 + 1,none⟩ = false:=by
 have hr:=h.row;have hbt:=fun b (hb:(Value.slice A Cs.length c).ownBlock = some b)=>BT.of_own hr hb;obtain ⟨g,cap,hv,hg,hlt⟩:=hr.form (by omega);injection hv with e1 _ e3
 subst e1 e3;refine ⟨g,rfl,hg,hlt,hbt g rfl,?_,?_,hr.frozenAt _,hr.frozenAt _⟩
 ·rw [hr.cellAt (k * 2) (by omega)];exact (ZfU Cs hk).1
 ·rw [hr.cellAt (k * 2 + 1) (by omega)];exact (ZfU Cs hk).2
theorem CLs.snoc {A':Option Addr} {c' n:Nat} {x:Cl} (h:CLs w0 W base A c Cs) (hn:n = Cs.length) (hm:W.ownsRow base 3 1 (.slice x.A x.m.length x.c) x.m.length (ics x.m)) (hv:W.ownsRow base 40 1 (.slice x.B x.v.length x.d) x.v.length (lcs x.v)) (hi:∀ y ∈ x.v,InOk w0 y)
  (hg:W.grownBy W' (Value.slice A n c).ownBlock) (hr:W'.ownsRow base 128 2 (.slice A' (n + 1) c') (n + 1) (ccs Cs ++ clp x)) (h1:∀ y ∈ Cs,∀ k,blk y.A = some k -> blk x.A ≠ some k) (h2:∀ y ∈ Cs,∀ k,blk y.B = some k -> blk x.B ≠ some k):CLs w0 W' base A' c' (Cs ++ [x]):=by
 subst hn;have key:∀ {e:TypeId} {size m:Nat} {v:Value} {xs:List Value},e ≠ 128 -> W.ownsRow base e size v m xs -> W'.ownsRow base e size v m xs:=fun he ho=>Jq ho hg fun k hk e2=>(BT.of_own ho hk).ne (BT.of_own h.row e2) he rfl;refine ⟨by rw [QY,List.length_append];simpa [ccs] using hr,?_,?_,?_,?_,?_⟩
 ·intro y hy;rcases List.mem_append.1 hy with hy | hy
  ·exact key (by decide) (h.mem y hy)
  ·rw [List.mem_singleton.1 hy];exact key (by decide) hm
 ·intro y hy;rcases List.mem_append.1 hy with hy | hy
  ·exact key (by decide) (h.vec y hy)
  ·rw [List.mem_singleton.1 hy];exact key (by decide) hv
 ·intro y hy;rcases List.mem_append.1 hy with hy | hy
  ·exact h.inn y hy
  ·rw [List.mem_singleton.1 hy];exact hi
 ·rw [List.pairwise_append];exact ⟨h.dm,by simp,fun a ha b hb=>by rw [List.mem_singleton.1 hb];exact h1 a ha⟩
 ·rw [List.pairwise_append];exact ⟨h.dv,by simp,fun a ha b hb=>by rw [List.mem_singleton.1 hb];exact h2 a ha⟩
theorem CLs.del {k:Nat} {cap:Nat} (h:CLs w0 W base A c Cs) (hg:∀ row,(∃ b,A = some ⟨b,0,none⟩ /\ row = some b) -> W.grownBy W' row) (hA:∃ b,A = some ⟨b,0,none⟩) (hk:k < Cs.length)
  (hr:W'.ownsRow base 128 2 (.slice A (Cs.length - 1) cap) (Cs.length - 1) (ccs (Cs.eraseIdx k))):CLs w0 W' base A cap (Cs.eraseIdx k):=by
 obtain ⟨g,rfl⟩:=hA;have hg':=hg (some g) ⟨g,rfl,rfl⟩;have key:∀ {e:TypeId} {size m:Nat} {v:Value} {xs:List Value},e ≠ 128 -> W.ownsRow base e size v m xs -> W'.ownsRow base e size v m xs:=fun he ho=>Jq ho hg' fun k hk e2=>(BT.of_own ho hk).ne (BT.of_own h.row (by rw [Jo,<- e2];rfl)) he rfl;have hsub:(Cs.eraseIdx k).Sublist Cs:=List.eraseIdx_sublist _ _;refine ⟨?_,fun x hx=>key (by decide) (h.mem x (hsub.mem hx)),fun x hx=>key (by decide) (h.vec x (hsub.mem hx)),fun x hx=>h.inn x (hsub.mem hx),h.dm.sublist hsub,h.dv.sublist hsub⟩;rw [List.length_eraseIdx_of_lt hk];exact hr
theorem YC {f:Cl -> Option Nat} {Cs:List Cl} (h:Cs.Pairwise fun x y=>∀ k,f x = some k -> f y ≠ some k) {i j:Nat} (hi:i < Cs.length) (hj:j < Cs.length) (hne:i ≠ j):∀ k,f Cs[i] = some k -> f Cs[j] ≠ some k:=by
 intro k h1 h2;rw [List.pairwise_iff_getElem] at h;rcases Nat.lt_or_ge i j with hl | hl
 ·exact h i j hi hj hl k h1 h2
 ·exact h j i hj hi (by omega) k h2 h1
theorem VG {f:Cl -> Option Nat} {Cs:List Cl} {a:Nat} {X:Cl} (h:Cs.Pairwise fun x y=>∀ k,f x = some k -> f y ≠ some k) (hX:∀ k,f X = some k -> ∀ j (hj:j < Cs.length),j ≠ a -> f Cs[j] ≠ some k):(Cs.set a X).Pairwise fun x y=>∀ k,f x = some k -> f y ≠ some k:=by
 rw [List.pairwise_iff_getElem];intro i j hi hj hlt k h1 h2;simp only [List.length_set] at hi hj;rw [List.getElem_set] at h1 h2;split at h1
 ·split at h2
  ·omega
  ·rename_i e1 e2;exact hX k h1 j hj (fun e=>e2 e.symm) h2
 ·split at h2
  ·rename_i e1 e2;exact hX k h2 i hi (fun e=>e1 e.symm) h1
  ·exact YC h hi hj (by omega) k h1 h2
theorem Yr {Cs:List Cl} {a:Nat} {X x:Cl} (h:x ∈ Cs.set a X):x = X ∨ ∃ j,∃ hj:j < Cs.length,j ≠ a /\ x = Cs[j]:=by
 obtain ⟨j,hj,rfl⟩:=List.getElem_of_mem h;rw [List.getElem_set];split
 ·exact .inl rfl
 ·rename_i e;exact .inr ⟨j,by simpa using hj,fun e2=>e e2.symm,rfl⟩
theorem CLs.setM {A1:Option Addr} {c1 a g:Nat} {m:List Int} (h:CLs w0 W base (some ⟨g,0,none⟩) c Cs) (ha:a < Cs.length) (hg:W.grownBy W' (blk Cs[a].A)) (hrow:W'.ownsRow base 3 1 (.slice A1 m.length c1) m.length (ics m))
  (hfr:blk A1 = blk Cs[a].A ∨ blk A1 = some W.heap.size):CLs w0 (W'.setCell ⟨g,a * 2,none⟩ (.slice A1 m.length c1)) base (some ⟨g,0,none⟩) c (Cs.set a { Cs[a] with A:=A1,c:=c1,m:=m }):=by
 have hga:∀ k,blk Cs[a].A = some k -> BT W k 3:=fun k hk=>BT.of_own (h.mem _ (yM ha)) (by rw [Jo];exact hk);have hgb:BT W g 128:=BT.of_own h.row rfl;have hr1:W'.ownsRow base 128 2 (.slice (some ⟨g,0,none⟩) Cs.length c) Cs.length (ccs Cs):=Jq h.row hg fun k hk e=>(hga k e).ne (BT.of_own h.row hk) (by decide) rfl;have hst:=hr1.stored (a * 2) (.slice A1 m.length c1);have hgb':BT W' g 128:=BT.of_own hr1 rfl;have hset:=hst.2;have key:∀ {e:TypeId} {size n:Nat} {v:Value} {xs:List Value},e ≠ 128 -> W'.ownsRow base e size v n xs -> (W'.setCell ⟨g,a * 2,none⟩ (.slice A1 m.length c1)).ownsRow base e size v n xs:=fun he ho=>Jq ho hset fun k hk e2=>by
  injection e2 with e2
  subst e2;exact (BT.of_own ho hk).ne hgb' he rfl
 refine ⟨?_,?_,?_,?_,?_,?_⟩
 ·have h1:=hst.1;rw [Zhk Cs ha { Cs[a] with A:=A1,c:=c1,m:=m } ⟨rfl,rfl,rfl⟩] at h1;rw [List.length_set];exact h1
 ·intro x hx;rcases Yr hx with rfl | ⟨j,hj,hne,rfl⟩
  ·exact key (by decide) hrow
  ·refine key (by decide) (Jq (h.mem _ (yM hj)) hg fun k hk e=>?_);rw [Jo] at hk;exact YC (f:=fun x=>blk x.A) h.dm hj ha hne k hk e
 ·intro x hx;rcases Yr hx with rfl | ⟨j,hj,hne,rfl⟩
  ·exact key (by decide) (Jq (h.vec Cs[a] (yM ha)) hg fun k hk e=>(hga k e).ne (BT.of_own (h.vec Cs[a] (yM ha)) hk) (by decide) rfl)
  ·exact key (by decide) (Jq (h.vec _ (yM hj)) hg fun k hk e=>(hga k e).ne (BT.of_own (h.vec _ (yM hj)) hk) (by decide) rfl)
 ·intro x hx;rcases Yr hx with rfl | ⟨j,hj,hne,rfl⟩
  ·exact h.inn Cs[a] (yM ha)
  ·exact h.inn _ (yM hj)
 ·refine VG (f:=fun x=>blk x.A) h.dm fun k hk j hj hne=>?_;simp only at hk;rcases hfr with e | e
  ·rw [e] at hk;exact YC (f:=fun x=>blk x.A) h.dm ha hj (fun e=>hne e.symm) k hk
  ·rw [e] at hk;injection hk with hk
   intro e2;have:=((h.mem _ (yM hj)).lt k (by rw [Jo];exact e2)).2;omega
 ·exact VG (f:=fun x=>blk x.B) h.dv fun k hk j hj hne=>YC (f:=fun x=>blk x.B) h.dv ha hj (fun e=>hne e.symm) k hk
theorem CLs.setV {A1:Option Addr} {c1 a g:Nat} {m:List Inn} (h:CLs w0 W base (some ⟨g,0,none⟩) c Cs) (ha:a < Cs.length) (hg:W.grownBy W' (blk Cs[a].B)) (hrow:W'.ownsRow base 40 1 (.slice A1 m.length c1) m.length (lcs m))
  (hm:∀ y ∈ m,InOk w0 y) (hfr:blk A1 = blk Cs[a].B ∨ blk A1 = some W.heap.size):CLs w0 (W'.setCell ⟨g,a * 2 + 1,none⟩ (.slice A1 m.length c1)) base (some ⟨g,0,none⟩) c (Cs.set a { Cs[a] with B:=A1,d:=c1,v:=m }):=by
 have hga:∀ k,blk Cs[a].B = some k -> BT W k 40:=fun k hk=>BT.of_own (h.vec _ (yM ha)) (by rw [Jo];exact hk);have hgb:BT W g 128:=BT.of_own h.row rfl;have hr1:W'.ownsRow base 128 2 (.slice (some ⟨g,0,none⟩) Cs.length c) Cs.length (ccs Cs):=Jq h.row hg fun k hk e=>(hga k e).ne (BT.of_own h.row hk) (by decide) rfl;have hst:=hr1.stored (a * 2 + 1) (.slice A1 m.length c1);have hgb':BT W' g 128:=BT.of_own hr1 rfl;have hset:=hst.2;have key:∀ {e:TypeId} {size n:Nat} {v:Value} {xs:List Value},e ≠ 128 -> W'.ownsRow base e size v n xs -> (W'.setCell ⟨g,a * 2 + 1,none⟩ (.slice A1 m.length c1)).ownsRow base e size v n xs:=fun he ho=>Jq ho hset fun k hk e2=>by
  injection e2 with e2
  subst e2;exact (BT.of_own ho hk).ne hgb' he rfl
 refine ⟨?_,?_,?_,?_,?_,?_⟩
 ·have h1:=hst.1;rw [Zhj Cs ha { Cs[a] with B:=A1,d:=c1,v:=m } ⟨rfl,rfl,rfl⟩] at h1;rw [List.length_set];exact h1
 ·intro x hx;rcases Yr hx with rfl | ⟨j,hj,hne,rfl⟩
  ·exact key (by decide) (Jq (h.mem Cs[a] (yM ha)) hg fun k hk e=>(hga k e).ne (BT.of_own (h.mem Cs[a] (yM ha)) hk) (by decide) rfl)
  ·exact key (by decide) (Jq (h.mem _ (yM hj)) hg fun k hk e=>(hga k e).ne (BT.of_own (h.mem _ (yM hj)) hk) (by decide) rfl)
 ·intro x hx;rcases Yr hx with rfl | ⟨j,hj,hne,rfl⟩
  ·exact key (by decide) hrow
  ·refine key (by decide) (Jq (h.vec _ (yM hj)) hg fun k hk e=>?_);rw [Jo] at hk;exact YC (f:=fun x=>blk x.B) h.dv hj ha hne k hk e
 ·intro x hx;rcases Yr hx with rfl | ⟨j,hj,hne,rfl⟩
  ·exact hm
  ·exact h.inn _ (yM hj)
 ·exact VG (f:=fun x=>blk x.A) h.dm fun k hk j hj hne=>YC (f:=fun x=>blk x.A) h.dm ha hj (fun e=>hne e.symm) k hk
 ·refine VG (f:=fun x=>blk x.B) h.dv fun k hk j hj hne=>?_;simp only at hk;rcases hfr with e | e
  ·rw [e] at hk;exact YC (f:=fun x=>blk x.B) h.dv ha hj (fun e=>hne e.symm) k hk
  ·rw [e] at hk;injection hk with hk
   intro e2;have:=((h.vec _ (yM hj)).lt k (by rw [Jo];exact e2)).2;omega
theorem CLs.atX {k g:Nat} {X:Cl} (h:CLs w0 W base (some ⟨g,0,none⟩) c Cs) (hX:Cs[k]? = some X):W.cell? ⟨g,k * 2,none⟩ = some (.slice X.A X.m.length X.c) /\ W.cell? ⟨g,k * 2 + 1,none⟩ = some (.slice X.B X.v.length X.d) /\ W.frozen? ⟨g,k * 2,none⟩ = false /\ W.frozen? ⟨g,k * 2 + 1,none⟩ = false /\
  W.ownsRow base 3 1 (.slice X.A X.m.length X.c) X.m.length (ics X.m) /\ W.ownsRow base 40 1 (.slice X.B X.v.length X.d) X.v.length (lcs X.v) /\ (∀ y ∈ X.v,InOk w0 y) /\ BT W g 128 /\ base <= g /\ g < W.heap.size:=by
 obtain ⟨hk,rfl⟩:=List.getElem?_eq_some_iff.1 hX;obtain ⟨g',e,h1,h2,h3,h4,h5,h6,h7⟩:=h.at_ hk;injection e with e
 injection e with e
 subst e;exact ⟨h4,h5,h6,h7,h.mem _ (yM hk),h.vec _ (yM hk),h.inn _ (yM hk),h3,h1,h2⟩
theorem CLs.setMX {A1:Option Addr} {c1 a g:Nat} {m:List Int} {X:Cl} (h:CLs w0 W base (some ⟨g,0,none⟩) c Cs) (hX:Cs[a]? = some X) (hg:W.grownBy W' (blk X.A)) (hrow:W'.ownsRow base 3 1 (.slice A1 m.length c1) m.length (ics m))
  (hfr:blk A1 = blk X.A ∨ blk A1 = some W.heap.size):CLs w0 (W'.setCell ⟨g,a * 2,none⟩ (.slice A1 m.length c1)) base (some ⟨g,0,none⟩) c (Cs.set a { X with A:=A1,c:=c1,m:=m }):=by
 obtain ⟨hk,rfl⟩:=List.getElem?_eq_some_iff.1 hX;exact h.setM hk hg hrow hfr
theorem CLs.setVX {A1:Option Addr} {c1 a g:Nat} {m:List Inn} {X:Cl} (h:CLs w0 W base (some ⟨g,0,none⟩) c Cs) (hX:Cs[a]? = some X) (hg:W.grownBy W' (blk X.B)) (hrow:W'.ownsRow base 40 1 (.slice A1 m.length c1) m.length (lcs m))
  (hm:∀ y ∈ m,InOk w0 y) (hfr:blk A1 = blk X.B ∨ blk A1 = some W.heap.size):CLs w0 (W'.setCell ⟨g,a * 2 + 1,none⟩ (.slice A1 m.length c1)) base (some ⟨g,0,none⟩) c (Cs.set a { X with B:=A1,d:=c1,v:=m }):=by
 obtain ⟨hk,rfl⟩:=List.getElem?_eq_some_iff.1 hX;exact h.setV hk hg hrow hm hfr
end
theorem Zbp {Cs:List Cl} {a b:Nat} {X Y X2 X3:Cl} (hX:Cs[a]? = some X) (hY:Cs[b]? = some Y) (h1:X3.m = X.m ++ Y.m) (h2:X3.v = X.v ++ Y.v):(((Cs.set a X2).set a X3).eraseIdx b).map Cl.pure = Zav (Cs.map Cl.pure) a b:=by
 unfold Zav;rw [List.getElem?_map,List.getElem?_map,hX,hY,List.set_set];simp only [Option.map_some,Option.getD_some];rw [List.eraseIdx_eq_take_drop_succ,List.eraseIdx_eq_take_drop_succ,List.map_append,List.map_take,List.map_drop,List.map_set];have e:X3.pure = (X.pure.1 ++ Y.pure.1,X.pure.2 ++ Y.pure.2):=by simp [Cl.pure,h1,h2,Jx]
 rw [e]
theorem Uw {w:World} {base:Nat} {e:TypeId} {size n c:Nat} {A:Option Addr} {xs:List Value} (h:w.ownsRow base e size (.slice A n c) n xs):A = none -> c = 0:=fun hA=>by
 subst hA;rcases h.2 with ⟨e1,_⟩ | ⟨_,_,_,e1,_⟩
 ·injection e1
 ·injection e1 with e2;cases e2
theorem XT {P:Program} (w:World) {o:Oper} {t0:Array Value} {df:List Deferred} {K:Act -> World -> Prop} {Q:Exit -> Act -> World -> Prop} (d:Nat) (hd:o.dst = some d) (s x:Operand) (t:TypeId)
  (ho:o.op = .call { callee:=.builtin .append,args:=#[s,x],argTypes:=#[t,t] })
  (base:Nat) (e:TypeId) (i:TypeInfo) (z:Value) (size bytes:Nat) (ht:P.underlying t = some (.slice e)) (hi:P.info? e = some i) (hz:i.zero = some z)
  (hsize:i.size = size) (hby:i.bytes = bytes) (hzs:z.cells.size = size) (hsz : 0 < size)
  (v:Value) (n:Nat) (xs:List Value) (hs:Act.eval ⟨t0,df⟩ s = v) (hown:w.ownsRow base e size v n xs)
  (A:Option Addr) (m c:Nat) (news:List Value) (hx:Act.eval ⟨t0,df⟩ x = .slice A m c) (hA:A = none -> c = 0) (hr:Lies w A news) (hl:news.length = m * size) (h1:∀ u ∈ news,u.oneCell' = true)
  (h63:n + m <= maxLen) (hbytes:(n + m) * bytes <= 140737488355328) (hbase:base <= w.heap.size) (N:Nat) (hN:n + m = N)
  (h:∀ A' c' w',w'.ownsRow base e size (.slice A' N c') N (xs ++ news) -> w.grownBy w' v.ownBlock -> ((Value.slice A' N c').ownBlock = v.ownBlock ∨ (Value.slice A' N c').ownBlock = some w.heap.size) -> K ⟨t0.setIfInBounds d (.slice A' N c'),df⟩ w'):o.wp P ⟨t0,df⟩ w K Q:=
 Jt w s x t ho base e i z size bytes ht hi hz hsize hby hzs hsz v n xs hs hown A m c news hx hA hr hl h1 h63 hbytes hbase N hN (by rw [hd];exact h)
end Go.Proofs.YtcjicjfbippmnaaGreat
namespace Go.Proofs.YtcjicjfbippmnaaGreat
open Go.RowKit Ear

theorem Ziy {va vb:List (List Int)} (h:Zfs [va,vb] = 0) : 0 < va.length /\ 0 < vb.length /\ va.length <= 10000 /\ vb.length <= 10000 /\ len0 va <= 64 /\ Vcs (len0 va) va /\ Vcs (len0 va) vb:=by
 unfold Zfs at h;split at h
 ·cases h
 ·rename_i hl;split at h
  ·rename_i hg;simp [Qt] at hg hl;obtain ⟨⟨h1,h2⟩,h3⟩:=hg;cases va with
   | nil=>exact absurd rfl h1
   | cons x l=>
    have e:len0 (x :: l ++ vb) = x.length:=rfl;have hx:=fun y hy=>Vb (vs:=x :: (l ++ vb)) (by simpa using h3) (x:=y) hy;have e2:len0 (x :: (l ++ vb)) = len0 (x :: l):=rfl;rw [e2] at hx;have h0 : 0 < vb.length:=List.length_pos_iff.2 h2;refine ⟨by simp,h0,by omega,by omega,(hx x (by simp)).2.2.1,fun y hy=>?_,fun y hy=>?_⟩
    ·have:=hx y (by simp at hy ⊢;rcases hy with h | h;exact .inl h;exact .inr (.inl h));exact ⟨this.1,this.2.2.2⟩
    ·have:=hx y (by simp;exact .inr (.inr hy));exact ⟨this.1,this.2.2.2⟩
  ·cases h
def Zkh (r:Int) (va vb:List (List Int)):Rat:=if r = 0 then Zg9 va vb else ((0:Int):Rat)
def Zf6 (r:Int) (q:Rat) (w:World) (e:Ending) (w':World):Prop:=∃ x:Fr,e = .returned (.tuple #[x.val,.int .i64 r]) /\ Fq w' x q /\ Below w.heap.size w w' /\ (r ≠ 0 -> x = J1)
theorem Zfa (w:World) (u v:Value) (t:TypeId):Lies (w.alloc (.cells #[u,v] t)) (some ⟨w.heap.size,0,none⟩) [u,v]:=fun _=>
 ⟨w.heap.size,0,rfl,by simp,fun k x hx=>by rw [Nat.zero_add,cell_of_row _ _ k _ _ _ (heap_alloc_new w _)];simpa using hx⟩
theorem ZjP {w:World} {A B:Option Addr} {c d:Nat} {L M:List Inn} (hA:LL w A L) (hB:LL w B M) (t:TypeId):GG (w.alloc (.cells #[.slice A L.length c,.slice B M.length d] t)) (some ⟨w.heap.size,0,none⟩) [(A,c,L),(B,d,M)]:=
 ⟨Zfa _ _ _ _,fun g hg=>by
  rcases List.mem_cons.1 hg with rfl | hg
  ·exact hA.below (bR.alloc nR _)
  ·rw [List.mem_singleton] at hg;subst hg;exact hB.below (bR.alloc nR _)⟩
theorem Zgp (A B:Option Addr) (c d:Nat) (L M:List Inn) (w:World) (hA:LL w A L) (hB:LL w B M) (hl:L.length <= 10000) (hm:M.length <= 10000) (r:Int) (hr:Hid (Zfs [Jx L,Jx M] = r)) :
  Calls Tryz.prog 15 #[.slice A L.length c,.slice B M.length d] w (Zf6 r (Zkh r (Jx L) (Jx M)) w):=by
 obtain ⟨W,hW⟩:∃ W:World,W = w.alloc (.cells #[.bool false,.slice none 0 0,.slice none 0 0] 28):=⟨_,rfl⟩;have HB0:Hid (Below w.heap.size w W):=zH (by rw [hW];exact bR.alloc nR _);have HBX:Hid (Bt 28 W w.heap.size):=zH (by rw [hW];exact Bt.new _ w);have hWs:W.heap.size = w.heap.size + 1:=by rw [hW];simp
 have hAW:=hA.below HB0.out;have hBW:=hB.below HB0.out;obtain ⟨V,hV⟩:∃ V:World,V = W.alloc (.cells #[.slice A L.length c,.slice B M.length d] 22):=⟨_,rfl⟩;have HGG:Hid (GG V (some ⟨w.heap.size + 1,0,none⟩) [(A,c,L),(B,d,M)]):=zH (by rw [hV,<- hWs];exact ZjP hAW hBW _);have HBV:Hid (Below W.heap.size W V):=zH (by rw [hV];exact bR.alloc nR _);have C1:Hid (Calls Tryz.prog 55 #[.slice (some ⟨w.heap.size + 1,0,none⟩) 2 2] V fun e w'=>e = .returned (.int .i64 r) /\ V = w'):=zH (U6 (some ⟨w.heap.size + 1,0,none⟩) 2 [(A,c,L),(B,d,M)] V HGG.out (by simp) (zH (by intro g hg;simp at hg;rcases hg with rfl | rfl <;> simpa)) r hr);have HAV:=zH (hAW.below HBV.out);have HBV':=zH (hBW.below HBV.out);have HX:=zH (HBX.out.below HBV.out);have HW:=zH (HB0.out.trans (HBV.out.mono HB0.out.size));clear hAW hBW HB0 HBX hA hB HGG HBV hWs;by_cases h0:r = 0
 ·obtain ⟨g1,g2,-,-,g3,g4,g5⟩:=Ziy (hr.out.trans h0);have C2:=zH (ZcK A B c d _ L M V HAV.out HBV'.out (zH g4) (zH g5) (by simpa using g1) (by simpa using g2) hl hm (by omega));subst h0;clear g1 g2 g3 g4 g5 HAV HBV';go_enter Tryz.func15,Tryz.ntmps15;go_wp2_with fail;rw [<- hW];rw [<- hV];clear hW hV;refine C1.out.mono ?_;rintro e w' ⟨rfl,rfl⟩;clear C1;go_wp2_with fail;refine C2.out.mono ?_;rintro e w1 ⟨x,rfl,hx,hb⟩;have HX1:=zH (HX.out.below hb);have HW1:=zH (HW.out.trans (hb.mono HW.out.size));have HQ:=zH hx;obtain ⟨c0,c1,c2,f0,f1,f2⟩:=HX1.out.facts;clear hx hb C2 HX HW;go_wp2_with fail;obtain ⟨g0,g1,g2⟩:=Z7 (.bool x.neg) (.slice x.A x.N.length x.c) (.slice x.B x.D.length x.d) c0 c1 c2;refine bodyPost_ret (v:=.tuple #[x.val,.int .i64 0]) (by simp [results,Tryz.results15,go_sem,g0,g1,g2]) rfl ?_;exact ⟨x,rfl,J2 HQ.out HX1.out _ _ _,Ji HW1.out nR _ _ _,fun h=>absurd rfl h⟩
 ·have hE:Zkh r (Jx L) (Jx M) = ((0:Int):Rat):=if_neg h0;rw [hE];have q0:(r != 0) = true:=by simp [h0]
  clear hE;obtain ⟨c0,c1,c2,f0,f1,f2⟩:=HX.out.facts;go_enter Tryz.func15,Tryz.ntmps15;go_wp2_with fail;rw [<- hW];rw [<- hV];clear hW hV;refine C1.out.mono ?_;rintro e w' ⟨rfl,rfl⟩;clear C1;go_wp2_with fail;obtain ⟨g0,g1,g2⟩:=Z7 (.bool false) (.slice none 0 0) (.slice none 0 0) c0 c1 c2;refine bodyPost_ret (v:=.tuple #[J1.val,.int .i64 r]) (by simp [results,Tryz.results15,go_sem,g0,g1,g2,J1]) rfl ?_;exact ⟨J1,rfl,J2 (Fq.zero _) HX.out _ _ _,Ji HW.out nR _ _ _,fun _=>rfl⟩
end Go.Proofs.YtcjicjfbippmnaaGreat
