/- TalkClusters -/
import Derived.Test.YtcjicjfbippmnaaGreatMTClus19
import Derived.WideKeyEntry
set_option maxRecDepth 100000
set_option maxHeartbeats 32000000
namespace Go.Proofs.YtcjicjfbippmnaaGreat
open Go.RowKit Ear

def Ze (q:Rat):Bool:=decide (0 <= Xw q) && decide (Xw (q + -((1:Int):Rat)) <= 0)
theorem Ug (x:Fr) (q:Rat) (w:World) (hx:Fv w x q) (fx:Few x 90000) (r:Bool) (hr:Hid (Ze q = r)):Calls Tryz.prog 85 #[x.val] w (Zdn r w):=by
 obtain ⟨W0,hW0⟩:∃ W0:World,W0 = w.alloc (.cells #[.bool x.neg,.slice x.A x.N.length x.c,.slice x.B x.D.length x.d] 28):=⟨_,rfl⟩;have HB0:Hid (Below w.heap.size w W0):=zH (by rw [hW0];exact bR.alloc nR _);have HX0:Hid (Fb W0 w.heap.size x):=zH (by rw [hW0];exact Fb.new w x);have HV0:=zH (hx.below HB0.out);obtain ⟨c0,c1,c2,-,-,-⟩:=HX0.out.facts;obtain ⟨R,hR⟩:∃ R,R = Xw q:=⟨_,rfl⟩;obtain ⟨R2,hR2⟩:∃ R2,R2 = Xw (q + -((1:Int):Rat)):=⟨_,rfl⟩;have HR:=zH hR.symm;have HR2:=zH hR2.symm;have hrr:r = (decide (0 <= R) && decide (R2 <= 0)):=by rw [<- hr.out,hR,hR2];rfl
 have HRR:=zH hrr;clear hx hR hR2 hrr hr;by_cases h0 : 0 <= R
 ·go_enter Tryz.func85,Tryz.ntmps85;go_wp2_with fail;rw [<- hW0];clear hW0;have g0:decide (0 <= R) = true:=decide_eq_true h0;refine Jn (S:=fun w'=>w'.cell? ⟨w.heap.size,0,none⟩ = some (.bool x.neg) /\ w'.cell? ⟨w.heap.size,1,none⟩ = some (.slice x.A x.N.length x.c) /\ w'.cell? ⟨w.heap.size,2,none⟩ = some (.slice x.B x.D.length x.d) /\ Hid (Fb w' w.heap.size x) /\ Hid (Below w.heap.size w w') /\ Hid (Fv w' x q)) 10 rfl (by kernel_rfl) ⟨c0,c1,c2,zH HX0.out,zH HB0.out.drew,zH (HV0.out.below bR.drew)⟩ (fun hd=>?_)
  ((refine Jb (v:=?_) rfl (by kernel_rfl) (fun _ _ _ h=>h) ⟨by rfl,?_⟩ hd ?_;rotate_left;· intro w' sw;obtain ⟨hS1,hS2,hS3,-,-,-⟩:=sw;go_simp;try with_reducible rfl);simp only [zA,zB,zC])
  refine Jg 1 rfl (by kernel_rfl) rfl (fun K hK=>?_);go_simp;refine (ZY x q _ hd.2.2.2.2.2.out (by exact ⟨tR fx.n (by decide),tR fx.d (by decide)⟩) R HR).mono ?_;rintro e u1 ⟨rfl,hb1⟩;go_simp;refine hK _ _ (by have h9:=hd.2.2.2.1.out.below hb1;have h8:=h9.facts;exact ⟨h8.1,h8.2.1,h8.2.2.1,zH h9,zH (hd.2.2.2.2.1.out.trans (hb1.mono hd.2.2.2.2.1.out.size)),zH (hd.2.2.2.2.2.out.below hb1)⟩) (fun hd=>?_);clear hK K;iterate 3 (((refine Jb (v:=?_) rfl (by kernel_rfl) (fun _ _ _ h=>h) ⟨by rfl,?_⟩ hd ?_;rotate_left;· intro w' sw;obtain ⟨hS1,hS2,hS3,-,-,-⟩:=sw;go_simp;try with_reducible rfl);simp only [zA,zB,zC]))
  refine JR 5 rfl (by kernel_rfl) (by rfl) (fun K hK=>?_);go_simp;refine (ZbK 1 _ (by omega) (by omega)).mono ?_;rintro e u2 ⟨y,rfl,hy,hb2⟩;have HY:=zH hy;go_simp;refine hK _ _ (by have h9:=hd.2.2.2.1.out.below hb2;have h8:=h9.facts;exact ⟨h8.1,h8.2.1,h8.2.2.1,zH h9,zH (hd.2.2.2.2.1.out.trans (hb2.mono hd.2.2.2.2.1.out.size)),zH (hd.2.2.2.2.2.out.below hb2)⟩) (fun hd=>?_);clear hK K;refine JR 6 rfl (by kernel_rfl) (by rfl) (fun K hK=>?_);go_simp;refine (XC x y q ((1:Int):Rat) _ hd.2.2.2.2.2.out HY.out.fv fx (HY.out.few ((Sz.i64 (z:=1) (by omega) (by omega)).mono (by decide))) R2 HR2).mono ?_;rintro e u3 ⟨rfl,hb3⟩;go_simp;refine hK _ _ (by have h9:=hd.2.2.2.1.out.below hb3;have h8:=h9.facts;exact ⟨h8.1,h8.2.1,h8.2.2.1,zH h9,zH (hd.2.2.2.2.1.out.trans (hb3.mono hd.2.2.2.2.1.out.size)),zH (hd.2.2.2.2.2.out.below hb3)⟩) (fun hd=>?_);clear hK K;iterate 3 (((refine Jb (v:=?_) rfl (by kernel_rfl) (fun _ _ _ h=>h) ⟨by rfl,?_⟩ hd ?_;rotate_left;· intro w' sw;obtain ⟨hS1,hS2,hS3,-,-,-⟩:=sw;go_simp;try with_reducible rfl);simp only [zA,zB,zC]))
  refine wpAnyH_done (by kernel_rfl) ?_ _;go_wp2_with fail;go_ret;exact ⟨by rw [HRR.out,decide_eq_true h0];rfl,hd.2.2.2.2.1.out⟩
 ·have HN:=zH h0;have g0:decide (0 <= R) = false:=dF h0;go_enter Tryz.func85,Tryz.ntmps85;go_wp2_with fail;rw [<- hW0];clear hW0;refine Jn (S:=fun w'=>w'.cell? ⟨w.heap.size,0,none⟩ = some (.bool x.neg) /\ w'.cell? ⟨w.heap.size,1,none⟩ = some (.slice x.A x.N.length x.c) /\ w'.cell? ⟨w.heap.size,2,none⟩ = some (.slice x.B x.D.length x.d) /\ Hid (Fb w' w.heap.size x) /\ Hid (Below w.heap.size w w') /\ Hid (Fv w' x q)) 10 rfl (by kernel_rfl) ⟨c0,c1,c2,zH HX0.out,zH HB0.out.drew,zH (HV0.out.below bR.drew)⟩ (fun hd=>?_)
  ((refine Jb (v:=?_) rfl (by kernel_rfl) (fun _ _ _ h=>h) ⟨by rfl,?_⟩ hd ?_;rotate_left;· intro w' sw;obtain ⟨hS1,hS2,hS3,-,-,-⟩:=sw;go_simp;try with_reducible rfl);simp only [zA,zB,zC])
  refine Jg 1 rfl (by kernel_rfl) rfl (fun K hK=>?_);go_simp;refine (ZY x q _ hd.2.2.2.2.2.out (by exact ⟨tR fx.n (by decide),tR fx.d (by decide)⟩) R HR).mono ?_;rintro e u1 ⟨rfl,hb1⟩;go_simp;refine hK _ _ (by have h9:=hd.2.2.2.1.out.below hb1;have h8:=h9.facts;exact ⟨h8.1,h8.2.1,h8.2.2.1,zH h9,zH (hd.2.2.2.2.1.out.trans (hb1.mono hd.2.2.2.2.1.out.size)),zH (hd.2.2.2.2.2.out.below hb1)⟩) (fun hd=>?_);clear hK K;iterate 8 (first | ((refine Jb (v:=?_) rfl (by kernel_rfl) (fun _ _ _ h=>h) ⟨by rfl,?_⟩ hd ?_;rotate_left;· intro w' sw;obtain ⟨hS1,hS2,hS3,-,-,-⟩:=sw;go_simp;try with_reducible rfl);simp only [zA,zB,zC]) | (refine Xj rfl (by kernel_rfl) (fun _ _ _ h=>h) (by rfl) hd ?_;simp only [zA,zB,zC]))
  refine wpAnyH_done (by kernel_rfl) ?_ _;go_wp2_with fail;go_ret;exact ⟨by rw [HRR.out,dF (Int.not_le.2 HN.out)];rfl,hd.2.2.2.2.1.out⟩
end Go.Proofs.YtcjicjfbippmnaaGreat
namespace Ear
def Y4 (s:ByteArray) (k:Nat):Int:=(s.data[k]?.getD 0).toNat
def VO (s:ByteArray) (k:Nat):Bool:=(List.range k).all fun i=>decide (33 <= Y4 s i) && decide (Y4 s i <= 126)
def Za (s:ByteArray):Bool:=VO s s.size && decide (1 <= s.size) && decide (s.size <= 40)
theorem Zbu (s:ByteArray) (k:Nat):VO s (k + 1) = (VO s k && (decide (33 <= Y4 s k) && decide (Y4 s k <= 126))):=by
 unfold VO;rw [List.range_succ,List.all_append];simp
theorem Zds {s:ByteArray} {k:Nat} (hk:k < s.size) (h:¬ (33 <= Y4 s k /\ Y4 s k <= 126)):Za s = false:=by
 have h1:VO s s.size = false:=by
  unfold VO;rw [List.all_eq_false];refine ⟨k,List.mem_range.2 hk,?_⟩;simp only [Bool.and_eq_true,decide_eq_true_eq];exact h
 unfold Za;rw [h1];rfl
end Ear
namespace Go.Proofs.YtcjicjfbippmnaaGreat
open Go.RowKit Ear

theorem ZcW (s:ByteArray) {k:Nat} (hk:k < s.size) (W:World):(Instr.index 9 (.string s) (.int .i64 (k:Int))).run Tryz.prog W = .ok (.int .u8 (Y4 s k)) W:=by
 rw [run_index_string (P:=Tryz.prog) (h:=Tryz.underlying9),dif_pos ⟨by omega,by omega⟩];congr 2;unfold Y4;have:k < s.data.size:=hk;rw [Array.getElem?_eq_getElem this];rfl
theorem ZeM (s:ByteArray) (k:Nat) : 0 <= Y4 s k /\ Y4 s k <= 255:=by
 unfold Y4;have:=(s.data[k]?.getD 0).toNat_lt;omega
theorem Zb8 (s:ByteArray) (w:World) (hs:s.size <= 1000000) (r:Bool) (hr:Hid (Za s = r)):Calls Tryz.prog 137 #[.string s] w fun e w'=>e = .returned (.bool r) /\ w' = w:=by
 go_enter Tryz.func137,Tryz.ntmps137;go_wp2_with fail;go_loopw [6] (fun i wr=>∃ k:Nat,k <= s.size /\ i = .int .i64 k /\ Hid (VO s k = true) /\ wr = w) (fun i _=>s.size - (intOf i).toNat)
 case atStart=>exact ⟨0,by omega,rfl,zH rfl,rfl⟩
 case round=>
  obtain ⟨k,hk,rfl,HT,rfl⟩:=hrel;by_cases hlt:k < s.size
  ·have hix:=fun W=>ZcW s hlt W;have hbd:=ZeM s k;have HBAD:=zH (Zds hlt);have HSC:=zH (Zbu s k);generalize Y4 s k = z at *
   have hlt':(k:Int) < (s.size:Int):=(by omega);by_cases h1:z < 33
   ·have HF:Hid (r = false):=zH (by rw [<- hr.out];exact HBAD.out (by omega));clear HBAD;go_wp2_with fail;go_ret;exact ⟨by rw [HF.out];rfl,rfl⟩
   ·by_cases h2 : 126 < z
    ·have HF:Hid (r = false):=zH (by rw [<- hr.out];exact HBAD.out (by omega));clear HBAD;go_wp2_with fail;go_ret;exact ⟨by rw [HF.out];rfl,rfl⟩
    ·have HN:Hid (VO s (k + 1) = true):=zH (by rw [HSC.out,HT.out];simp;omega);clear HBAD HSC HT;go_wp2_with fail;exact ⟨⟨k + 1,by omega,by go_num,HN,trivial⟩,by simp [intOf];omega⟩
  ·have hkn:k = s.size:=by omega
   have hlt':¬ (k:Int) < (s.size:Int):=(by omega);have hrr:r = (decide (1 <= s.size) && decide (s.size <= 40)):=by
    rw [<- hr.out];unfold Za;rw [<- hkn,HT.out];simp
   have HR:=zH hrr;clear hrr;by_cases h1 : 1 <= s.size
   ·by_cases h2:s.size <= 40
    ·have g1:(1:Int) <= (s.size:Int):=(by omega);have g2:(s.size:Int) <= 40:=(by omega);go_wp2_with fail;go_ret;exact ⟨by rw [HR.out];simp [h1,h2],rfl⟩
    ·have g1:(1:Int) <= (s.size:Int):=(by omega);have g2:¬ (s.size:Int) <= 40:=(by omega);go_wp2_with fail;go_ret;exact ⟨by rw [HR.out];simp [h1,h2],rfl⟩
   ·have g1:¬ (1:Int) <= (s.size:Int):=(by omega);go_wp2_with fail;go_ret;exact ⟨by rw [HR.out];simp [h1],rfl⟩
end Go.Proofs.YtcjicjfbippmnaaGreat
namespace Ear
open Go.Proofs.YtcjicjfbippmnaaGreat (Ze)
abbrev BA:=ByteArray
instance:DecidableEq BA:=fun a b=>decidable_of_iff (a.data = b.data) ⟨fun h=>by cases a;cases b;simp at h;rw [h],fun h=>by rw [h]⟩
instance (v:BA) (l:List BA):Decidable (v ∈ l):=@List.instDecidableMemOfLawfulBEq BA instBEqOfDecidableEq inferInstance v l
structure PSl where
 nm:BA
 vs:List BA
 le:Rat
 su:Rat
def Ze0:BA:=⟨#[121,101,115]⟩
def noB:BA:=⟨#[110,111]⟩
def Xq (seen:List BA):List BA -> Option (List BA)
 | []=>some seen
 | v :: l=>if Za v = true /\ v ∉ seen then Xq (seen ++ [v]) l else none
def ZbF (names:List BA) (s:PSl):Bool:=
 Za s.nm && decide (s.nm ∉ names) && decide (s.nm ≠ Ze0) && decide (s.nm ≠ noB) && decide (1 <= s.vs.length) && decide (s.vs.length <= 50) && Ze s.le && Ze s.su && decide (¬ 0 < Xw (s.le + -s.su))
theorem Qn {seen:List BA} {l:List BA} {j:Nat} {seen':List BA} (h:Xq seen (l.take j) = some seen'):Xq seen l = Xq seen' (l.drop j):=by
 induction l generalizing seen j with
 | nil=>simp [Xq] at h ⊢;rw [h]
 | cons v l ih=>
  cases j with
  | zero=>simp [Xq] at h;rw [h];rfl
  | succ j=>
   simp only [List.take_succ_cons,List.drop_succ_cons] at h ⊢;have e:∀ r,Xq seen (v :: r) = if Za v = true /\ v ∉ seen then Xq (seen ++ [v]) r else none:=fun _=>rfl;rw [e] at h ⊢;by_cases hc:Za v = true /\ v ∉ seen
   ·rw [if_pos hc] at h ⊢;exact ih h
   ·rw [if_neg hc] at h;cases h
theorem ZaL {names:List BA} {s:PSl}:ZbF names s = true ↔ Za s.nm = true /\ s.nm ∉ names /\ s.nm ≠ Ze0 /\ s.nm ≠ noB /\ 1 <= s.vs.length /\ s.vs.length <= 50 /\ Ze s.le = true /\ Ze s.su = true /\ ¬ 0 < Xw (s.le + -s.su):=by
 unfold ZbF;simp only [Bool.and_eq_true,decide_eq_true_eq];constructor
 ·rintro ⟨⟨⟨⟨⟨⟨⟨⟨h1,h2⟩,h3⟩,h4⟩,h5⟩,h6⟩,h7⟩,h8⟩,h9⟩;exact ⟨h1,h2,h3,h4,h5,h6,h7,h8,h9⟩
 ·rintro ⟨h1,h2,h3,h4,h5,h6,h7,h8,h9⟩;exact ⟨⟨⟨⟨⟨⟨⟨⟨h1,h2⟩,h3⟩,h4⟩,h5⟩,h6⟩,h7⟩,h8⟩,h9⟩
theorem Xs {names:List BA} {s:PSl} (h:¬ (Za s.nm = true /\ s.nm ∉ names /\ s.nm ≠ Ze0 /\ s.nm ≠ noB /\ 1 <= s.vs.length /\ s.vs.length <= 50 /\ Ze s.le = true /\ Ze s.su = true /\ ¬ 0 < Xw (s.le + -s.su))):ZbF names s = false:=Bool.eq_false_iff.2 fun h2=>h (ZaL.1 h2)
theorem Zbw {seen:List BA} {l:List BA} {j:Nat} {seen':List BA} (h:Xq seen (l.take j) = some seen') (hj:j < l.length):Xq seen (l.take (j + 1)) = if Za l[j] = true /\ l[j] ∉ seen' then some (seen' ++ [l[j]]) else none:=by
 have h1:=Qn (l:=l.take (j + 1)) (j:=j) (by rw [List.take_take,Nat.min_eq_left (by omega)];exact h);rw [h1,List.drop_take,show j + 1 - j = 1 by omega,List.drop_eq_getElem_cons hj];rfl
theorem ZcO {seen:List BA} {l:List BA} {j:Nat} {seen':List BA} (h:Xq seen (l.take j) = some seen') (hj:j < l.length) (hb:¬ (Za l[j] = true /\ l[j] ∉ seen')):Xq seen l = none:=by
 rw [Qn h,List.drop_eq_getElem_cons hj];show (if _ then _ else none) = none;rw [if_neg hb]
def Zd (names values:List BA):List PSl -> Bool
 | []=>true
 | s :: l=>ZbF names s && (match Xq values s.vs with | none=>false | some v=>Zd (names ++ [s.nm]) v l)
def Zr (n:Nat) (pat prm need:Int):Prop:=1 <= n /\ n <= 20 /\ 0 <= pat /\ pat <= 100 /\ 0 <= prm /\ prm <= 10000 /\ 0 <= need /\ need <= prm
instance (n:Nat) (pat prm need:Int):Decidable (Zr n pat prm need):=by unfold Zr;infer_instance
def ZbP (pat prm need:Int) (S:List PSl):Bool:=decide (Zr S.length pat prm need) && Zd [] [Ze0,noB] S
theorem ZL (names values:List BA) (s:PSl) (l:List PSl):Zd names values (s :: l) = (ZbF names s && (match Xq values s.vs with | none=>false | some v=>Zd (names ++ [s.nm]) v l)):=rfl
theorem J8 {names values:List BA} {s:PSl} {l:List PSl} (h:ZbF names s = false):Zd names values (s :: l) = false:=by rw [ZL,h];rfl
theorem UB {names values:List BA} {s:PSl} {l:List PSl} (h:Xq values s.vs = none):Zd names values (s :: l) = false:=by rw [ZL,h];simp
theorem ZbO {names values v:List BA} {s:PSl} {l:List PSl} (h:ZbF names s = true) (hv:Xq values s.vs = some v):Zd names values (s :: l) = Zd (names ++ [s.nm]) v l:=by rw [ZL,h,hv];rfl
def setM (l:List BA):List (BA × Bool):=l.map fun x=>(x,true)
end Ear
namespace Go
open Go.ChangeMaps (setBlock heap_setBlock_same heap_setBlock_other)
open Go.Maps (Keyed)
open Go.RowKit
set_option linter.unusedSectionVars false

def J3 {κ ν : Type} [DecidableEq κ]:List (κ × ν) -> κ -> Option ν
 | [],_=>none
 | p :: m,k=>if p.1 = k then some p.2 else J3 m k
def YW {κ ν : Type} [DecidableEq κ]:List (κ × ν) -> κ -> ν -> List (κ × ν)
 | [],k,v=>[(k,v)]
 | p :: m,k,v=>if p.1 = k then (k,v) :: m else p :: YW m k v
section
variable {κ ν : Type} [DecidableEq κ]
theorem Ui {m:List (κ × ν)} {k : κ} {v : ν} (h:J3 m k = some v):(k,v) ∈ m:=by
 induction m with
 | nil=>simp [J3] at h
 | cons p m ih=>
  unfold J3 at h;split at h
  ·rename_i e;simp at h;subst h;subst e;exact List.mem_cons_self ..
  ·exact List.mem_cons_of_mem _ (ih h)
theorem Zg {m:List (κ × ν)} {k : κ}:J3 m k = none ↔ ∀ p ∈ m,p.1 ≠ k:=by
 induction m with
 | nil=>simp [J3]
 | cons p m ih=>
  unfold J3;split
  ·rename_i e;simp [e]
  ·rename_i e;rw [ih];simp [e]
theorem Va (m:List (κ × ν)) (k : κ) (v : ν):J3 (YW m k v) k = some v:=by
 induction m with
 | nil=>simp [YW,J3]
 | cons p m ih=>
  unfold YW;split
  ·simp [J3]
  ·rename_i e;simp [J3,e,ih]
theorem Qc (m:List (κ × ν)) {k k' : κ} (v : ν) (hne:k' ≠ k):J3 (YW m k v) k' = J3 m k':=by
 induction m with
 | nil=>simp [YW,J3,Ne.symm hne]
 | cons p m ih=>
  unfold YW;split
  ·rename_i e;simp [J3,e,Ne.symm hne]
  ·simp only [J3,ih]
theorem ZD (m:List (κ × ν)) (k : κ) (v : ν):(YW m k v).length <= m.length + 1:=by
 induction m with
 | nil=>simp [YW]
 | cons p m ih=>unfold YW;split <;> simp;omega
theorem Zt {m:List (κ × ν)} {k : κ} {v : ν} {p : κ × ν} (h:p ∈ YW m k v):p = (k,v) ∨ p ∈ m:=by
 induction m with
 | nil=>simp [YW] at h;exact .inl h
 | cons q m ih=>
  unfold YW at h;split at h
  ·rcases List.mem_cons.1 h with h | h
   ·exact .inl h
   ·exact .inr (List.mem_cons_of_mem _ h)
  ·rcases List.mem_cons.1 h with h | h
   ·exact .inr (h ▸ List.mem_cons_self ..)
   ·rcases ih h with h | h
    ·exact .inl h
    ·exact .inr (List.mem_cons_of_mem _ h)
theorem Zcl {m:List (κ × ν)} {k : κ} (v : ν) (h:J3 m k = none):YW m k v = m ++ [(k,v)]:=by
 induction m with
 | nil=>rfl
 | cons p m ih=>
  unfold J3 at h;split at h
  ·cases h
  ·rename_i e;simp [YW,e,ih h]
theorem ZdY {m:List (κ × ν)} {k : κ} (v : ν):(YW m k v).map (·.1) = if (J3 m k).isSome then m.map (·.1) else m.map (·.1) ++ [k]:=by
 induction m with
 | nil=>rfl
 | cons p m ih=>
  unfold YW J3;split
  ·rename_i e;simp [e]
  ·simp only [List.map_cons,ih];split <;> rfl
theorem Zac {m:List (κ × ν)} {j:Nat} {k : κ} {x : ν} (v : ν) (hn:(m.map (·.1)).Nodup) (h:m[j]? = some (k,x)):YW m k v = m.set j (k,v) /\ J3 m k = some x:=by
 induction m generalizing j with
 | nil=>simp at h
 | cons p m ih=>
  cases j with
  | zero=>simp at h;subst h;simp [YW,J3]
  | succ j=>
   simp only [List.map_cons,List.nodup_cons] at hn;simp only [List.getElem?_cons_succ] at h;have hne:p.1 ≠ k:=fun e=>hn.1 (List.mem_map.2 ⟨(k,x),List.mem_of_getElem? h,e.symm⟩);obtain ⟨h1,h2⟩:=ih hn.2 h;simp [YW,J3,hne,h1,h2]
end
section
variable {κ ν : Type} [DecidableEq κ] {P:Program} {K:TypeId} {ek : κ -> Value} {ev : ν -> Value} {w:World} {b:Nat} {m:List (κ × ν)}

structure MapIs (P:Program) (K:TypeId) (ek : κ -> Value) (ev : ν -> Value) (w:World) (b:Nat) (m:List (κ × ν)):Prop where
 block:∃ es clock,w.heap[b]? = some (.map es clock) /\ MapKept.Stamped es clock /\ es.toList.map (fun e=>(e.key,e.val)) = m.map (fun p=>(ek p.1,ev p.2))
 keys:∀ p ∈ m,∃ l,keyOf P K (ek p.1) = some l
def Inj (ek : κ -> Value):Prop:=∀ a b,ek a = ek b -> a = b
theorem MapIs.lt (h:MapIs P K ek ev w b m):b < w.heap.size:=by
 obtain ⟨es,c,hb,_⟩:=h.block;exact (Array.getElem?_eq_some_iff.1 hb).1
theorem MapIs.same {w':World} (h:MapIs P K ek ev w b m) (hb:w'.heap[b]? = w.heap[b]?):MapIs P K ek ev w' b m:=by
 obtain ⟨es,c,h1,h2⟩:=h.block;exact ⟨⟨es,c,hb.trans h1,h2⟩,h.keys⟩
theorem MapIs.below {w':World} (h:MapIs P K ek ev w b m) (hb:Below w.heap.size w w'):MapIs P K ek ev w' b m:=h.same (hb.block b h.lt)
theorem MapIs.grown {w':World} {row:Option Nat} (h:MapIs P K ek ev w b m) (hg:w.grownBy w' row) (hne:row ≠ some b):MapIs P K ek ev w' b m:=h.same (hg.block b h.lt (fun e=>hne e.symm))
theorem MapIs.made (P:Program) (K:TypeId) (ek : κ -> Value) (ev : ν -> Value) (w:World):MapIs P K ek ev (w.alloc (.map #[] 0)) w.heap.size []:=
 ⟨⟨#[],0,(MapKept.heap_alloc w _).1,MapKept.stamped_empty 0,rfl⟩,by simp⟩
theorem Yj {es:Array MapEntry} (hm:es.toList.map (fun e=>(e.key,e.val)) = m.map (fun p=>(ek p.1,ev p.2))) {j:Nat} {e0:MapEntry} (h:es.toList[j]? = some e0):∃ p,m[j]? = some p /\ e0.key = ek p.1 /\ e0.val = ev p.2:=by
 have:=congrArg (fun l=>l[j]?) hm;simp only [List.getElem?_map,h,Option.map_some] at this;cases hp:m[j]? with
 | none=>rw [hp] at this;simp at this
 | some p=>rw [hp] at this;simp at this;exact ⟨p,rfl,this.1,this.2⟩
theorem MapIs.nodup (h:MapIs P K ek ev w b m):(m.map (·.1)).Nodup:=by
 obtain ⟨es,c,h1,h2,h3⟩:=h.block;have hk:es.toList.map (·.key) = m.map (fun p=>ek p.1):=by
  have:=congrArg (List.map Prod.fst) h3;simpa [List.map_map,Function.comp_def] using this
 have hn:=h2.2.2;rw [hk] at hn;rw [List.Nodup,List.pairwise_map] at hn ⊢;exact hn.imp fun hne e=>hne (by rw [e])
theorem MapIs.size (h:MapIs P K ek ev w b m):∃ es clock,w.heap[b]? = some (.map es clock) /\ es.size = m.length:=by
 obtain ⟨es,c,h1,h2,h3⟩:=h.block;refine ⟨es,c,h1,?_⟩;have:=congrArg List.length h3;simpa using this
theorem Zi (hk:∀ p ∈ m,∃ l,keyOf P K (ek p.1) = some l) {es:Array MapEntry} (hm:es.toList.map (fun e=>(e.key,e.val)) = m.map (fun p=>(ek p.1,ev p.2))):∀ e ∈ es.toList,∃ l,keyOf P K e.key = some l:=fun e he=>by
 obtain ⟨j,hj⟩:=List.mem_iff_getElem?.1 he;obtain ⟨p,hp,h1,_⟩:=Yj hm hj;rw [h1];exact hk p (List.mem_of_getElem? hp)
theorem MapIs.lookup {t e:TypeId} (h:MapIs P K ek ev w b m) (KY:Keyed P K) (inj:Inj ek) (ht:P.underlying t = some (.map K e)) {z:Value} (hz:(zeroValue e).run P w = .ok z w) (key : κ) {l:Lit} (hk:keyOf P K (ek key) = some l) :
  (Instr.lookup t (.map (some b)) (ek key) false).run P w = .ok (((J3 m key).map ev).getD z) w:=by
 obtain ⟨es,c,h1,h2,h3⟩:=h.block;rcases KY.find w hk es.toList (Zi h.keys h3) with ⟨f1,f2⟩ | ⟨j,e0,f1,f2,f3⟩
 ·have hn:J3 m key = none:=Zg.2 fun p hp e=>by
   obtain ⟨j,hj⟩:=List.mem_iff_getElem?.1 hp;have:=congrArg (fun l=>l[j]?) h3;simp only [List.getElem?_map,hj,Option.map_some] at this;cases he:es.toList[j]? with
   | none=>rw [he] at this;simp at this
   | some x=>rw [he] at this;simp at this;exact f2 x (List.mem_of_getElem? he) (by rw [this.1,e])
  rw [hn];simp [Instr.lookup,run_underlying ht,MapKept.run_getObj_map h1,KY.check w _ hk,f1,hz,Result.andThen]
 ·obtain ⟨p,hp,q1,q2⟩:=Yj h3 f2;have ep:p.1 = key:=inj _ _ (q1.symm.trans f3);have hg:=(Zac p.2 h.nodup (show m[j]? = some (key,p.2) by rw [hp,<- ep])).2;rw [hg];simp [Instr.lookup,run_underlying ht,MapKept.run_getObj_map h1,KY.check w _ hk,f1,q2,Result.andThen]
theorem Zaa {es:Array MapEntry} {key : κ} {val : ν} {clock:Nat} (hm:es.toList.map (fun e=>(e.key,e.val)) = m.map (fun p=>(ek p.1,ev p.2))) (hn:J3 m key = none) :
  (es.push ⟨ek key,ev val,clock⟩).toList.map (fun e=>(e.key,e.val)) = (YW m key val).map (fun p=>(ek p.1,ev p.2)):=by
 rw [Zcl val hn];simp [hm]
theorem Qu {es:Array MapEntry} {key : κ} {val : ν} {j:Nat} {e0:MapEntry} {x : ν} (hm:es.toList.map (fun e=>(e.key,e.val)) = m.map (fun p=>(ek p.1,ev p.2))) (hj:es.toList[j]? = some e0) (hp:m[j]? = some (key,x)) (hnd:(m.map (·.1)).Nodup) (f:MapEntry -> MapEntry) (hf1:(f e0).key = ek key) (hf2:(f e0).val = ev val) :
  (es.modify j f).toList.map (fun e=>(e.key,e.val)) = (YW m key val).map (fun p=>(ek p.1,ev p.2)):=by
 rw [(Zac val hnd hp).1,Array.toList_modify,ChangeMaps.modify_eq_set _ _ _ _ hj,List.map_set,List.map_set,hm,hf1,hf2]
theorem Ve {key : κ} {val : ν} (hk:∀ p ∈ m,∃ l,keyOf P K (ek p.1) = some l) {l:Lit} (hkey:keyOf P K (ek key) = some l):∀ p ∈ YW m key val,∃ l,keyOf P K (ek p.1) = some l:=fun p hp=>by
 rcases Zt hp with rfl | h
 ·exact ⟨l,hkey⟩
 ·exact hk p h
theorem JW {es es':Array MapEntry} {c c':Nat} (hb:w.heap[b]? = some (.map es c)):w.grownBy (setBlock w b (.map es' c')) (some b):=
 ⟨rfl,rfl,rfl,by simp [setBlock],fun i _ hi=>heap_setBlock_other hb _ (fun e=>hi (by rw [e]))⟩
theorem MapIs.update {t e:TypeId} (h:MapIs P K ek ev w b m) (KY:Keyed P K) (inj:Inj ek) (ht:P.underlying t = some (.map K e)) (key : κ) (val : ν) {l:Lit} (hk:keyOf P K (ek key) = some l) :
  ∃ w',(Instr.mapUpdate t (.map (some b)) (ek key) (ev val)).run P w = .ok () w' /\ MapIs P K ek ev w' b (YW m key val) /\ w.grownBy w' (some b):=by
 obtain ⟨es,c,h1,h2,h3⟩:=h.block;rcases KY.find w hk es.toList (Zi h.keys h3) with ⟨f1,f2⟩ | ⟨j,e0,f1,f2,f3⟩
 ·have hn:J3 m key = none:=Zg.2 fun p hp e=>by
   obtain ⟨j,hj⟩:=List.mem_iff_getElem?.1 hp;have:=congrArg (fun l=>l[j]?) h3;simp only [List.getElem?_map,hj,Option.map_some] at this;cases he:es.toList[j]? with
   | none=>rw [he] at this;simp at this
   | some x=>rw [he] at this;simp at this;exact f2 x (List.mem_of_getElem? he) (by rw [this.1,e])
  refine ⟨setBlock w b (.map (es.push ⟨ek key,ev val,c⟩) (c + 1)),by simp [Instr.mapUpdate,run_underlying ht,MapKept.run_getObj_map h1,KY.check w false hk,f1,MapKept.run_setObj_map _ h1,Result.andThen,setBlock],⟨⟨_,_,heap_setBlock_same h1 _,MapKept.stamped_push h2 f2,Zaa h3 hn⟩,Ve h.keys hk⟩,JW h1⟩
 ·obtain ⟨p,hp,q1,q2⟩:=Yj h3 f2;have ep:p.1 = key:=inj _ _ (q1.symm.trans f3);have hp':m[j]? = some (key,p.2):=by rw [hp,<- ep]
  have hj:es[j]? = some e0:=by simpa using f2
  refine ⟨setBlock w b (.map (es.modify j fun e=>{ e with key:=ek key,val:=ev val }) c),by simp [Instr.mapUpdate,run_underlying ht,MapKept.run_getObj_map h1,KY.check w false hk,f1,hj,f3,KY.stays w hk,MapKept.run_setObj_map _ h1,Result.andThen,setBlock],⟨⟨_,_,heap_setBlock_same h1 _,MapKept.stamped_modify h2 j _ (fun _ _=>rfl) (fun x _ hx=>by rw [hj] at hx;cases hx;exact f3.symm),Qu h3 f2 hp' h.nodup _ rfl rfl⟩,Ve h.keys hk⟩,JW h1⟩
end
end Go
namespace Go
open Go.ChangeMaps (setBlock heap_setBlock_same heap_setBlock_other)
open Go.Maps (Keyed)
open Go.RowKit
set_option linter.unusedSectionVars false
section
variable {κ ν : Type} [DecidableEq κ] {P:Program} {K:TypeId} {ek : κ -> Value} {ev : ν -> Value} {w:World} {b r:Nat} {m:List (κ × ν)} {idx:List Nat}

structure MapIt (P:Program) (K:TypeId) (ek : κ -> Value) (ev : ν -> Value) (w:World) (b r:Nat) (m:List (κ × ν)) (idx:List Nat):Prop where
 st:∃ es clock since seen c0,w.heap[b]? = some (.map es clock) /\ MapKept.Stamped es clock /\ es.toList.map (fun e=>(e.key,e.val)) = m.map (fun p=>(ek p.1,ev p.2)) /\
  w.heap[r]? = some (.mapIter (some b) since seen c0) /\ (∀ x ∈ es.toList,x.born < since) /\ since <= c0 /\ since <= clock /\ seen.toList.map some = idx.map (fun i=>es.toList[i]?.map (·.born))
 nodup:idx.Nodup
 lt:∀ i ∈ idx,i < m.length
 keys:∀ p ∈ m,∃ l,keyOf P K (ek p.1) = some l
def Za1 (w:World) (b r:Nat):Nat:=match w.heap[b]?,w.heap[r]? with
 | some (.map es _),some (.mapIter _ _ seen _)=>es.size - seen.size
 | _,_=>0
def ZfQ {α:Type} (m:List α) (d : α) (idx:List Nat):List α:=idx.map fun i=>m[i]?.getD d
theorem MapIt.left_eq (h:MapIt P K ek ev w b r m idx):Za1 w b r = m.length - idx.length:=by
 obtain ⟨es,c,s,seen,c0,h1,h2,h3,h4,h5,h6,hc,h7⟩:=h.st;unfold Za1;rw [h1,h4];have e1:=congrArg List.length h3;have e2:=congrArg List.length h7;simp at e1 e2;simp only;omega
theorem UG:∀ (n:Nat) (l:List Nat),l.Nodup -> (∀ i ∈ l,i < n) -> l.length <= n
 | 0,l,_,h=>by
  cases l with
  | nil=>simp
  | cons x l=>exact absurd (h x (List.mem_cons_self ..)) (Nat.not_lt_zero _)
 | n + 1,l,hn,h=>by
  by_cases hm:n ∈ l
  ·have h1:=UG n (l.erase n) (hn.erase n) (fun i hi=>by
    have h2:=h i (List.mem_of_mem_erase hi);have h3:i ≠ n:=fun e=>by subst e;exact (List.Nodup.not_mem_erase hn) hi
    omega)
   rw [List.length_erase_of_mem hm] at h1;omega
  ·have h1:=UG n l hn (fun i hi=>by
    have h2:=h i hi;have h3:i ≠ n:=fun e=>hm (e ▸ hi);omega)
   omega
theorem MapIt.len_le (h:MapIt P K ek ev w b r m idx):idx.length <= m.length:=UG _ _ h.nodup h.lt
theorem MapIt.same {w':World} (h:MapIt P K ek ev w b r m idx) (hb:w'.heap[b]? = w.heap[b]?) (hr:w'.heap[r]? = w.heap[r]?):MapIt P K ek ev w' b r m idx:=by
 obtain ⟨es,c,s,seen,c0,h1,h2,h3,h4,h5⟩:=h.st;exact ⟨⟨es,c,s,seen,c0,hb.trans h1,h2,h3,hr.trans h4,h5⟩,h.nodup,h.lt,h.keys⟩
theorem MapIs.range {t e:TypeId} (h:MapIs P K ek ev w b m) (ht:P.underlying t = some (.map K e)) :
  ∃ o,(Instr.range t (.map (some b))).run P w = .ok (.pointer (some ⟨w.heap.size,0,none⟩)) (w.alloc o) /\ MapIt P K ek ev (w.alloc o) b w.heap.size m []:=by
 obtain ⟨es,c,h1,h2,h3⟩:=h.block;have hlt:=h.lt;refine ⟨_,run_range_map w t K e b es c ht h1,⟨es,c,c,#[],c,?_,h2,h3,?_,h2.1,Nat.le_refl _,Nat.le_refl _,rfl⟩,by simp,by simp,h.keys⟩
 ·rw [(MapKept.heap_alloc w _).2 b hlt];exact h1
 ·exact (MapKept.heap_alloc w _).1
theorem ZfL {n:Nat} {idx:List Nat} (hn:idx.Nodup) (hl:∀ i ∈ idx,i < n) (ha:∀ i,i < n -> i ∈ idx):idx.Perm (List.range n):=by
 rw [List.perm_ext_iff_of_nodup hn List.nodup_range];exact fun i=>⟨fun h=>List.mem_range.2 (hl i h),fun h=>ha i (List.mem_range.1 h)⟩
theorem Zen {α:Type} {m:List α} {d : α} {idx:List Nat} (h:idx.Perm (List.range m.length)):(ZfQ m d idx).Perm m:=by
 refine (h.map _).trans ?_;have e:(List.range m.length).map (fun i=>m[i]?.getD d) = m:=by
  apply List.ext_getElem (by simp);intro i h1 h2;simp [List.getElem?_eq_getElem h2]
 rw [e]
theorem MapIt.next (h:MapIt P K ek ev w b r m idx) (d : κ × ν) (ty:TypeId) :
  ((ZfQ m d idx).Perm m /\ (Instr.next (.pointer (some ⟨r,0,none⟩)) false ty).run P w = .ok (.tuple #[.bool false]) w) ∨
  ∃ i w',i < m.length /\ i ∉ idx /\ (Instr.next (.pointer (some ⟨r,0,none⟩)) false ty).run P w = .ok (.tuple #[.bool true,ek (m[i]?.getD d).1,ev (m[i]?.getD d).2]) w' /\ MapIt P K ek ev w' b r m (idx ++ [i]) /\
   (Instr.entry (.pointer (some ⟨r,0,none⟩))).run P w' = .ok (.tuple #[ek (m[i]?.getD d).1,ev (m[i]?.getD d).2]) w' /\ w.grownBy w' (some r) /\ w'.heap.size = w.heap.size:=by
 obtain ⟨es,c,s,seen,c0,h1,h2,h3,h4,h5,h6,hc,h7⟩:=h.st;have hsz:es.toList.length = m.length:=by have:=congrArg List.length h3;simpa using this
 have hseen:∀ x,x ∈ seen.toList -> ∃ i ∈ idx,es.toList[i]?.map (·.born) = some x:=fun x hx=>by
  have:some x ∈ idx.map (fun i=>es.toList[i]?.map (·.born)):=by rw [<- h7];exact List.mem_map_of_mem hx
  obtain ⟨i,hi,e⟩:=List.mem_map.1 this;exact ⟨i,hi,e⟩
 have hnb:∀ (i j:Nat) (x:Nat),es.toList[i]?.map (fun e:MapEntry=>e.born) = some x -> es.toList[j]?.map (fun e:MapEntry=>e.born) = some x -> i = j:=fun i j x hi hj=>by
  have hn:=h2.2.1;rw [<- List.getElem?_map] at hi hj;obtain ⟨l1,e1⟩:=List.getElem?_eq_some_iff.1 hi;obtain ⟨l2,e2⟩:=List.getElem?_eq_some_iff.1 hj;rw [List.Nodup,List.pairwise_iff_getElem] at hn;rcases Nat.lt_trichotomy i j with h | h | h
  ·exact absurd (e1.trans e2.symm) (hn i j l1 l2 h)
  ·exact h
  ·exact absurd (e2.trans e1.symm) (hn j i l2 l1 h)
 have hbr:b ≠ r:=fun e=>by rw [e,h4] at h1;cases h1
 rcases run_next_at w ty r b s c0 seen es c h4 h1 h5 h6 with ⟨f1,f2⟩ | ⟨e0,f1,w1,f2,f3⟩
 ·refine .inl ⟨Zen (ZfL h.nodup h.lt fun i hi=>?_),f2⟩;have hi':i < es.toList.length:=by omega
  have hin:seen.contains es.toList[i].born = true:=by
   apply Decidable.byContradiction;intro hne;have hm:es.toList[i] ∈ (leftOf es seen).toList:=by
    unfold leftOf;rw [Array.toList_filter,List.mem_filter];exact ⟨List.getElem_mem hi',by simpa using hne⟩
   have:(leftOf es seen).toList = []:=by
    apply List.eq_nil_of_length_eq_zero;simpa using f1
   rw [this] at hm;cases hm
  have hmem:es.toList[i].born ∈ seen.toList:=by
   simpa using hin
  obtain ⟨j,hj,ej⟩:=hseen _ hmem;have:=hnb i j _ (by rw [List.getElem?_eq_getElem hi'];rfl) ej;rw [this];exact hj
 ·unfold leftOf at f1;rw [Array.toList_filter,List.mem_filter] at f1;obtain ⟨g1,g2⟩:=f1;obtain ⟨i,hi⟩:=List.mem_iff_getElem?.1 g1;obtain ⟨p,hp,q1,q2⟩:=Yj h3 hi;have hlt:i < m.length:=(List.getElem?_eq_some_iff.1 hp).1;have hr1:w1.heap[r]? = some (.mapIter (some b) s seen c0):=by rcases f2 with rfl | rfl <;> exact h4
  have hb1:w1.heap[b]? = some (.map es c):=by rcases f2 with rfl | rfl <;> exact h1
  have hni:i ∉ idx:=fun hin=>by
   have:some e0.born ∈ seen.toList.map some:=(by rw [h7];exact List.mem_map.2 ⟨i,hin,by rw [hi];rfl⟩);obtain ⟨x,hx,e⟩:=List.mem_map.1 this;cases e;have hc:seen.contains e0.born = true:=(by simpa using hx);rw [hc] at g2;simp at g2
  have hrs:r < w1.heap.size:=(Array.getElem?_eq_some_iff.1 hr1).1;have hr2:(setBlock w1 r (.mapIter (some b) s (seen.push e0.born) c)).heap[r]? = some (.mapIter (some b) s (seen.push e0.born) c):=by simp [setBlock,hrs]
  have hb2:(setBlock w1 r (.mapIter (some b) s (seen.push e0.born) c)).heap[b]? = some (.map es c):=by
   have:(setBlock w1 r (.mapIter (some b) s (seen.push e0.born) c)).heap[b]? = w1.heap[b]?:=(by simp [setBlock,Ne.symm hbr]);rw [this];exact hb1
  have hgb:w.grownBy (setBlock w1 r (.mapIter (some b) s (seen.push e0.born) c)) (some r):=by
   rcases f2 with rfl | rfl
   ·exact ⟨rfl,rfl,rfl,by simp [setBlock],fun k _ hk=>by have:k ≠ r:=fun e=>hk (by rw [e]);simp [setBlock,Ne.symm this]⟩
   ·exact ⟨rfl,rfl,rfl,by simp [setBlock],fun k _ hk=>by have:k ≠ r:=fun e=>hk (by rw [e]);simp [setBlock,Ne.symm this];rfl⟩
  have hsw:(setBlock w1 r (.mapIter (some b) s (seen.push e0.born) c)).heap.size = w.heap.size:=by rcases f2 with rfl | rfl <;> simp [setBlock]
  refine .inr ⟨i,_,hlt,hni,?_,⟨⟨es,c,s,seen.push e0.born,c,hb2,h2,h3,hr2,h5,hc,hc,?_⟩,?_,?_,h.keys⟩,?_,hgb,hsw⟩
  ·rw [f3,hp,q1,q2];rfl
  ·rw [Array.toList_push,List.map_append,List.map_append,h7];refine congrArg _ ?_;show [some e0.born] = [Option.map (fun e:MapEntry=>e.born) es.toList[i]?];rw [hi];rfl
  ·exact List.nodup_append.2 ⟨h.nodup,by simp,fun a ha c hc=>by rw [List.mem_singleton] at hc;subst hc;exact fun e=>hni (e ▸ ha)⟩
  ·intro j hj;rcases List.mem_append.1 hj with hj | hj
   ·exact h.lt j hj
   ·rw [List.mem_singleton] at hj;subst hj;exact hlt
  ·have:=run_entry_at (P:=P) _ r b s seen es c e0 hr2 hb2 g1 h2.2.1;rw [this,hp,q1,q2];rfl
end
end Go
