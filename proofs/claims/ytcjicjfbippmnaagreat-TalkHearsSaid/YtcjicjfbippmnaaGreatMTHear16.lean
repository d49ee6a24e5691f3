/- TalkHears -/
import Derived.Test.YtcjicjfbippmnaaGreatMTHear15
import Derived.WideKeyEntry
set_option maxRecDepth 100000
set_option maxHeartbeats 32000000
namespace Go.Proofs.YtcjicjfbippmnaaGreat
open Go.RowKit Ear

def Xp (q:Rat):Bool:=decide (0 <= XH q) && decide (XH (q + -((1:Int):Rat)) <= 0)
theorem Xa (x:Fr) (q:Rat) (w:World) (hx:Fv w x q) (fx:Few x 90000) (r:Bool) (hr:Hid (Xp q = r)):Calls Tryz.prog 85 #[x.val] w (Qp r w):=by
 obtain ⟨W0,hW0⟩:∃ W0:World,W0 = w.alloc (.cells #[.bool x.neg,.slice x.A x.N.length x.c,.slice x.B x.D.length x.d] 28):=⟨_,rfl⟩;have HB0:Hid (Below w.heap.size w W0):=zH (by rw [hW0];exact bR.alloc nR _);have HX0:Hid (Fb W0 w.heap.size x):=zH (by rw [hW0];exact Fb.new w x);have HV0:=zH (hx.below HB0.out);obtain ⟨c0,c1,c2,-,-,-⟩:=HX0.out.facts;obtain ⟨R,hR⟩:∃ R,R = XH q:=⟨_,rfl⟩;obtain ⟨R2,hR2⟩:∃ R2,R2 = XH (q + -((1:Int):Rat)):=⟨_,rfl⟩;have HR:=zH hR.symm;have HR2:=zH hR2.symm;have hrr:r = (decide (0 <= R) && decide (R2 <= 0)):=by rw [<- hr.out,hR,hR2];rfl
 have HRR:=zH hrr;clear hx hR hR2 hrr hr;by_cases h0 : 0 <= R
 ·go_enter Tryz.func85,Tryz.ntmps85;go_wp2_with fail;rw [<- hW0];clear hW0;have g0:decide (0 <= R) = true:=Wi h0;refine Jd (S:=fun w'=>w'.cell? ⟨w.heap.size,0,none⟩ = some (.bool x.neg) /\ w'.cell? ⟨w.heap.size,1,none⟩ = some (.slice x.A x.N.length x.c) /\ w'.cell? ⟨w.heap.size,2,none⟩ = some (.slice x.B x.D.length x.d) /\ Hid (Fb w' w.heap.size x) /\ Hid (Below w.heap.size w w') /\ Hid (Fv w' x q)) 10 rfl (by kernel_rfl) ⟨c0,c1,c2,zH HX0.out,zH HB0.out.drew,zH (HV0.out.below bR.drew)⟩ (fun hd=>?_)
  ((refine Ja (v:=?_) rfl (by kernel_rfl) (fun _ _ _ h=>h) ⟨by rfl,?_⟩ hd ?_;rotate_left;· intro w' sw;obtain ⟨hS1,hS2,hS3,-,-,-⟩:=sw;go_simp;try with_reducible rfl);simp only [zA,zB,zC])
  refine Je 1 rfl (by kernel_rfl) rfl (fun K hK=>?_);go_simp;refine (UP x q _ hd.2.2.2.2.2.out (by exact ⟨tR fx.n (by decide),tR fx.d (by decide)⟩) R HR).mono ?_;rintro e u1 ⟨rfl,hb1⟩;go_simp;refine hK _ _ (by have h9:=hd.2.2.2.1.out.below hb1;have h8:=h9.facts;exact ⟨h8.1,h8.2.1,h8.2.2.1,zH h9,zH (hd.2.2.2.2.1.out.trans (hb1.mono hd.2.2.2.2.1.out.size)),zH (hd.2.2.2.2.2.out.below hb1)⟩) (fun hd=>?_);clear hK K;iterate 3 (((refine Ja (v:=?_) rfl (by kernel_rfl) (fun _ _ _ h=>h) ⟨by rfl,?_⟩ hd ?_;rotate_left;· intro w' sw;obtain ⟨hS1,hS2,hS3,-,-,-⟩:=sw;go_simp;try with_reducible rfl);simp only [zA,zB,zC]))
  refine Jk 5 rfl (by kernel_rfl) (by rfl) (fun K hK=>?_);go_simp;refine (Zb8 1 _ (by omega) (by omega)).mono ?_;rintro e u2 ⟨y,rfl,hy,hb2⟩;have HY:=zH hy;go_simp;refine hK _ _ (by have h9:=hd.2.2.2.1.out.below hb2;have h8:=h9.facts;exact ⟨h8.1,h8.2.1,h8.2.2.1,zH h9,zH (hd.2.2.2.2.1.out.trans (hb2.mono hd.2.2.2.2.1.out.size)),zH (hd.2.2.2.2.2.out.below hb2)⟩) (fun hd=>?_);clear hK K;refine Jk 6 rfl (by kernel_rfl) (by rfl) (fun K hK=>?_);go_simp;refine (XU x y q ((1:Int):Rat) _ hd.2.2.2.2.2.out HY.out.fv fx (HY.out.few ((Sz.i64 (z:=1) (by omega) (by omega)).mono (by decide))) R2 HR2).mono ?_;rintro e u3 ⟨rfl,hb3⟩;go_simp;refine hK _ _ (by have h9:=hd.2.2.2.1.out.below hb3;have h8:=h9.facts;exact ⟨h8.1,h8.2.1,h8.2.2.1,zH h9,zH (hd.2.2.2.2.1.out.trans (hb3.mono hd.2.2.2.2.1.out.size)),zH (hd.2.2.2.2.2.out.below hb3)⟩) (fun hd=>?_);clear hK K;iterate 3 (((refine Ja (v:=?_) rfl (by kernel_rfl) (fun _ _ _ h=>h) ⟨by rfl,?_⟩ hd ?_;rotate_left;· intro w' sw;obtain ⟨hS1,hS2,hS3,-,-,-⟩:=sw;go_simp;try with_reducible rfl);simp only [zA,zB,zC]))
  refine WC (by kernel_rfl) ?_ _;go_wp2_with fail;go_ret;exact ⟨by rw [HRR.out,Wi h0];rfl,hd.2.2.2.2.1.out⟩
 ·have HN:=zH h0;have g0:decide (0 <= R) = false:=dF h0;go_enter Tryz.func85,Tryz.ntmps85;go_wp2_with fail;rw [<- hW0];clear hW0;refine Jd (S:=fun w'=>w'.cell? ⟨w.heap.size,0,none⟩ = some (.bool x.neg) /\ w'.cell? ⟨w.heap.size,1,none⟩ = some (.slice x.A x.N.length x.c) /\ w'.cell? ⟨w.heap.size,2,none⟩ = some (.slice x.B x.D.length x.d) /\ Hid (Fb w' w.heap.size x) /\ Hid (Below w.heap.size w w') /\ Hid (Fv w' x q)) 10 rfl (by kernel_rfl) ⟨c0,c1,c2,zH HX0.out,zH HB0.out.drew,zH (HV0.out.below bR.drew)⟩ (fun hd=>?_)
  ((refine Ja (v:=?_) rfl (by kernel_rfl) (fun _ _ _ h=>h) ⟨by rfl,?_⟩ hd ?_;rotate_left;· intro w' sw;obtain ⟨hS1,hS2,hS3,-,-,-⟩:=sw;go_simp;try with_reducible rfl);simp only [zA,zB,zC])
  refine Je 1 rfl (by kernel_rfl) rfl (fun K hK=>?_);go_simp;refine (UP x q _ hd.2.2.2.2.2.out (by exact ⟨tR fx.n (by decide),tR fx.d (by decide)⟩) R HR).mono ?_;rintro e u1 ⟨rfl,hb1⟩;go_simp;refine hK _ _ (by have h9:=hd.2.2.2.1.out.below hb1;have h8:=h9.facts;exact ⟨h8.1,h8.2.1,h8.2.2.1,zH h9,zH (hd.2.2.2.2.1.out.trans (hb1.mono hd.2.2.2.2.1.out.size)),zH (hd.2.2.2.2.2.out.below hb1)⟩) (fun hd=>?_);clear hK K;iterate 8 (first | ((refine Ja (v:=?_) rfl (by kernel_rfl) (fun _ _ _ h=>h) ⟨by rfl,?_⟩ hd ?_;rotate_left;· intro w' sw;obtain ⟨hS1,hS2,hS3,-,-,-⟩:=sw;go_simp;try with_reducible rfl);simp only [zA,zB,zC]) | (refine Jn rfl (by kernel_rfl) (fun _ _ _ h=>h) (by rfl) hd ?_;simp only [zA,zB,zC]))
  refine WC (by kernel_rfl) ?_ _;go_wp2_with fail;go_ret;exact ⟨by rw [HRR.out,dF (Int.not_le.2 HN.out)];rfl,hd.2.2.2.2.1.out⟩
end Go.Proofs.YtcjicjfbippmnaaGreat
namespace Ear
def Y2 (s:ByteArray) (k:Nat):Int:=(s.data[k]?.getD 0).toNat
def ZN (s:ByteArray) (k:Nat):Bool:=(List.range k).all fun i=>decide (33 <= Y2 s i) && decide (Y2 s i <= 126)
def Xd (s:ByteArray):Bool:=ZN s s.size && decide (1 <= s.size) && decide (s.size <= 40)
theorem UG (s:ByteArray) (k:Nat):ZN s (k + 1) = (ZN s k && (decide (33 <= Y2 s k) && decide (Y2 s k <= 126))):=by
 unfold ZN;rw [List.range_succ,List.all_append];simp
theorem Za3 {s:ByteArray} {k:Nat} (hk:k < s.size) (h:¬ (33 <= Y2 s k /\ Y2 s k <= 126)):Xd s = false:=by
 have h1:ZN s s.size = false:=by
  unfold ZN;rw [WeE];refine ⟨k,WT.2 hk,?_⟩;simp only [Bool.and_eq_true,decide_eq_true_eq];exact h
 unfold Xd;rw [h1];rfl
end Ear
namespace Go.Proofs.YtcjicjfbippmnaaGreat
open Go.RowKit Ear

theorem QV (s:ByteArray) {k:Nat} (hk:k < s.size) (W:World):(Instr.index 9 (.string s) (.int .i64 (k:Int))).run Tryz.prog W = .ok (.int .u8 (Y2 s k)) W:=by
 rw [run_index_string (P:=Tryz.prog) (h:=Tryz.underlying9),dif_pos ⟨by omega,by omega⟩];congr 2;unfold Y2;have:k < s.data.size:=hk;rw [Wt this];rfl
theorem ZbK (s:ByteArray) (k:Nat) : 0 <= Y2 s k /\ Y2 s k <= 255:=by
 unfold Y2;have:=(s.data[k]?.getD 0).toNat_lt;omega
theorem Zcv (s:ByteArray) (w:World) (hs:s.size <= 1000000) (r:Bool) (hr:Hid (Xd s = r)):Calls Tryz.prog 137 #[.string s] w fun e w'=>e = .returned (.bool r) /\ w' = w:=by
 go_enter Tryz.func137,Tryz.ntmps137;go_wp2_with fail;go_loopw [6] (fun i wr=>∃ k:Nat,k <= s.size /\ i = .int .i64 k /\ Hid (ZN s k = true) /\ wr = w) (fun i _=>s.size - (intOf i).toNat)
 case atStart=>exact ⟨0,by omega,rfl,zH rfl,rfl⟩
 case round=>
  obtain ⟨k,hk,rfl,HT,rfl⟩:=hrel;by_cases hlt:k < s.size
  ·have hix:=fun W=>QV s hlt W;have hbd:=ZbK s k;have HBAD:=zH (Za3 hlt);have HSC:=zH (UG s k);generalize Y2 s k = z at *
   have hlt':(k:Int) < (s.size:Int):=(by omega);by_cases h1:z < 33
   ·have HF:Hid (r = false):=zH (by rw [<- hr.out];exact HBAD.out (by omega));clear HBAD;go_wp2_with fail;go_ret;exact ⟨by rw [HF.out];rfl,rfl⟩
   ·by_cases h2 : 126 < z
    ·have HF:Hid (r = false):=zH (by rw [<- hr.out];exact HBAD.out (by omega));clear HBAD;go_wp2_with fail;go_ret;exact ⟨by rw [HF.out];rfl,rfl⟩
    ·have HN:Hid (ZN s (k + 1) = true):=zH (by rw [HSC.out,HT.out];simp;omega);clear HBAD HSC HT;go_wp2_with fail;exact ⟨⟨k + 1,by omega,by go_num,HN,trivial⟩,by simp [intOf];omega⟩
  ·have hkn:k = s.size:=by omega
   have hlt':¬ (k:Int) < (s.size:Int):=(by omega);have hrr:r = (decide (1 <= s.size) && decide (s.size <= 40)):=by
    rw [<- hr.out];unfold Xd;rw [<- hkn,HT.out];simp
   have HR:=zH hrr;clear hrr;by_cases h1 : 1 <= s.size
   ·by_cases h2:s.size <= 40
    ·have g1:(1:Int) <= (s.size:Int):=(by omega);have g2:(s.size:Int) <= 40:=(by omega);go_wp2_with fail;go_ret;exact ⟨by rw [HR.out];simp [h1,h2],rfl⟩
    ·have g1:(1:Int) <= (s.size:Int):=(by omega);have g2:¬ (s.size:Int) <= 40:=(by omega);go_wp2_with fail;go_ret;exact ⟨by rw [HR.out];simp [h1,h2],rfl⟩
   ·have g1:¬ (1:Int) <= (s.size:Int):=(by omega);go_wp2_with fail;go_ret;exact ⟨by rw [HR.out];simp [h1],rfl⟩
end Go.Proofs.YtcjicjfbippmnaaGreat
namespace Ear
open Go.Proofs.YtcjicjfbippmnaaGreat (Xp)
abbrev BA:=ByteArray
instance:DecidableEq BA:=fun a b=>decidable_of_iff (a.data = b.data) ⟨fun h=>by cases a;cases b;simp at h;rw [h],fun h=>by rw [h]⟩
instance (v:BA) (l:List BA):Decidable (v ∈ l):=@List.instDecidableMemOfLawfulBEq BA instBEqOfDecidableEq inferInstance v l
structure PSl where
 nm:BA
 vs:List BA
 le:Rat
 su:Rat
def Yy:BA:=⟨#[121,101,115]⟩
def noB:BA:=⟨#[110,111]⟩
def J0 (seen:List BA):List BA -> Option (List BA)
 | []=>some seen
 | v :: l=>if Xd v = true /\ v ∉ seen then J0 (seen ++ [v]) l else none
def Zbg (names:List BA) (s:PSl):Bool:=
 Xd s.nm && decide (s.nm ∉ names) && decide (s.nm ≠ Yy) && decide (s.nm ≠ noB) && decide (1 <= s.vs.length) && decide (s.vs.length <= 50) && Xp s.le && Xp s.su && decide (¬ 0 < XH (s.le + -s.su))
theorem QN {seen:List BA} {l:List BA} {j:Nat} {seen':List BA} (h:J0 seen (l.take j) = some seen'):J0 seen l = J0 seen' (l.drop j):=by
 induction l generalizing seen j with
 | nil=>simp [J0] at h ⊢;rw [h]
 | cons v l ih=>
  cases j with
  | zero=>simp [J0] at h;rw [h];rfl
  | succ j=>
   simp only [List.take_succ_cons,List.drop_succ_cons] at h ⊢;have e:∀ r,J0 seen (v :: r) = if Xd v = true /\ v ∉ seen then J0 (seen ++ [v]) r else none:=fun _=>rfl;rw [e] at h ⊢;by_cases hc:Xd v = true /\ v ∉ seen
   ·rw [WA hc] at h ⊢;exact ih h
   ·rw [Ww hc] at h;cases h
theorem Zo {names:List BA} {s:PSl}:Zbg names s = true ↔ Xd s.nm = true /\ s.nm ∉ names /\ s.nm ≠ Yy /\ s.nm ≠ noB /\ 1 <= s.vs.length /\ s.vs.length <= 50 /\ Xp s.le = true /\ Xp s.su = true /\ ¬ 0 < XH (s.le + -s.su):=by
 unfold Zbg;simp only [Bool.and_eq_true,decide_eq_true_eq];constructor
 ·rintro ⟨⟨⟨⟨⟨⟨⟨⟨h1,h2⟩,h3⟩,h4⟩,h5⟩,h6⟩,h7⟩,h8⟩,h9⟩;exact ⟨h1,h2,h3,h4,h5,h6,h7,h8,h9⟩
 ·rintro ⟨h1,h2,h3,h4,h5,h6,h7,h8,h9⟩;exact ⟨⟨⟨⟨⟨⟨⟨⟨h1,h2⟩,h3⟩,h4⟩,h5⟩,h6⟩,h7⟩,h8⟩,h9⟩
theorem J7 {names:List BA} {s:PSl} (h:¬ (Xd s.nm = true /\ s.nm ∉ names /\ s.nm ≠ Yy /\ s.nm ≠ noB /\ 1 <= s.vs.length /\ s.vs.length <= 50 /\ Xp s.le = true /\ Xp s.su = true /\ ¬ 0 < XH (s.le + -s.su))):Zbg names s = false:=WQ.2 fun h2=>h (Zo.1 h2)
theorem ZbX {seen:List BA} {l:List BA} {j:Nat} {seen':List BA} (h:J0 seen (l.take j) = some seen') (hj:j < l.length):J0 seen (l.take (j + 1)) = if Xd l[j] = true /\ l[j] ∉ seen' then some (seen' ++ [l[j]]) else none:=by
 have h1:=QN (l:=l.take (j + 1)) (j:=j) (by rw [List.take_take,WbO (by omega)];exact h);rw [h1,List.drop_take,show j + 1 - j = 1 by omega,Wv hj];rfl
theorem Zdd {seen:List BA} {l:List BA} {j:Nat} {seen':List BA} (h:J0 seen (l.take j) = some seen') (hj:j < l.length) (hb:¬ (Xd l[j] = true /\ l[j] ∉ seen')):J0 seen l = none:=by
 rw [QN h,Wv hj];show (if _ then _ else none) = none;rw [Ww hb]
def YK (names values:List BA):List PSl -> Bool
 | []=>true
 | s :: l=>Zbg names s && (match J0 values s.vs with | none=>false | some v=>YK (names ++ [s.nm]) v l)
def XC (n:Nat) (pat prm need:Int):Prop:=1 <= n /\ n <= 20 /\ 0 <= pat /\ pat <= 100 /\ 0 <= prm /\ prm <= 10000 /\ 0 <= need /\ need <= prm
instance (n:Nat) (pat prm need:Int):Decidable (XC n pat prm need):=by unfold XC;infer_instance
def Zq (pat prm need:Int) (S:List PSl):Bool:=decide (XC S.length pat prm need) && YK [] [Yy,noB] S
theorem XQ (names values:List BA) (s:PSl) (l:List PSl):YK names values (s :: l) = (Zbg names s && (match J0 values s.vs with | none=>false | some v=>YK (names ++ [s.nm]) v l)):=rfl
theorem Xj {names values:List BA} {s:PSl} {l:List PSl} (h:Zbg names s = false):YK names values (s :: l) = false:=by rw [XQ,h];rfl
theorem US {names values:List BA} {s:PSl} {l:List PSl} (h:J0 values s.vs = none):YK names values (s :: l) = false:=by rw [XQ,h];simp
theorem Zcc {names values v:List BA} {s:PSl} {l:List PSl} (h:Zbg names s = true) (hv:J0 values s.vs = some v):YK names values (s :: l) = YK (names ++ [s.nm]) v l:=by rw [XQ,h,hv];rfl
def setM (l:List BA):List (BA × Bool):=l.map fun x=>(x,true)
end Ear
namespace Go
open Go.ChangeMaps (setBlock heap_setBlock_same heap_setBlock_other)
open Go.Maps (Keyed)
open Go.RowKit
set_option linter.unusedSectionVars false

def J5 {κ ν : Type} [DecidableEq κ]:List (κ × ν) -> κ -> Option ν
 | [],_=>none
 | p :: m,k=>if p.1 = k then some p.2 else J5 m k
def Y8 {κ ν : Type} [DecidableEq κ]:List (κ × ν) -> κ -> ν -> List (κ × ν)
 | [],k,v=>[(k,v)]
 | p :: m,k,v=>if p.1 = k then (k,v) :: m else p :: Y8 m k v
section
variable {κ ν : Type} [DecidableEq κ]
theorem UD {m:List (κ × ν)} {k : κ} {v : ν} (h:J5 m k = some v):(k,v) ∈ m:=by
 induction m with
 | nil=>simp [J5] at h
 | cons p m ih=>
  unfold J5 at h;split at h
  ·rename_i e;simp at h;subst h;subst e;exact WbA ..
  ·exact Wb6 _ (ih h)
theorem Zt {m:List (κ × ν)} {k : κ}:J5 m k = none ↔ ∀ p ∈ m,p.1 ≠ k:=by
 induction m with
 | nil=>simp [J5]
 | cons p m ih=>
  unfold J5;split
  ·rename_i e;simp [e]
  ·rename_i e;rw [ih];simp [e]
theorem Vw (m:List (κ × ν)) (k : κ) (v : ν):J5 (Y8 m k v) k = some v:=by
 induction m with
 | nil=>simp [Y8,J5]
 | cons p m ih=>
  unfold Y8;split
  ·simp [J5]
  ·rename_i e;simp [J5,e,ih]
theorem QC (m:List (κ × ν)) {k k' : κ} (v : ν) (hne:k' ≠ k):J5 (Y8 m k v) k' = J5 m k':=by
 induction m with
 | nil=>simp [Y8,J5,Ne.symm hne]
 | cons p m ih=>
  unfold Y8;split
  ·rename_i e;simp [J5,e,Ne.symm hne]
  ·simp only [J5,ih]
theorem ZQ (m:List (κ × ν)) (k : κ) (v : ν):(Y8 m k v).length <= m.length + 1:=by
 induction m with
 | nil=>simp [Y8]
 | cons p m ih=>unfold Y8;split <;> simp;omega
theorem ZF {m:List (κ × ν)} {k : κ} {v : ν} {p : κ × ν} (h:p ∈ Y8 m k v):p = (k,v) ∨ p ∈ m:=by
 induction m with
 | nil=>simp [Y8] at h;exact .inl h
 | cons q m ih=>
  unfold Y8 at h;split at h
  ·rcases WE.1 h with h | h
   ·exact .inl h
   ·exact .inr (Wb6 _ h)
  ·rcases WE.1 h with h | h
   ·exact .inr (h ▸ WbA ..)
   ·rcases ih h with h | h
    ·exact .inl h
    ·exact .inr (Wb6 _ h)
theorem ZcK {m:List (κ × ν)} {k : κ} (v : ν) (h:J5 m k = none):Y8 m k v = m ++ [(k,v)]:=by
 induction m with
 | nil=>rfl
 | cons p m ih=>
  unfold J5 at h;split at h
  ·cases h
  ·rename_i e;simp [Y8,e,ih h]
theorem ZeD {m:List (κ × ν)} {k : κ} (v : ν):(Y8 m k v).map (·.1) = if (J5 m k).isSome then m.map (·.1) else m.map (·.1) ++ [k]:=by
 induction m with
 | nil=>rfl
 | cons p m ih=>
  unfold Y8 J5;split
  ·rename_i e;simp [e]
  ·simp only [List.map_cons,ih];split <;> rfl
theorem Zaz {m:List (κ × ν)} {j:Nat} {k : κ} {x : ν} (v : ν) (hn:(m.map (·.1)).Nodup) (h:m[j]? = some (k,x)):Y8 m k v = m.set j (k,v) /\ J5 m k = some x:=by
 induction m generalizing j with
 | nil=>simp at h
 | cons p m ih=>
  cases j with
  | zero=>simp at h;subst h;simp [Y8,J5]
  | succ j=>
   simp only [List.map_cons,List.nodup_cons] at hn;simp only [List.getElem?_cons_succ] at h;have hne:p.1 ≠ k:=fun e=>hn.1 (WaO.2 ⟨(k,x),WO h,e.symm⟩);obtain ⟨h1,h2⟩:=ih hn.2 h;simp [Y8,J5,hne,h1,h2]
end
section
variable {κ ν : Type} [DecidableEq κ] {P:Program} {K:TypeId} {ek : κ -> Value} {ev : ν -> Value} {w:World} {b:Nat} {m:List (κ × ν)}

structure MapIs (P:Program) (K:TypeId) (ek : κ -> Value) (ev : ν -> Value) (w:World) (b:Nat) (m:List (κ × ν)):Prop where
 block:∃ es clock,w.heap[b]? = some (.map es clock) /\ MapKept.Stamped es clock /\ es.toList.map (fun e=>(e.key,e.val)) = m.map (fun p=>(ek p.1,ev p.2))
 keys:∀ p ∈ m,∃ l,keyOf P K (ek p.1) = some l
def Inj (ek : κ -> Value):Prop:=∀ a b,ek a = ek b -> a = b
theorem MapIs.lt (h:MapIs P K ek ev w b m):b < w.heap.size:=by
 obtain ⟨es,c,hb,_⟩:=h.block;exact (WG.1 hb).1
theorem MapIs.same {w':World} (h:MapIs P K ek ev w b m) (hb:w'.heap[b]? = w.heap[b]?):MapIs P K ek ev w' b m:=by
 obtain ⟨es,c,h1,h2⟩:=h.block;exact ⟨⟨es,c,hb.trans h1,h2⟩,h.keys⟩
theorem MapIs.below {w':World} (h:MapIs P K ek ev w b m) (hb:Below w.heap.size w w'):MapIs P K ek ev w' b m:=h.same (hb.block b h.lt)
theorem MapIs.grown {w':World} {row:Option Nat} (h:MapIs P K ek ev w b m) (hg:w.grownBy w' row) (hne:row ≠ some b):MapIs P K ek ev w' b m:=h.same (hg.block b h.lt (fun e=>hne e.symm))
theorem MapIs.made (P:Program) (K:TypeId) (ek : κ -> Value) (ev : ν -> Value) (w:World):MapIs P K ek ev (w.alloc (.map #[] 0)) w.heap.size []:=
 ⟨⟨#[],0,(MapKept.heap_alloc w _).1,MapKept.stamped_empty 0,rfl⟩,by simp⟩
theorem Ys {es:Array MapEntry} (hm:es.toList.map (fun e=>(e.key,e.val)) = m.map (fun p=>(ek p.1,ev p.2))) {j:Nat} {e0:MapEntry} (h:es.toList[j]? = some e0):∃ p,m[j]? = some p /\ e0.key = ek p.1 /\ e0.val = ev p.2:=by
 have:=WaF (fun l=>l[j]?) hm;simp only [List.getElem?_map,h,Option.map_some] at this;cases hp:m[j]? with
 | none=>rw [hp] at this;simp at this
 | some p=>rw [hp] at this;simp at this;exact ⟨p,rfl,this.1,this.2⟩
theorem MapIs.nodup (h:MapIs P K ek ev w b m):(m.map (·.1)).Nodup:=by
 obtain ⟨es,c,h1,h2,h3⟩:=h.block;have hk:es.toList.map (·.key) = m.map (fun p=>ek p.1):=by
  have:=WaF (List.map Prod.fst) h3;simpa [List.map_map,Function.comp_def] using this
 have hn:=h2.2.2;rw [hk] at hn;rw [List.Nodup,WcM] at hn ⊢;exact hn.imp fun hne e=>hne (by rw [e])
theorem MapIs.size (h:MapIs P K ek ev w b m):∃ es clock,w.heap[b]? = some (.map es clock) /\ es.size = m.length:=by
 obtain ⟨es,c,h1,h2,h3⟩:=h.block;refine ⟨es,c,h1,?_⟩;have:=WaF List.length h3;simpa using this
theorem Zv (hk:∀ p ∈ m,∃ l,keyOf P K (ek p.1) = some l) {es:Array MapEntry} (hm:es.toList.map (fun e=>(e.key,e.val)) = m.map (fun p=>(ek p.1,ev p.2))):∀ e ∈ es.toList,∃ l,keyOf P K e.key = some l:=fun e he=>by
 obtain ⟨j,hj⟩:=Wc4.1 he;obtain ⟨p,hp,h1,_⟩:=Ys hm hj;rw [h1];exact hk p (WO hp)
theorem MapIs.lookup {t e:TypeId} (h:MapIs P K ek ev w b m) (KY:Keyed P K) (inj:Inj ek) (ht:P.underlying t = some (.map K e)) {z:Value} (hz:(zeroValue e).run P w = .ok z w) (key : κ) {l:Lit} (hk:keyOf P K (ek key) = some l) :
  (Instr.lookup t (.map (some b)) (ek key) false).run P w = .ok (((J5 m key).map ev).getD z) w:=by
 obtain ⟨es,c,h1,h2,h3⟩:=h.block;rcases KY.find w hk es.toList (Zv h.keys h3) with ⟨f1,f2⟩ | ⟨j,e0,f1,f2,f3⟩
 ·have hn:J5 m key = none:=Zt.2 fun p hp e=>by
   obtain ⟨j,hj⟩:=Wc4.1 hp;have:=WaF (fun l=>l[j]?) h3;simp only [List.getElem?_map,hj,Option.map_some] at this;cases he:es.toList[j]? with
   | none=>rw [he] at this;simp at this
   | some x=>rw [he] at this;simp at this;exact f2 x (WO he) (by rw [this.1,e])
  rw [hn];simp [Instr.lookup,run_underlying ht,MapKept.run_getObj_map h1,KY.check w _ hk,f1,hz,Result.andThen]
 ·obtain ⟨p,hp,q1,q2⟩:=Ys h3 f2;have ep:p.1 = key:=inj _ _ (q1.symm.trans f3);have hg:=(Zaz p.2 h.nodup (show m[j]? = some (key,p.2) by rw [hp,<- ep])).2;rw [hg];simp [Instr.lookup,run_underlying ht,MapKept.run_getObj_map h1,KY.check w _ hk,f1,q2,Result.andThen]
theorem Zaw {es:Array MapEntry} {key : κ} {val : ν} {clock:Nat} (hm:es.toList.map (fun e=>(e.key,e.val)) = m.map (fun p=>(ek p.1,ev p.2))) (hn:J5 m key = none) :
  (es.push ⟨ek key,ev val,clock⟩).toList.map (fun e=>(e.key,e.val)) = (Y8 m key val).map (fun p=>(ek p.1,ev p.2)):=by
 rw [ZcK val hn];simp [hm]
theorem QX {es:Array MapEntry} {key : κ} {val : ν} {j:Nat} {e0:MapEntry} {x : ν} (hm:es.toList.map (fun e=>(e.key,e.val)) = m.map (fun p=>(ek p.1,ev p.2))) (hj:es.toList[j]? = some e0) (hp:m[j]? = some (key,x)) (hnd:(m.map (·.1)).Nodup) (f:MapEntry -> MapEntry) (hf1:(f e0).key = ek key) (hf2:(f e0).val = ev val) :
  (es.modify j f).toList.map (fun e=>(e.key,e.val)) = (Y8 m key val).map (fun p=>(ek p.1,ev p.2)):=by
 rw [(Zaz val hnd hp).1,We8,ChangeMaps.modify_eq_set _ _ _ _ hj,WcG,WcG,hm,hf1,hf2]
theorem VE {key : κ} {val : ν} (hk:∀ p ∈ m,∃ l,keyOf P K (ek p.1) = some l) {l:Lit} (hkey:keyOf P K (ek key) = some l):∀ p ∈ Y8 m key val,∃ l,keyOf P K (ek p.1) = some l:=fun p hp=>by
 rcases ZF hp with rfl | h
 ·exact ⟨l,hkey⟩
 ·exact hk p h
theorem JZ {es es':Array MapEntry} {c c':Nat} (hb:w.heap[b]? = some (.map es c)):w.grownBy (setBlock w b (.map es' c')) (some b):=
 ⟨rfl,rfl,rfl,by simp [setBlock],fun i _ hi=>heap_setBlock_other hb _ (fun e=>hi (by rw [e]))⟩
theorem MapIs.update {t e:TypeId} (h:MapIs P K ek ev w b m) (KY:Keyed P K) (inj:Inj ek) (ht:P.underlying t = some (.map K e)) (key : κ) (val : ν) {l:Lit} (hk:keyOf P K (ek key) = some l) :
  ∃ w',(Instr.mapUpdate t (.map (some b)) (ek key) (ev val)).run P w = .ok () w' /\ MapIs P K ek ev w' b (Y8 m key val) /\ w.grownBy w' (some b):=by
 obtain ⟨es,c,h1,h2,h3⟩:=h.block;rcases KY.find w hk es.toList (Zv h.keys h3) with ⟨f1,f2⟩ | ⟨j,e0,f1,f2,f3⟩
 ·have hn:J5 m key = none:=Zt.2 fun p hp e=>by
   obtain ⟨j,hj⟩:=Wc4.1 hp;have:=WaF (fun l=>l[j]?) h3;simp only [List.getElem?_map,hj,Option.map_some] at this;cases he:es.toList[j]? with
   | none=>rw [he] at this;simp at this
   | some x=>rw [he] at this;simp at this;exact f2 x (WO he) (by rw [this.1,e])
  refine ⟨setBlock w b (.map (es.push ⟨ek key,ev val,c⟩) (c + 1)),by simp [Instr.mapUpdate,run_underlying ht,MapKept.run_getObj_map h1,KY.check w false hk,f1,MapKept.run_setObj_map _ h1,Result.andThen,setBlock],⟨⟨_,_,heap_setBlock_same h1 _,MapKept.stamped_push h2 f2,Zaw h3 hn⟩,VE h.keys hk⟩,JZ h1⟩
 ·obtain ⟨p,hp,q1,q2⟩:=Ys h3 f2;have ep:p.1 = key:=inj _ _ (q1.symm.trans f3);have hp':m[j]? = some (key,p.2):=by rw [hp,<- ep]
  have hj:es[j]? = some e0:=by simpa using f2
  refine ⟨setBlock w b (.map (es.modify j fun e=>{ e with key:=ek key,val:=ev val }) c),by simp [Instr.mapUpdate,run_underlying ht,MapKept.run_getObj_map h1,KY.check w false hk,f1,hj,f3,KY.stays w hk,MapKept.run_setObj_map _ h1,Result.andThen,setBlock],⟨⟨_,_,heap_setBlock_same h1 _,MapKept.stamped_modify h2 j _ (fun _ _=>rfl) (fun x _ hx=>by rw [hj] at hx;cases hx;exact f3.symm),QX h3 f2 hp' h.nodup _ rfl rfl⟩,VE h.keys hk⟩,JZ h1⟩
end
end Go
namespace Go
open Go.ChangeMaps (setBlock heap_setBlock_same heap_setBlock_other)
open Go.Maps (Keyed)
open Go.RowKit
set_option linter.unusedSectionVars false
section
variable {κ ν : Type} [DecidableEq κ] {P:Program} {K:TypeId} {ek : κ -> Value} {ev : ν -> Value} {w:World} {b r:Nat} {m:List (κ × ν)} {idx:List Nat}

structure MapIt (P:Program) (K:TypeId) (ek : κ -> Value) (ev : ν -> Value) (w:World) (b r:Nat) (m:List (κ × ν)) (idx:List Nat):Prop where
 st:∃ es clock since seen c0,w.heap[b]? = some (.map es clock) /\ MapKept.Stamped es clock /\ es.toList.map (fun e=>(e.key,e.val)) = m.map (fun p=>(ek p.1,ev p.2)) /\
  w.heap[r]? = some (.mapIter (some b) since seen c0) /\ (∀ x ∈ es.toList,x.born < since) /\ since <= c0 /\ since <= clock /\ seen.toList.map some = idx.map (fun i=>es.toList[i]?.map (·.born))
 nodup:idx.Nodup
 lt:∀ i ∈ idx,i < m.length
 keys:∀ p ∈ m,∃ l,keyOf P K (ek p.1) = some l
def Zbs (w:World) (b r:Nat):Nat:=match w.heap[b]?,w.heap[r]? with
 | some (.map es _),some (.mapIter _ _ seen _)=>es.size - seen.size
 | _,_=>0
def Zgq {α:Type} (m:List α) (d : α) (idx:List Nat):List α:=idx.map fun i=>m[i]?.getD d
theorem MapIt.left_eq (h:MapIt P K ek ev w b r m idx):Zbs w b r = m.length - idx.length:=by
 obtain ⟨es,c,s,seen,c0,h1,h2,h3,h4,h5,h6,hc,h7⟩:=h.st;unfold Zbs;rw [h1,h4];have e1:=WaF List.length h3;have e2:=WaF List.length h7;simp at e1 e2;simp only;omega
theorem UW:∀ (n:Nat) (l:List Nat),l.Nodup -> (∀ i ∈ l,i < n) -> l.length <= n
 | 0,l,_,h=>by
  cases l with
  | nil=>simp
  | cons x l=>exact absurd (h x (WbA ..)) (Nat.not_lt_zero _)
 | n + 1,l,hn,h=>by
  by_cases hm:n ∈ l
  ·have h1:=UW n (l.erase n) (hn.erase n) (fun i hi=>by
    have h2:=h i (List.mem_of_mem_erase hi);have h3:i ≠ n:=fun e=>by subst e;exact (List.Nodup.not_mem_erase hn) hi
    omega)
   rw [List.length_erase_of_mem hm] at h1;omega
  ·have h1:=UW n l hn (fun i hi=>by
    have h2:=h i hi;have h3:i ≠ n:=fun e=>hm (e ▸ hi);omega)
   omega
theorem MapIt.len_le (h:MapIt P K ek ev w b r m idx):idx.length <= m.length:=UW _ _ h.nodup h.lt
theorem MapIt.same {w':World} (h:MapIt P K ek ev w b r m idx) (hb:w'.heap[b]? = w.heap[b]?) (hr:w'.heap[r]? = w.heap[r]?):MapIt P K ek ev w' b r m idx:=by
 obtain ⟨es,c,s,seen,c0,h1,h2,h3,h4,h5⟩:=h.st;exact ⟨⟨es,c,s,seen,c0,hb.trans h1,h2,h3,hr.trans h4,h5⟩,h.nodup,h.lt,h.keys⟩
theorem MapIs.range {t e:TypeId} (h:MapIs P K ek ev w b m) (ht:P.underlying t = some (.map K e)) :
  ∃ o,(Instr.range t (.map (some b))).run P w = .ok (.pointer (some ⟨w.heap.size,0,none⟩)) (w.alloc o) /\ MapIt P K ek ev (w.alloc o) b w.heap.size m []:=by
 obtain ⟨es,c,h1,h2,h3⟩:=h.block;have hlt:=h.lt;refine ⟨_,run_range_map w t K e b es c ht h1,⟨es,c,c,#[],c,?_,h2,h3,?_,h2.1,WK _,WK _,rfl⟩,by simp,by simp,h.keys⟩
 ·rw [(MapKept.heap_alloc w _).2 b hlt];exact h1
 ·exact (MapKept.heap_alloc w _).1
theorem Zgh {n:Nat} {idx:List Nat} (hn:idx.Nodup) (hl:∀ i ∈ idx,i < n) (ha:∀ i,i < n -> i ∈ idx):idx.Perm (List.range n):=by
 rw [List.perm_ext_iff_of_nodup hn List.nodup_range];exact fun i=>⟨fun h=>WT.2 (hl i h),fun h=>ha i (WT.1 h)⟩
theorem Ze2 {α:Type} {m:List α} {d : α} {idx:List Nat} (h:idx.Perm (List.range m.length)):(Zgq m d idx).Perm m:=by
 refine (h.map _).trans ?_;have e:(List.range m.length).map (fun i=>m[i]?.getD d) = m:=by
  apply WcU (by simp);intro i h1 h2;simp [List.getElem?_eq_getElem h2]
 rw [e]
theorem MapIt.next (h:MapIt P K ek ev w b r m idx) (d : κ × ν) (ty:TypeId) :
  ((Zgq m d idx).Perm m /\ (Instr.next (.pointer (some ⟨r,0,none⟩)) false ty).run P w = .ok (.tuple #[.bool false]) w) ∨
  ∃ i w',i < m.length /\ i ∉ idx /\ (Instr.next (.pointer (some ⟨r,0,none⟩)) false ty).run P w = .ok (.tuple #[.bool true,ek (m[i]?.getD d).1,ev (m[i]?.getD d).2]) w' /\ MapIt P K ek ev w' b r m (idx ++ [i]) /\
   (Instr.entry (.pointer (some ⟨r,0,none⟩))).run P w' = .ok (.tuple #[ek (m[i]?.getD d).1,ev (m[i]?.getD d).2]) w' /\ w.grownBy w' (some r) /\ w'.heap.size = w.heap.size:=by
 obtain ⟨es,c,s,seen,c0,h1,h2,h3,h4,h5,h6,hc,h7⟩:=h.st;have hsz:es.toList.length = m.length:=by have:=WaF List.length h3;simpa using this
 have hseen:∀ x,x ∈ seen.toList -> ∃ i ∈ idx,es.toList[i]?.map (·.born) = some x:=fun x hx=>by
  have:some x ∈ idx.map (fun i=>es.toList[i]?.map (·.born)):=by rw [<- h7];exact WV hx
  obtain ⟨i,hi,e⟩:=WaO.1 this;exact ⟨i,hi,e⟩
 have hnb:∀ (i j:Nat) (x:Nat),es.toList[i]?.map (fun e:MapEntry=>e.born) = some x -> es.toList[j]?.map (fun e:MapEntry=>e.born) = some x -> i = j:=fun i j x hi hj=>by
  have hn:=h2.2.1;rw [<- WL] at hi hj;obtain ⟨l1,e1⟩:=Wl.1 hi;obtain ⟨l2,e2⟩:=Wl.1 hj;rw [List.Nodup,WaN] at hn;rcases WfI i j with h | h | h
  ·exact absurd (e1.trans e2.symm) (hn i j l1 l2 h)
  ·exact h
  ·exact absurd (e2.trans e1.symm) (hn j i l2 l1 h)
 have hbr:b ≠ r:=fun e=>by rw [e,h4] at h1;cases h1
 rcases run_next_at w ty r b s c0 seen es c h4 h1 h5 h6 with ⟨f1,f2⟩ | ⟨e0,f1,w1,f2,f3⟩
 ·refine .inl ⟨Ze2 (Zgh h.nodup h.lt fun i hi=>?_),f2⟩;have hi':i < es.toList.length:=by omega
  have hin:seen.contains es.toList[i].born = true:=by
   apply WeC;intro hne;have hm:es.toList[i] ∈ (leftOf es seen).toList:=by
    unfold leftOf;rw [Array.toList_filter,WdL];exact ⟨WcT hi',by simpa using hne⟩
   have:(leftOf es seen).toList = []:=by
    apply WcV;simpa using f1
   rw [this] at hm;cases hm
  have hmem:es.toList[i].born ∈ seen.toList:=by
   simpa using hin
  obtain ⟨j,hj,ej⟩:=hseen _ hmem;have:=hnb i j _ (by rw [WW hi'];rfl) ej;rw [this];exact hj
 ·unfold leftOf at f1;rw [Array.toList_filter,WdL] at f1;obtain ⟨g1,g2⟩:=f1;obtain ⟨i,hi⟩:=Wc4.1 g1;obtain ⟨p,hp,q1,q2⟩:=Ys h3 hi;have hlt:i < m.length:=(Wl.1 hp).1;have hr1:w1.heap[r]? = some (.mapIter (some b) s seen c0):=by rcases f2 with rfl | rfl <;> exact h4
  have hb1:w1.heap[b]? = some (.map es c):=by rcases f2 with rfl | rfl <;> exact h1
  have hni:i ∉ idx:=fun hin=>by
   have:some e0.born ∈ seen.toList.map some:=(by rw [h7];exact WaO.2 ⟨i,hin,by rw [hi];rfl⟩);obtain ⟨x,hx,e⟩:=WaO.1 this;cases e;have hc:seen.contains e0.born = true:=(by simpa using hx);rw [hc] at g2;simp at g2
  have hrs:r < w1.heap.size:=(WG.1 hr1).1;have hr2:(setBlock w1 r (.mapIter (some b) s (seen.push e0.born) c)).heap[r]? = some (.mapIter (some b) s (seen.push e0.born) c):=by simp [setBlock,hrs]
  have hb2:(setBlock w1 r (.mapIter (some b) s (seen.push e0.born) c)).heap[b]? = some (.map es c):=by
   have:(setBlock w1 r (.mapIter (some b) s (seen.push e0.born) c)).heap[b]? = w1.heap[b]?:=(by simp [setBlock,Ne.symm hbr]);rw [this];exact hb1
  have hgb:w.grownBy (setBlock w1 r (.mapIter (some b) s (seen.push e0.born) c)) (some r):=by
   rcases f2 with rfl | rfl
   ·exact ⟨rfl,rfl,rfl,by simp [setBlock],fun k _ hk=>by have:k ≠ r:=fun e=>hk (by rw [e]);simp [setBlock,Ne.symm this]⟩
   ·exact ⟨rfl,rfl,rfl,by simp [setBlock],fun k _ hk=>by have:k ≠ r:=fun e=>hk (by rw [e]);simp [setBlock,Ne.symm this];rfl⟩
  have hsw:(setBlock w1 r (.mapIter (some b) s (seen.push e0.born) c)).heap.size = w.heap.size:=by rcases f2 with rfl | rfl <;> simp [setBlock]
  refine .inr ⟨i,_,hlt,hni,?_,⟨⟨es,c,s,seen.push e0.born,c,hb2,h2,h3,hr2,h5,hc,hc,?_⟩,?_,?_,h.keys⟩,?_,hgb,hsw⟩
  ·rw [f3,hp,q1,q2];rfl
  ·rw [WfL,WaM,WaM,h7];refine WaF _ ?_;show [some e0.born] = [Option.map (fun e:MapEntry=>e.born) es.toList[i]?];rw [hi];rfl
  ·exact List.nodup_append.2 ⟨h.nodup,by simp,fun a ha c hc=>by rw [WS] at hc;subst hc;exact fun e=>hni (e ▸ ha)⟩
  ·intro j hj;rcases WY.1 hj with hj | hj
   ·exact h.lt j hj
   ·rw [WS] at hj;subst hj;exact hlt
  ·have:=run_entry_at (P:=P) _ r b s seen es c e0 hr2 hb2 g1 h2.2.1;rw [this,hp,q1,q2];rfl
end
end Go
namespace Go
open Go.ChangeMaps (setBlock heap_setBlock_same heap_setBlock_other)
open Go.Maps (Keyed)
open Go.RowKit
set_option linter.unusedSectionVars false
section
variable {κ ν : Type} [DecidableEq κ] {P:Program} {K:TypeId} {ek : κ -> Value} {ev : ν -> Value} {w:World} {b:Nat} {m:List (κ × ν)}
theorem Zd {t e:TypeId} (KY:Keyed P K) (ht:P.underlying t = some (.map K e)) {u:World} {es:Array MapEntry} {clock:Nat} (hb:u.heap[b]? = some (.map es clock)) (hs:MapKept.Stamped es clock) {j:Nat} {e0:MapEntry} (hj:es.toList[j]? = some e0) {l:Lit} (hk:keyOf P K e0.key = some l) (hkeys:∀ e ∈ es.toList,∃ l,keyOf P K e.key = some l) :
  (Instr.mapEntry t (.map (some b)) e0.key).run P u = .ok (.tuple #[e0.val,goInt e0.born]) (setBlock u b (.map es clock)) /\
  ∀ v,(Instr.entryStore t (.map (some b)) (goInt e0.born) v).run P u = .ok () (setBlock u b (.map (es.modify j fun x=>{ x with val:=v }) clock)):=by
 have hn:=hs.2.2;rcases KY.find u hk es.toList hkeys with ⟨f1,f2⟩ | ⟨j',e1,f1,f2,f3⟩
 ·exact absurd rfl (f2 e0 (WO hj))
 ·have hjj:j' = j:=by
   rw [List.Nodup,WcM,WaN] at hn;obtain ⟨l1,e1'⟩:=Wl.1 hj;obtain ⟨l2,e2'⟩:=Wl.1 f2;rcases WfI j' j with h | h | h
   ·exact absurd (by rw [e1',e2',f3]) (hn j' j l2 l1 h)
   ·exact h
   ·exact absurd (by rw [e1',e2',f3]) (hn j j' l1 l2 h)
  subst hjj;rw [hj] at f2;cases f2;have hj2:es[j']? = some e0:=by simpa using hj
  have sm:es.modify j' (fun e=>{ e with key:=e0.key }) = es:=by
   apply Array.ext';rw [We8,ChangeMaps.modify_eq_set _ _ _ _ hj];exact WideElems.set_self _ _ _ hj
  refine ⟨by simp [Instr.mapEntry,run_underlying ht,MapKept.run_getObj_map hb,KY.check u false hk,f1,hj2,KY.stays u hk,sm,MapKept.run_setObj_map _ hb,Result.andThen,setBlock],fun v=>?_⟩;have hidx:es.findIdx? (fun e=>((e.born:Nat):Int) == ((e0.born:Nat):Int)) = some j':=by
   rw [WideElems.findIdx_arr];exact WideElems.findIdx_born hs.2.1 hj
  simp [Instr.entryStore,MapKept.run_getObj_map hb,asInt,asIntOf,goInt,hidx,MapKept.run_setObj_map _ hb,Result.andThen,setBlock]
theorem MapIs.entry2 {t e:TypeId} (h:MapIs P K ek ev w b m) (KY:Keyed P K) (inj:Inj ek) (ht:P.underlying t = some (.map K e)) {z : ν} (hz:∀ u,(zeroValue e).run P u = .ok (ev z) u) (key : κ) {l:Lit} (hk:keyOf P K (ek key) = some l) :
  ∃ (st:Nat) (o1:Obj),(∃ es c,o1 = .map es c) /\ (∀ u:World,(u.heap[b]? = w.heap[b]? ∨ u.heap[b]? = some o1) -> (Instr.lookup t (.map (some b)) (ek key) false).run P u = .ok (ev ((J5 m key).getD z)) u /\
    (Instr.mapEntry t (.map (some b)) (ek key)).run P u = .ok (.tuple #[ev ((J5 m key).getD z),goInt st]) (setBlock u b o1)) /\
   ∀ (u:World) (val : ν),u.heap[b]? = some o1 -> ∃ o2,(∃ es c,o2 = .map es c) /\ (Instr.entryStore t (.map (some b)) (goInt st) (ev val)).run P u = .ok () (setBlock u b o2) /\ ∀ u':World,u'.heap[b]? = some o2 -> MapIs P K ek ev u' b (Y8 m key val):=by
 have look:∀ (u:World) (m':List (κ × ν)),MapIs P K ek ev u b m' -> (Instr.lookup t (.map (some b)) (ek key) false).run P u = .ok (ev ((J5 m' key).getD z)) u:=fun u m' hu=>by
  have:=hu.lookup KY inj ht (hz u) key hk;rw [this];cases J5 m' key <;> rfl
 obtain ⟨es,clock,h1,h2,h3⟩:=h.block;rcases KY.find w hk es.toList (Zv h.keys h3) with ⟨f1,f2⟩ | ⟨j,e0,f1,f2,f3⟩
 ·have hn:J5 m key = none:=Zt.2 fun p hp e=>by
   obtain ⟨j,hj⟩:=Wc4.1 hp;have:=WaF (fun l=>l[j]?) h3;simp only [List.getElem?_map,hj,Option.map_some] at this;cases he:es.toList[j]? with
   | none=>rw [he] at this;simp at this
   | some x=>rw [he] at this;simp at this;exact f2 x (WO he) (by rw [this.1,e])
  have hst1:=MapKept.stamped_push (val:=ev z) h2 f2;have hp1:=Zaw (ek:=ek) (ev:=ev) (key:=key) (val:=z) (clock:=clock) h3 hn;have hks1:∀ p ∈ Y8 m key z,∃ l,keyOf P K (ek p.1) = some l:=VE h.keys hk;have hlast:(es.push ⟨ek key,ev z,clock⟩).toList[es.toList.length]? = some ⟨ek key,ev z,clock⟩:=by simp
  refine ⟨clock,.map (es.push ⟨ek key,ev z,clock⟩) (clock + 1),⟨_,_,rfl⟩,fun u hu=>?_,fun u val hu=>?_⟩
  ·rcases hu with hu | hu
   ·refine ⟨look u m (h.same hu),?_⟩;rw [hn];have hb:=hu.trans h1;rcases KY.find u hk es.toList (Zv h.keys h3) with ⟨g1,_⟩ | ⟨j,e0,_,g2,g3⟩
    ·simp [Instr.mapEntry,run_underlying ht,MapKept.run_getObj_map hb,KY.check u false hk,g1,hz,MapKept.run_setObj_map _ hb,Result.andThen,setBlock]
    ·exact absurd g3 (f2 e0 (WO g2))
   ·have hm1:MapIs P K ek ev u b (Y8 m key z):=⟨⟨_,_,hu,hst1,hp1⟩,hks1⟩;refine ⟨?_,?_⟩
    ·rw [look u _ hm1,Vw,hn];rfl
    ·rw [hn];exact (Zd KY ht hu hst1 hlast hk (Zv hks1 hp1)).1
  ·refine ⟨_,⟨_,_,rfl⟩,(Zd KY ht hu hst1 hlast hk (Zv hks1 hp1)).2 (ev val),fun u' hu'=>⟨⟨_,_,hu',?_,?_⟩,VE h.keys hk⟩⟩
   ·exact MapKept.stamped_modify hst1 _ _ (fun _ _=>rfl) (fun _ _ _=>rfl)
   ·have e:(es.push ⟨ek key,ev z,clock⟩).modify es.toList.length (fun e=>{ e with val:=ev val }) = es.push ⟨ek key,ev val,clock⟩:=by
     apply Array.ext';rw [We8,WfL,WfL,WideElems.modify_last]
    rw [e];exact Zaw h3 hn
 ·obtain ⟨p,hp,q1,q2⟩:=Ys h3 f2;have ep:p.1 = key:=inj _ _ (q1.symm.trans f3);have hp':m[j]? = some (key,p.2):=by rw [hp,<- ep]
  have hg:=(Zaz p.2 h.nodup hp').2;have hfk:keyOf P K e0.key = some l:=by rw [f3];exact hk
  have hold:∀ u:World,(u.heap[b]? = w.heap[b]? ∨ u.heap[b]? = some (.map es clock)) -> u.heap[b]? = w.heap[b]?:=fun u hu=>by
   rcases hu with hu | hu
   ·exact hu
   ·rw [hu,h1]
  refine ⟨e0.born,.map es clock,⟨_,_,rfl⟩,fun u hu=>?_,fun u val hu=>?_⟩
  ·have hu':=hold u hu;refine ⟨look u m (h.same hu'),?_⟩;have:=(Zd KY ht (hu'.trans h1) h2 f2 hfk (Zv h.keys h3)).1;rw [f3,q2] at this;rw [this,hg];rfl
  ·have:=(Zd KY ht hu h2 f2 hfk (Zv h.keys h3)).2 (ev val);refine ⟨_,⟨_,_,rfl⟩,this,fun u' hu'=>⟨⟨_,_,hu',MapKept.stamped_modify h2 j _ (fun _ _=>rfl) (fun _ _ _=>rfl),QX h3 f2 hp' h.nodup _ f3 rfl⟩,VE h.keys hk⟩⟩
end
end Go
namespace Go.Proofs.YtcjicjfbippmnaaGreat
open Go.RowKit Ear

structure SlM where
 nm:BA
 A:Option Addr
 c:Nat
 vs:List BA
 L:Fr
 S:Fr
def slc (s:SlM):List Value:=[.string s.nm,.slice s.A s.vs.length s.c,.bool s.L.neg,.slice s.L.A s.L.N.length s.L.c,.slice s.L.B s.L.D.length s.L.d,.bool s.S.neg,.slice s.S.A s.S.N.length s.S.c,.slice s.S.B s.S.D.length s.S.d]
abbrev sbs (l:List BA):List Value:=l.map Value.string
structure SlOk (w:World) (s:SlM) (p:PSl):Prop where
 nm:s.nm = p.nm
 vs:s.vs = p.vs
 lies:Lies w s.A (sbs s.vs)
 nil:s.A = none -> s.c = 0
 L:Fv w s.L p.le
 S:Fv w s.S p.su
 fL:Few s.L 90000
 fS:Few s.S 90000
theorem SlOk.below {w w':World} {s:SlM} {p:PSl} (h:SlOk w s p) (hb:Below w.heap.size w w'):SlOk w' s p:=⟨h.nm,h.vs,h.lies.below hb,h.nil,h.L.below hb,h.S.below hb,h.fL,h.fS⟩
def VS (Ss:List SlM):List Value:=Ss.flatMap slc
theorem XN (Ss:List SlM):(VS Ss).length = Ss.length * 8:=by
 induction Ss with
 | nil=>rfl
 | cons x l ih=>simp only [VS,List.flatMap_cons,List.length_append] at ih ⊢;rw [ih];simp [slc];omega
theorem Uy:∀ (Ss:List SlM) {k:Nat} (hk:k < Ss.length) (j:Nat),j < 8 -> (VS Ss)[k * 8 + j]? = (slc Ss[k])[j]?
 | s :: l,0,_,j,hj=>by
  simp only [VS,List.flatMap_cons,Nat.zero_mul,Nat.zero_add,List.getElem_cons_zero];exact WdA (by simp [slc];exact hj)
 | s :: l,k + 1,hk,j,hj=>by
  have ih:=Uy l (k:=k) (by simpa using hk) j hj;simp only [VS,List.flatMap_cons,List.getElem_cons_succ] at ih ⊢;rw [WaL (by simp [slc];omega),<- ih];congr 1;simp [slc];omega
structure PlM (w:World) (A:Option Addr) (Ss:List SlM) (Ps:List PSl):Prop where
 lies:Lies w A (VS Ss)
 len:Ss.length = Ps.length
 ok:∀ (k:Nat) (s:SlM) (p:PSl),Ss[k]? = some s -> Ps[k]? = some p -> SlOk w s p
theorem PlM.below {w w':World} {A:Option Addr} {Ss:List SlM} {Ps:List PSl} (h:PlM w A Ss Ps) (hb:Below w.heap.size w w'):PlM w' A Ss Ps:=⟨h.lies.below hb,h.len,fun k s p h1 h2=>(h.ok k s p h1 h2).below hb⟩
theorem PlM.at_ {w:World} {A:Option Addr} {Ss:List SlM} {Ps:List PSl} (h:PlM w A Ss Ps) {k:Nat} (hk:k < Ss.length):∃ b off,A = some ⟨b,off,none⟩ /\ b < w.heap.size /\ ∀ (j:Nat) (v:Value),(slc Ss[k])[j]? = some v -> w.cell? ⟨b,off + k * 8 + j,none⟩ = some v:=by
 obtain ⟨b,off,e,hb,hc⟩:=h.lies (by rw [XN];omega);refine ⟨b,off,e,hb,fun j v hv=>?_⟩;rw [WbJ];refine hc _ _ ?_;have hj:j < 8:=by have:=(Wl.1 hv).1;simpa [slc] using this
 rw [Uy Ss hk j hj];exact hv
abbrev SM (w:World) (b:Nat) (l:List BA):Prop:=MapIs Tryz.prog 9 Value.string Value.bool w b (setM l)
theorem ZcB (l:List BA) (k:BA):J5 (setM l) k = if k ∈ l then some true else none:=by
 induction l with
 | nil=>rfl
 | cons x l ih=>
  show (if x = k then some true else J5 (setM l) k) = _;by_cases h:x = k
  ·subst h;simp
  ·rw [Ww h,ih];by_cases h2:k ∈ l
   ·rw [WA h2,WA (Wb6 _ h2)]
   ·rw [Ww h2,Ww (fun h3=>by rcases WE.1 h3 with h4 | h4;exact h h4.symm;exact h2 h4)]
theorem ZfM {l:List BA} {k:BA} (h:k ∉ l):Y8 (setM l) k true = setM (l ++ [k]):=by
 rw [ZcK _ (by rw [ZcB,Ww h])];simp [setM]
theorem Zbe:Maps.Keyed Tryz.prog 9:=Maps.string_keyed Tryz.underlying9
theorem Zeb:Inj Value.string:=fun a b h=>by injection h
theorem Zea {s:BA} (h:s.size <= maxLen):∃ l,keyOf Tryz.prog 9 (.string s) = some l:=⟨_,WideMaps.keyOf_string_mk (P:=Tryz.prog) Tryz.underlying9 h⟩
theorem toList_eq {s:BA} {l:List UInt8}:(s.toList == l) = decide (s = ⟨l.toArray⟩):=by
 rw [Wa2];by_cases h:s = ⟨l.toArray⟩
 ·subst h;simp
 ·rw [dF h,Wz];intro e;apply h;cases s;simp only at e;subst e;simp
theorem SM.look {w:World} {b:Nat} {l:List BA} (h:SM w b l) (k:BA) (hk:k.size <= maxLen):(Instr.lookup 186 (.map (some b)) (.string k) false).run Tryz.prog w = .ok (.bool (decide (k ∈ l))) w:=by
 obtain ⟨kl,hkl⟩:=Zea hk;have:=MapIs.lookup (e:=4) (z:=.bool false) h Zbe Zeb Tryz.underlying186 (by kernel_rfl) k hkl;rw [this,ZcB];by_cases hm:k ∈ l
 ·simp [hm]
 ·simp [hm]
theorem SM.put {w:World} {b:Nat} {l:List BA} (h:SM w b l) {k:BA} (hk:k.size <= maxLen) (hn:k ∉ l):∃ w',(Instr.mapUpdate 186 (.map (some b)) (.string k) (.bool true)).run Tryz.prog w = .ok () w' /\ SM w' b (l ++ [k]) /\ w.grownBy w' (some b):=by
 obtain ⟨kl,hkl⟩:=Zea hk;obtain ⟨w',h1,h2,h3⟩:=MapIs.update (e:=4) h Zbe Zeb Tryz.underlying186 k true hkl;rw [ZfM hn] at h2;exact ⟨w',h1,h2,h3⟩
end Go.Proofs.YtcjicjfbippmnaaGreat
