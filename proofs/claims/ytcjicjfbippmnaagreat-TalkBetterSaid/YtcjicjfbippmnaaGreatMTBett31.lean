/- TalkBetter -/
import Derived.Test.YtcjicjfbippmnaaGreatMTBett30
set_option maxRecDepth 100000
set_option maxHeartbeats 32000000
namespace Go.Proofs.YtcjicjfbippmnaaGreat
open Go.RowKit Ear

def Zq (q:Rat):Bool:=decide (0 <= Yu q) && decide (Yu (q + -((1:Int):Rat)) <= 0)
theorem Uv (x:Fr) (q:Rat) (w:World) (hx:Fv w x q) (fx:Few x 90000) (r:Bool) (hr:Hid (Zq q = r)):Calls Tryz.prog 85 #[x.val] w (Zdq r w):=by
 obtain ⟨W0,hW0⟩:∃ W0:World,W0 = w.alloc (.cells #[.bool x.neg,.slice x.A x.N.length x.c,.slice x.B x.D.length x.d] 28):=⟨_,rfl⟩;have HB0:Hid (Below w.heap.size w W0):=zH (by rw [hW0];exact bR.alloc nR _);have HX0:Hid (Fb W0 w.heap.size x):=zH (by rw [hW0];exact Fb.new w x);have HV0:=zH (hx.below HB0.out);obtain ⟨c0,c1,c2,-,-,-⟩:=HX0.out.facts;obtain ⟨R,hR⟩:∃ R,R = Yu q:=⟨_,rfl⟩;obtain ⟨R2,hR2⟩:∃ R2,R2 = Yu (q + -((1:Int):Rat)):=⟨_,rfl⟩;have HR:=zH hR.symm;have HR2:=zH hR2.symm;have hrr:r = (decide (0 <= R) && decide (R2 <= 0)):=by rw [<- hr.out,hR,hR2];rfl
 have HRR:=zH hrr;clear hx hR hR2 hrr hr;by_cases h0 : 0 <= R
 ·go_enter Tryz.func85,Tryz.ntmps85;go_wp2_with fail;rw [<- hW0];clear hW0;have g0:decide (0 <= R) = true:=decide_eq_true h0;refine Jk (S:=fun w'=>w'.cell? ⟨w.heap.size,0,none⟩ = some (.bool x.neg) /\ w'.cell? ⟨w.heap.size,1,none⟩ = some (.slice x.A x.N.length x.c) /\ w'.cell? ⟨w.heap.size,2,none⟩ = some (.slice x.B x.D.length x.d) /\ Hid (Fb w' w.heap.size x) /\ Hid (Below w.heap.size w w') /\ Hid (Fv w' x q)) 10 rfl (by kernel_rfl) ⟨c0,c1,c2,zH HX0.out,zH HB0.out.drew,zH (HV0.out.below bR.drew)⟩ (fun hd=>?_)
  ((refine Jb (v:=?_) rfl (by kernel_rfl) (fun _ _ _ h=>h) ⟨by rfl,?_⟩ hd ?_;rotate_left;· intro w' sw;obtain ⟨hS1,hS2,hS3,-,-,-⟩:=sw;go_simp;try with_reducible rfl);simp only [zA,zB,zC])
  refine Jh 1 rfl (by kernel_rfl) rfl (fun K hK=>?_);go_simp;refine (Vh x q _ hd.2.2.2.2.2.out (by exact ⟨tR fx.n (by decide),tR fx.d (by decide)⟩) R HR).mono ?_;rintro e u1 ⟨rfl,hb1⟩;go_simp;refine hK _ _ (by have h9:=hd.2.2.2.1.out.below hb1;have h8:=h9.facts;exact ⟨h8.1,h8.2.1,h8.2.2.1,zH h9,zH (hd.2.2.2.2.1.out.trans (hb1.mono hd.2.2.2.2.1.out.size)),zH (hd.2.2.2.2.2.out.below hb1)⟩) (fun hd=>?_);clear hK K;iterate 3 (((refine Jb (v:=?_) rfl (by kernel_rfl) (fun _ _ _ h=>h) ⟨by rfl,?_⟩ hd ?_;rotate_left;· intro w' sw;obtain ⟨hS1,hS2,hS3,-,-,-⟩:=sw;go_simp;try with_reducible rfl);simp only [zA,zB,zC]))
  refine JR 5 rfl (by kernel_rfl) (by rfl) (fun K hK=>?_);go_simp;refine (Zo 1 _ (by omega) (by omega)).mono ?_;rintro e u2 ⟨y,rfl,hy,hb2⟩;have HY:=zH hy;go_simp;refine hK _ _ (by have h9:=hd.2.2.2.1.out.below hb2;have h8:=h9.facts;exact ⟨h8.1,h8.2.1,h8.2.2.1,zH h9,zH (hd.2.2.2.2.1.out.trans (hb2.mono hd.2.2.2.2.1.out.size)),zH (hd.2.2.2.2.2.out.below hb2)⟩) (fun hd=>?_);clear hK K;refine JR 6 rfl (by kernel_rfl) (by rfl) (fun K hK=>?_);go_simp;refine (XJ x y q ((1:Int):Rat) _ hd.2.2.2.2.2.out HY.out.fv fx (HY.out.few ((Sz.i64 (z:=1) (by omega) (by omega)).mono (by decide))) R2 HR2).mono ?_;rintro e u3 ⟨rfl,hb3⟩;go_simp;refine hK _ _ (by have h9:=hd.2.2.2.1.out.below hb3;have h8:=h9.facts;exact ⟨h8.1,h8.2.1,h8.2.2.1,zH h9,zH (hd.2.2.2.2.1.out.trans (hb3.mono hd.2.2.2.2.1.out.size)),zH (hd.2.2.2.2.2.out.below hb3)⟩) (fun hd=>?_);clear hK K;iterate 3 (((refine Jb (v:=?_) rfl (by kernel_rfl) (fun _ _ _ h=>h) ⟨by rfl,?_⟩ hd ?_;rotate_left;· intro w' sw;obtain ⟨hS1,hS2,hS3,-,-,-⟩:=sw;go_simp;try with_reducible rfl);simp only [zA,zB,zC]))
  refine wpAnyH_done (by kernel_rfl) ?_ _;go_wp2_with fail;go_ret;exact ⟨by rw [HRR.out,decide_eq_true h0];rfl,hd.2.2.2.2.1.out⟩
 ·have HN:=zH h0;have g0:decide (0 <= R) = false:=dF h0;go_enter Tryz.func85,Tryz.ntmps85;go_wp2_with fail;rw [<- hW0];clear hW0;refine Jk (S:=fun w'=>w'.cell? ⟨w.heap.size,0,none⟩ = some (.bool x.neg) /\ w'.cell? ⟨w.heap.size,1,none⟩ = some (.slice x.A x.N.length x.c) /\ w'.cell? ⟨w.heap.size,2,none⟩ = some (.slice x.B x.D.length x.d) /\ Hid (Fb w' w.heap.size x) /\ Hid (Below w.heap.size w w') /\ Hid (Fv w' x q)) 10 rfl (by kernel_rfl) ⟨c0,c1,c2,zH HX0.out,zH HB0.out.drew,zH (HV0.out.below bR.drew)⟩ (fun hd=>?_)
  ((refine Jb (v:=?_) rfl (by kernel_rfl) (fun _ _ _ h=>h) ⟨by rfl,?_⟩ hd ?_;rotate_left;· intro w' sw;obtain ⟨hS1,hS2,hS3,-,-,-⟩:=sw;go_simp;try with_reducible rfl);simp only [zA,zB,zC])
  refine Jh 1 rfl (by kernel_rfl) rfl (fun K hK=>?_);go_simp;refine (Vh x q _ hd.2.2.2.2.2.out (by exact ⟨tR fx.n (by decide),tR fx.d (by decide)⟩) R HR).mono ?_;rintro e u1 ⟨rfl,hb1⟩;go_simp;refine hK _ _ (by have h9:=hd.2.2.2.1.out.below hb1;have h8:=h9.facts;exact ⟨h8.1,h8.2.1,h8.2.2.1,zH h9,zH (hd.2.2.2.2.1.out.trans (hb1.mono hd.2.2.2.2.1.out.size)),zH (hd.2.2.2.2.2.out.below hb1)⟩) (fun hd=>?_);clear hK K;iterate 8 (first | ((refine Jb (v:=?_) rfl (by kernel_rfl) (fun _ _ _ h=>h) ⟨by rfl,?_⟩ hd ?_;rotate_left;· intro w' sw;obtain ⟨hS1,hS2,hS3,-,-,-⟩:=sw;go_simp;try with_reducible rfl);simp only [zA,zB,zC]) | (refine Xy rfl (by kernel_rfl) (fun _ _ _ h=>h) (by rfl) hd ?_;simp only [zA,zB,zC]))
  refine wpAnyH_done (by kernel_rfl) ?_ _;go_wp2_with fail;go_ret;exact ⟨by rw [HRR.out,dF (Int.not_le.2 HN.out)];rfl,hd.2.2.2.2.1.out⟩
end Go.Proofs.YtcjicjfbippmnaaGreat
namespace Ear
def Zf (s:ByteArray) (k:Nat):Int:=(s.data[k]?.getD 0).toNat
def Ug (s:ByteArray) (k:Nat):Bool:=(List.range k).all fun i=>decide (33 <= Zf s i) && decide (Zf s i <= 126)
def Zk (s:ByteArray):Bool:=Ug s s.size && decide (1 <= s.size) && decide (s.size <= 40)
theorem ZbT (s:ByteArray) (k:Nat):Ug s (k + 1) = (Ug s k && (decide (33 <= Zf s k) && decide (Zf s k <= 126))):=by
 unfold Ug;rw [List.range_succ,List.all_append];simp
theorem Zel {s:ByteArray} {k:Nat} (hk:k < s.size) (h:¬ (33 <= Zf s k /\ Zf s k <= 126)):Zk s = false:=by
 have h1:Ug s s.size = false:=by
  unfold Ug;rw [List.all_eq_false];refine ⟨k,List.mem_range.2 hk,?_⟩;simp only [Bool.and_eq_true,decide_eq_true_eq];exact h
 unfold Zk;rw [h1];rfl
end Ear
namespace Go.Proofs.YtcjicjfbippmnaaGreat
open Go.RowKit Ear

theorem ZdK (s:ByteArray) {k:Nat} (hk:k < s.size) (W:World):(Instr.index 9 (.string s) (.int .i64 (k:Int))).run Tryz.prog W = .ok (.int .u8 (Zf s k)) W:=by
 rw [run_index_string (P:=Tryz.prog) (h:=Tryz.underlying9),dif_pos ⟨by omega,by omega⟩];congr 2;unfold Zf;have:k < s.data.size:=hk;rw [Array.getElem?_eq_getElem this];rfl
theorem ZfW (s:ByteArray) (k:Nat) : 0 <= Zf s k /\ Zf s k <= 255:=by
 unfold Zf;have:=(s.data[k]?.getD 0).toNat_lt;omega
theorem ZcH (s:ByteArray) (w:World) (hs:s.size <= 1000000) (r:Bool) (hr:Hid (Zk s = r)):Calls Tryz.prog 137 #[.string s] w fun e w'=>e = .returned (.bool r) /\ w' = w:=by
 go_enter Tryz.func137,Tryz.ntmps137;go_wp2_with fail;go_loopw [6] (fun i wr=>∃ k:Nat,k <= s.size /\ i = .int .i64 k /\ Hid (Ug s k = true) /\ wr = w) (fun i _=>s.size - (intOf i).toNat)
 case atStart=>exact ⟨0,by omega,rfl,zH rfl,rfl⟩
 case round=>
  obtain ⟨k,hk,rfl,HT,rfl⟩:=hrel;by_cases hlt:k < s.size
  ·have hix:=fun W=>ZdK s hlt W;have hbd:=ZfW s k;have HBAD:=zH (Zel hlt);have HSC:=zH (ZbT s k);generalize Zf s k = z at *
   have hlt':(k:Int) < (s.size:Int):=(by omega);by_cases h1:z < 33
   ·have HF:Hid (r = false):=zH (by rw [<- hr.out];exact HBAD.out (by omega));clear HBAD;go_wp2_with fail;go_ret;exact ⟨by rw [HF.out];rfl,rfl⟩
   ·by_cases h2 : 126 < z
    ·have HF:Hid (r = false):=zH (by rw [<- hr.out];exact HBAD.out (by omega));clear HBAD;go_wp2_with fail;go_ret;exact ⟨by rw [HF.out];rfl,rfl⟩
    ·have HN:Hid (Ug s (k + 1) = true):=zH (by rw [HSC.out,HT.out];simp;omega);clear HBAD HSC HT;go_wp2_with fail;exact ⟨⟨k + 1,by omega,by go_num,HN,trivial⟩,by simp [intOf];omega⟩
  ·have hkn:k = s.size:=by omega
   have hlt':¬ (k:Int) < (s.size:Int):=(by omega);have hrr:r = (decide (1 <= s.size) && decide (s.size <= 40)):=by
    rw [<- hr.out];unfold Zk;rw [<- hkn,HT.out];simp
   have HR:=zH hrr;clear hrr;by_cases h1 : 1 <= s.size
   ·by_cases h2:s.size <= 40
    ·have g1:(1:Int) <= (s.size:Int):=(by omega);have g2:(s.size:Int) <= 40:=(by omega);go_wp2_with fail;go_ret;exact ⟨by rw [HR.out];simp [h1,h2],rfl⟩
    ·have g1:(1:Int) <= (s.size:Int):=(by omega);have g2:¬ (s.size:Int) <= 40:=(by omega);go_wp2_with fail;go_ret;exact ⟨by rw [HR.out];simp [h1,h2],rfl⟩
   ·have g1:¬ (1:Int) <= (s.size:Int):=(by omega);go_wp2_with fail;go_ret;exact ⟨by rw [HR.out];simp [h1],rfl⟩
end Go.Proofs.YtcjicjfbippmnaaGreat
namespace Ear
open Go.Proofs.YtcjicjfbippmnaaGreat (Zq)
abbrev BA:=ByteArray
instance:DecidableEq BA:=fun a b=>decidable_of_iff (a.data = b.data) ⟨fun h=>by cases a;cases b;simp at h;rw [h],fun h=>by rw [h]⟩
instance (v:BA) (l:List BA):Decidable (v ∈ l):=@List.instDecidableMemOfLawfulBEq BA instBEqOfDecidableEq inferInstance v l
structure PSl where
 nm:BA
 vs:List BA
 le:Rat
 su:Rat
def Zgg:BA:=⟨#[121,101,115]⟩
def noB:BA:=⟨#[110,111]⟩
def XE (seen:List BA):List BA -> Option (List BA)
 | []=>some seen
 | v :: l=>if Zk v = true /\ v ∉ seen then XE (seen ++ [v]) l else none
def Zb4 (names:List BA) (s:PSl):Bool:=
 Zk s.nm && decide (s.nm ∉ names) && decide (s.nm ≠ Zgg) && decide (s.nm ≠ noB) && decide (1 <= s.vs.length) && decide (s.vs.length <= 50) && Zq s.le && Zq s.su && decide (¬ 0 < Yu (s.le + -s.su))
theorem QE {seen:List BA} {l:List BA} {j:Nat} {seen':List BA} (h:XE seen (l.take j) = some seen'):XE seen l = XE seen' (l.drop j):=by
 induction l generalizing seen j with
 | nil=>simp [XE] at h ⊢;rw [h]
 | cons v l ih=>
  cases j with
  | zero=>simp [XE] at h;rw [h];rfl
  | succ j=>
   simp only [List.take_succ_cons,List.drop_succ_cons] at h ⊢;have e:∀ r,XE seen (v :: r) = if Zk v = true /\ v ∉ seen then XE (seen ++ [v]) r else none:=fun _=>rfl;rw [e] at h ⊢;by_cases hc:Zk v = true /\ v ∉ seen
   ·rw [if_pos hc] at h ⊢;exact ih h
   ·rw [if_neg hc] at h;cases h
theorem Za9 {names:List BA} {s:PSl}:Zb4 names s = true ↔ Zk s.nm = true /\ s.nm ∉ names /\ s.nm ≠ Zgg /\ s.nm ≠ noB /\ 1 <= s.vs.length /\ s.vs.length <= 50 /\ Zq s.le = true /\ Zq s.su = true /\ ¬ 0 < Yu (s.le + -s.su):=by
 unfold Zb4;simp only [Bool.and_eq_true,decide_eq_true_eq];constructor
 ·rintro ⟨⟨⟨⟨⟨⟨⟨⟨h1,h2⟩,h3⟩,h4⟩,h5⟩,h6⟩,h7⟩,h8⟩,h9⟩;exact ⟨h1,h2,h3,h4,h5,h6,h7,h8,h9⟩
 ·rintro ⟨h1,h2,h3,h4,h5,h6,h7,h8,h9⟩;exact ⟨⟨⟨⟨⟨⟨⟨⟨h1,h2⟩,h3⟩,h4⟩,h5⟩,h6⟩,h7⟩,h8⟩,h9⟩
theorem XH {names:List BA} {s:PSl} (h:¬ (Zk s.nm = true /\ s.nm ∉ names /\ s.nm ≠ Zgg /\ s.nm ≠ noB /\ 1 <= s.vs.length /\ s.vs.length <= 50 /\ Zq s.le = true /\ Zq s.su = true /\ ¬ 0 < Yu (s.le + -s.su))):Zb4 names s = false:=Bool.eq_false_iff.2 fun h2=>h (Za9.1 h2)
theorem ZbV {seen:List BA} {l:List BA} {j:Nat} {seen':List BA} (h:XE seen (l.take j) = some seen') (hj:j < l.length):XE seen (l.take (j + 1)) = if Zk l[j] = true /\ l[j] ∉ seen' then some (seen' ++ [l[j]]) else none:=by
 have h1:=QE (l:=l.take (j + 1)) (j:=j) (by rw [List.take_take,Nat.min_eq_left (by omega)];exact h);rw [h1,List.drop_take,show j + 1 - j = 1 by omega,List.drop_eq_getElem_cons hj];rfl
theorem ZdB {seen:List BA} {l:List BA} {j:Nat} {seen':List BA} (h:XE seen (l.take j) = some seen') (hj:j < l.length) (hb:¬ (Zk l[j] = true /\ l[j] ∉ seen')):XE seen l = none:=by
 rw [QE h,List.drop_eq_getElem_cons hj];show (if _ then _ else none) = none;rw [if_neg hb]
def Zp (names values:List BA):List PSl -> Bool
 | []=>true
 | s :: l=>Zb4 names s && (match XE values s.vs with | none=>false | some v=>Zp (names ++ [s.nm]) v l)
def ZG (n:Nat) (pat prm need:Int):Prop:=1 <= n /\ n <= 20 /\ 0 <= pat /\ pat <= 100 /\ 0 <= prm /\ prm <= 10000 /\ 0 <= need /\ need <= prm
instance (n:Nat) (pat prm need:Int):Decidable (ZG n pat prm need):=by unfold ZG;infer_instance
def Zce (pat prm need:Int) (S:List PSl):Bool:=decide (ZG S.length pat prm need) && Zp [] [Zgg,noB] S
theorem Z3 (names values:List BA) (s:PSl) (l:List PSl):Zp names values (s :: l) = (Zb4 names s && (match XE values s.vs with | none=>false | some v=>Zp (names ++ [s.nm]) v l)):=rfl
theorem Xp {names values:List BA} {s:PSl} {l:List PSl} (h:Zb4 names s = false):Zp names values (s :: l) = false:=by rw [Z3,h];rfl
theorem UO {names values:List BA} {s:PSl} {l:List PSl} (h:XE values s.vs = none):Zp names values (s :: l) = false:=by rw [Z3,h];simp
theorem Zcd {names values v:List BA} {s:PSl} {l:List PSl} (h:Zb4 names s = true) (hv:XE values s.vs = some v):Zp names values (s :: l) = Zp (names ++ [s.nm]) v l:=by rw [Z3,h,hv];rfl
def setM (l:List BA):List (BA × Bool):=l.map fun x=>(x,true)
end Ear
namespace Go.Proofs.YtcjicjfbippmnaaGreat
open Go.RowKit Ear

structure SlM where
 nm:BA
 A:Option Addr
 c:Nat
 vs:List BA
 L:Fr
 S:Fr
def slc (s:SlM):List Value:=[.string s.nm,.slice s.A s.vs.length s.c,.bool s.L.neg,.slice s.L.A s.L.N.length s.L.c,.slice s.L.B s.L.D.length s.L.d,.bool s.S.neg,.slice s.S.A s.S.N.length s.S.c,.slice s.S.B s.S.D.length s.S.d]
abbrev sbs (l:List BA):List Value:=l.map Value.string
structure SlOk (w:World) (s:SlM) (p:PSl):Prop where
 nm:s.nm = p.nm
 vs:s.vs = p.vs
 lies:Lies w s.A (sbs s.vs)
 nil:s.A = none -> s.c = 0
 L:Fv w s.L p.le
 S:Fv w s.S p.su
 fL:Few s.L 90000
 fS:Few s.S 90000
theorem SlOk.below {w w':World} {s:SlM} {p:PSl} (h:SlOk w s p) (hb:Below w.heap.size w w'):SlOk w' s p:=⟨h.nm,h.vs,h.lies.below hb,h.nil,h.L.below hb,h.S.below hb,h.fL,h.fS⟩
def Uj (Ss:List SlM):List Value:=Ss.flatMap slc
theorem Yt (Ss:List SlM):(Uj Ss).length = Ss.length * 8:=by
 induction Ss with
 | nil=>rfl
 | cons x l ih=>simp only [Uj,List.flatMap_cons,List.length_append] at ih ⊢;rw [ih];simp [slc];omega
theorem Zae:∀ (Ss:List SlM) {k:Nat} (hk:k < Ss.length) (j:Nat),j < 8 -> (Uj Ss)[k * 8 + j]? = (slc Ss[k])[j]?
 | s :: l,0,_,j,hj=>by
  simp only [Uj,List.flatMap_cons,Nat.zero_mul,Nat.zero_add,List.getElem_cons_zero];exact List.getElem?_append_left (by simp [slc];exact hj)
 | s :: l,k + 1,hk,j,hj=>by
  have ih:=Zae l (k:=k) (by simpa using hk) j hj;simp only [Uj,List.flatMap_cons,List.getElem_cons_succ] at ih ⊢;rw [List.getElem?_append_right (by simp [slc];omega),<- ih];congr 1;simp [slc];omega
structure PlM (w:World) (A:Option Addr) (Ss:List SlM) (Ps:List PSl):Prop where
 lies:Lies w A (Uj Ss)
 len:Ss.length = Ps.length
 ok:∀ (k:Nat) (s:SlM) (p:PSl),Ss[k]? = some s -> Ps[k]? = some p -> SlOk w s p
theorem PlM.below {w w':World} {A:Option Addr} {Ss:List SlM} {Ps:List PSl} (h:PlM w A Ss Ps) (hb:Below w.heap.size w w'):PlM w' A Ss Ps:=⟨h.lies.below hb,h.len,fun k s p h1 h2=>(h.ok k s p h1 h2).below hb⟩
theorem PlM.at_ {w:World} {A:Option Addr} {Ss:List SlM} {Ps:List PSl} (h:PlM w A Ss Ps) {k:Nat} (hk:k < Ss.length):∃ b off,A = some ⟨b,off,none⟩ /\ b < w.heap.size /\ ∀ (j:Nat) (v:Value),(slc Ss[k])[j]? = some v -> w.cell? ⟨b,off + k * 8 + j,none⟩ = some v:=by
 obtain ⟨b,off,e,hb,hc⟩:=h.lies (by rw [Yt];omega);refine ⟨b,off,e,hb,fun j v hv=>?_⟩;rw [Nat.add_assoc];refine hc _ _ ?_;have hj:j < 8:=by have:=(List.getElem?_eq_some_iff.1 hv).1;simpa [slc] using this
 rw [Zae Ss hk j hj];exact hv
abbrev SM (w:World) (b:Nat) (l:List BA):Prop:=MapIs Tryz.prog 9 Value.string Value.bool w b (setM l)
theorem ZcR (l:List BA) (k:BA):JG (setM l) k = if k ∈ l then some true else none:=by
 induction l with
 | nil=>rfl
 | cons x l ih=>
  show (if x = k then some true else JG (setM l) k) = _;by_cases h:x = k
  ·subst h;simp
  ·rw [if_neg h,ih];by_cases h2:k ∈ l
   ·rw [if_pos h2,if_pos (List.mem_cons_of_mem _ h2)]
   ·rw [if_neg h2,if_neg (fun h3=>by rcases List.mem_cons.1 h3 with h4 | h4;exact h h4.symm;exact h2 h4)]
theorem Zgx {l:List BA} {k:BA} (h:k ∉ l):Yd (setM l) k true = setM (l ++ [k]):=by
 rw [Ux _ (by rw [ZcR,if_neg h])];simp [setM]
theorem Za7:Maps.Keyed Tryz.prog 9:=Maps.string_keyed Tryz.underlying9
theorem Zey:Inj Value.string:=fun a b h=>by injection h
theorem Zex {s:BA} (h:s.size <= maxLen):∃ l,keyOf Tryz.prog 9 (.string s) = some l:=⟨_,WideMaps.keyOf_string_mk (P:=Tryz.prog) Tryz.underlying9 h⟩
theorem toList_eq {s:BA} {l:List UInt8}:(s.toList == l) = decide (s = ⟨l.toArray⟩):=by
 rw [ByteArray.toList_eq];by_cases h:s = ⟨l.toArray⟩
 ·subst h;simp
 ·rw [dF h,beq_eq_false_iff_ne];intro e;apply h;cases s;simp only at e;subst e;simp
theorem SM.look {w:World} {b:Nat} {l:List BA} (h:SM w b l) (k:BA) (hk:k.size <= maxLen):(Instr.lookup 186 (.map (some b)) (.string k) false).run Tryz.prog w = .ok (.bool (decide (k ∈ l))) w:=by
 obtain ⟨kl,hkl⟩:=Zex hk;have:=MapIs.lookup (e:=4) (z:=.bool false) h Za7 Zey Tryz.underlying186 (by kernel_rfl) k hkl;rw [this,ZcR];by_cases hm:k ∈ l
 ·simp [hm]
 ·simp [hm]
theorem SM.put {w:World} {b:Nat} {l:List BA} (h:SM w b l) {k:BA} (hk:k.size <= maxLen) (hn:k ∉ l):∃ w',(Instr.mapUpdate 186 (.map (some b)) (.string k) (.bool true)).run Tryz.prog w = .ok () w' /\ SM w' b (l ++ [k]) /\ w.grownBy w' (some b):=by
 obtain ⟨kl,hkl⟩:=Zex hk;obtain ⟨w',h1,h2,h3⟩:=MapIs.update (e:=4) h Za7 Zey Tryz.underlying186 k true hkl;rw [Zgx hn] at h2;exact ⟨w',h1,h2,h3⟩
def AllC (p:Value -> Prop) (w:World) (g:Nat):Prop:=∃ cs e,w.heap[g]? = some (.cells cs e (0,0)) /\ ∀ u ∈ cs,p u
section
variable {p:Value -> Prop} {w w':World} {g:Nat}
theorem AllC.block (h:AllC p w g) (hb:w'.heap[g]? = w.heap[g]?):AllC p w' g:=by
 obtain ⟨cs,e,h1,h2⟩:=h;exact ⟨cs,e,hb.trans h1,h2⟩
theorem AllC.cell (h:AllC p w g) {off:Nat} {v:Value} (hv:w.cell? ⟨g,off,none⟩ = some v):p v:=by
 obtain ⟨cs,e,h1,h2⟩:=h;rw [cell_of_row w g off cs e _ h1] at hv;exact h2 v (Array.mem_of_getElem? hv)
theorem AllC.set (h:AllC p w g) (j:Nat) {v:Value} (hv:p v):AllC p (w.setCell ⟨g,j,none⟩ v) g:=by
 obtain ⟨cs,e,h1,h2⟩:=h;refine ⟨_,e,JM h1 j v,fun u hu=>?_⟩;rcases Array.mem_or_eq_of_mem_setIfInBounds hu with h | h
 ·exact h2 u h
 ·rw [h];exact hv
theorem AllC.setCells:∀ (vs:List Value) (o:Nat) (w:World),AllC p w g -> (∀ u ∈ vs,p u) -> AllC p (w.setCells g o vs) g
 | [],_,_,h,_=>h
 | v :: r,o,_,h,hv=>AllC.setCells r (o + 1) _ (h.set o (hv v (List.mem_cons_self ..))) (fun u hu=>hv u (List.mem_cons_of_mem _ hu))
end
theorem Zd7 {P:Program} {p:Value -> Prop} (w:World) (base:Nat) (t ty e:TypeId) (i:TypeInfo) (z:Value) (size bytes:Nat) (ht:P.underlying t = some (.slice e)) (hi:P.info? e = some i) (hz:i.zero = some z)
  (hsize:i.size = size) (hby:i.bytes = bytes) (hzs:z.cells.size = size) (hsz : 0 < size)
  (v:Value) (n:Nat) (xs:List Value) (hown:w.ownsRow base e size v n xs)
  (a:Addr) (m c:Nat) (news:List Value) (hl:news.length = m * size) (hnews:∀ j u,news[j]? = some u -> w.cell? (a.add j) = some u) (h1:∀ u ∈ news,u.oneCell' = true)
  (h63:n + m <= maxLen) (hbytes:(n + m) * bytes <= 140737488355328) (hm : 0 < m)
  (hp:∀ g,v.ownBlock = some g -> AllC p w g) (hzp:∀ u ∈ z.cells,p u) (hnp:∀ u ∈ news,p u) (hxp:∀ u ∈ xs,p u)
  {v':Value} {w':World} (hr:(Builtin.append_ #[t,t] ty #[v,.slice (some a) m c]).run P w = .ok v' w'):∀ g,v'.ownBlock = some g -> AllC p w' g:=by
 subst hsize;subst hby;have hsmall:n + m <= 9223372036854775807:=by simp only [maxLen] at h63;omega
 have zer:∀ k,∀ u ∈ Builtin.zeroCells z.cells k,p u:=fun k u hu=>by
  unfold Builtin.zeroCells at hu;obtain ⟨j,hj,rfl⟩:=Array.getElem_of_mem hu;simp only [Array.getElem_map,Array.getElem_range];have hlt:j % z.cells.size < z.cells.size:=Nat.mod_lt _ (by omega);rw [getElem!_pos z.cells _ hlt];exact hzp _ (Array.getElem_mem hlt)
 have news9:∀ (W:World) (k:Nat),∀ g,(Value.slice (some ⟨W.heap.size,0,none⟩) (n + m) k).ownBlock = some g -> AllC p (W.alloc (.cells (xs.toArray ++ news.toArray ++ Builtin.zeroCells z.cells (k - (n + m))) e)) g:=fun W k g hg=>by
  simp [Value.ownBlock] at hg;subst hg;refine ⟨_,_,heap_alloc_new W _,fun u hu=>?_⟩;simp only [Array.mem_append,List.mem_toArray] at hu;rcases hu with (hu | hu) | hu
  ·exact hxp u hu
  ·exact hnp u hu
  ·exact zer _ u hu
 rcases hown.2 with ⟨rfl,rfl⟩ | ⟨g,cap,cur,rfl,hbg,hg,hnc,hcm,hcs,htake⟩
 ·have hx:xs = []:=List.eq_nil_of_length_eq_zero (by simpa using hown.1);subst hx;have hr':=run_append_nil (P:=P) w t ty e i z ht hi hz a m c news hl hnews (by omega) (by omega) (by have hb:=hbytes;simp only [Nat.zero_add] at hb;omega);rw [hr] at hr';injection hr' with e1 e2
  subst e1 e2;have:=news9 w.drew (grownCap w m 0 e);simp only [Nat.zero_add,Array.empty_append] at this;exact this
 ·by_cases hroom:n + m <= cap
  ·have hfit:n * i.size + news.length <= cur.size:=by rw [hl,hcs,<- Nat.add_mul];exact Nat.mul_le_mul_right _ hroom
   have hr':=run_append_room_cells (P:=P) w t ty e i ht hi g 0 n cap a m c news hl hnews h1 hroom (fun j hj=>by
    rw [Nat.zero_add,cell_of_row w g _ cur e (0,0) hg,Array.getElem?_eq_getElem (by omega)];rfl) (fun j _=>by simp [World.frozen?,hg])
   rw [hr] at hr';injection hr' with e1 e2
   subst e1 e2;intro g' hg';simp [Value.ownBlock] at hg';subst hg';exact AllC.setCells _ _ _ (hp _ rfl) hnp
  ·have holds:∀ j u,xs[j]? = some u -> w.cell? ((⟨g,0,none⟩:Addr).add j) = some u:=hown.cells (g:=g) rfl;have hr':=run_append_grow (P:=P) w t ty e i z ht hi hz ⟨g,0,none⟩ n cap xs hown.1 holds a m c news hl hnews (by omega) (by omega) (growslice_fits (by omega) hbytes);rw [hr] at hr';injection hr' with e1 e2
   subst e1 e2;exact news9 w.drew (grownCap w (n + m) cap e)
theorem VL {P:Program} (w:World) {ops:Array Oper} {rest:List Oper} {o:Oper} {a:Act} {Q:Exit -> Act -> World -> Prop} (hgd:o.guard = none) (s x:Operand) (t:TypeId)
  (ho:o.op = .call { callee:=.builtin .append,args:=#[s,x],argTypes:=#[t,t] }) (v xv:Value) (hs:a.eval s = v) (hx:a.eval x = xv) {v':Value} {w':World} (hr:(Builtin.append_ #[t,t] o.type #[v,xv]).run P w = .ok v' w')
  (h:wpList P ops Q rest (a.put o.dst v') w'):wpList P ops Q (o :: rest) a w:=
 wpList_plain hgd fun _ hK=>by
  unfold Oper.wp execOp;simp only [ho,resolve,invoke,builtin,Sem.run_bind,Sem.run_pure,Result.andThen_ok,List.map_toArray,List.map_cons,List.map_nil,hs,hx,hr];exact hK _ _ h
end Go.Proofs.YtcjicjfbippmnaaGreat
namespace Go.Proofs.YtcjicjfbippmnaaGreat
open Go.RowKit Ear
theorem QK (x:Fr) (q:Rat) (w:World) (hx:Fv w x q) (fx:Few x 90000):Calls Tryz.prog 77 #[x.val] w (ZA q w):=by
 obtain ⟨W,hW⟩:∃ W:World,W = (w.alloc (.cells #[.bool x.neg,.slice x.A x.N.length x.c,.slice x.B x.D.length x.d] 28)).alloc (.cells #[.bool false,.slice none 0 0,.slice none 0 0] 28):=⟨_,rfl⟩;have HB0:Hid (Below w.heap.size w W):=zH (by rw [hW];exact al2 w _ _);have HXB:Hid (Fb W w.heap.size x):=zH (by rw [hW];exact (Fb.new w x).below (bR.alloc nR _));have HBX:Hid (Bt 28 W (w.heap.size + 1)):=zH (by rw [hW];have:=Bt.new 28 (w.alloc (.cells #[.bool x.neg,.slice x.A x.N.length x.c,.slice x.B x.D.length x.d] 28));simpa using this);have C1:=zH (XY x q W (hx.below HB0.out) ⟨tR fx.n (by decide),tR fx.d (by decide)⟩);have SQ:=zH ((hx.sz fx (by decide)).mono (show 90000 <= 900000 by decide));have C3:=zH (fun (r:Fr) (u:World) (hr:Nm u r q)=>Zi r q u hr SQ.out);obtain ⟨c0,c1,c2,-,-,-⟩:=HXB.out.facts;clear hx;go_enter Tryz.func77,Tryz.ntmps77;go_wp2_with fail;rw [<- hW];clear hW;go_wp2_with fail;refine C1.out.mono ?_;rintro e w2 ⟨r,rfl,hr,hb2⟩;have R2:=zH hr;have B2:=zH hb2;clear hr hb2 c0 c1 c2;go_wp2_with fail;refine (C3.out r w2 R2.out).mono ?_;rintro e w3 ⟨f,rfl,hf,hb3⟩;have R3:=zH hf;have B3:=zH (B2.out.trans (hb3.mono B2.out.size));have X3:=zH (HBX.out.below B3.out);have BW:=zH (HB0.out.trans (B3.out.mono HB0.out.size));clear hf hb3 B2 B3 R2 C1 C3 HBX HB0;obtain ⟨k0,k1,k2,f0,f1,f2⟩:=X3.out.facts;obtain ⟨rn,rA,rc,rN,rB,rd,rD⟩:=f;go_wp2_with fail;obtain ⟨g0,g1,g2⟩:=Z7 (.bool rn) (.slice rA rN.length rc) (.slice rB rD.length rd) k0 k1 k2;refine bodyPost_ret (v:=.agg #[.bool rn,.slice rA rN.length rc,.slice rB rD.length rd]) (by simp [results,Tryz.results77,go_sem,g0,g1,g2]) rfl ?_;exact ⟨⟨rn,rA,rc,rN,rB,rd,rD⟩,rfl,J2 R3.out X3.out _ _ _,Ji BW.out (Nat.le_succ _) _ _ _⟩
end Go.Proofs.YtcjicjfbippmnaaGreat
namespace Ear
structure PFl where
 st:Int
 val:BA
 ref:List BA
structure PDl where
 pat:Int
 prm:Int
 need:Int
 S:List PSl
 F:List PFl
 stand:Int
 bad:Int
 cuts:Int
 prompt:Int
 last:Int
end Ear
namespace Go.Proofs.YtcjicjfbippmnaaGreat
open Go.RowKit Ear

def UV (v:Value):Prop:=∀ n,v ≠ .int .u32 n
def KU (w w':World):Prop:=∀ A l,Lies w A (ucs l) -> Lies w' A (ucs l)
theorem KU.trans {a b c:World} (h:KU a b) (k:KU b c):KU a c:=fun A l x=>k A l (h A l x)
theorem KU.below {w w':World} (hb:Below w.heap.size w w'):KU w w':=fun _ _ h=>h.below hb
theorem KU.set {w:World} {a:Addr} {v0:Value} (h0:w.cell? a = some v0) (hn:UV v0) (u:Value):KU w (w.setCell a u):=fun A l h hl=>by
 obtain ⟨b,off,e,hb,hc⟩:=h hl;refine ⟨b,off,e,by simpa [World.setCell] using hb,fun k x hx=>?_⟩;rw [World.cell?_setCell_other _ _ _ _ ?_]
 ·exact hc k x hx
 ·rintro rfl;rw [hc k x hx] at h0;injection h0 with h0
  subst h0;simp only [List.getElem?_map] at hx;cases hq:l[k]? with
  | none=>rw [hq] at hx;cases hx
  | some y=>rw [hq] at hx;injection hx with hx;exact hn y hx.symm
theorem KU.sets {g:Nat}:∀ (vs:List Value) (o:Nat) (w:World),(∀ j,j < vs.length -> ∃ v0,w.cell? ⟨g,o + j,none⟩ = some v0 /\ UV v0) -> KU w (w.setCells g o vs)
 | [],_,_,_=>fun _ _ h=>h
 | v :: r,o,w,h=>by
  obtain ⟨v0,h0,hn⟩:=h 0 (by simp);refine (KU.set (a:=⟨g,o,none⟩) (by simpa using h0) hn v).trans (KU.sets r (o + 1) _ fun j hj=>?_);obtain ⟨v1,h1,hn1⟩:=h (j + 1) (by simpa using hj);exact ⟨v1,by rw [World.cell?_setCell_other _ _ _ _ (by intro h;injection h with _ h;omega),show o + 1 + j = o + (j + 1) by omega];exact h1,hn1⟩
theorem KU.all {w w':World} {g:Nat} (ha:AllC UV w g) (hg:w.grownBy w' (some g)):KU w w':=fun A l h hl=>by
 obtain ⟨b,off,e,hb,hc⟩:=h hl;have hne:b ≠ g:=by
  rintro rfl;have hl' : 0 < l.length:=by simpa using hl
  have:=hc 0 (.int .u32 l[0]) (by simp [gE hl']);exact (ha.cell this) _ rfl
 exact ⟨b,off,e,Nat.lt_of_lt_of_le hb hg.size,fun k x hx=>(World.cell?_of_block (a:=⟨b,off + k,none⟩) (hg.block b hb (by intro e;injection e with e;exact hne e))).trans (hc k x hx)⟩
theorem Dg.ku {w w':World} {A:Option Addr} {c:Nat} {l:List Int} (h:Dg w A c l) (k:KU w w'):Dg w' A c l:=⟨k A l h.lies,h.dig,h.cap,h.nil⟩
theorem Fq.ku {w w':World} {x:Fr} {q:Rat} (h:Fq w x q) (k:KU w w'):Fq w' x q:=⟨⟨h.ok.n.ku k,h.ok.d.ku k⟩,h.neg,h.num,h.dn⟩
structure FlM where
 st:Int
 val:BA
 A:Option Addr
 c:Nat
 ref:List BA
def FlM.pure (f:FlM):PFl:=⟨f.st,f.val,f.ref⟩
def flc (f:FlM):List Value:=[.int .i64 f.st,.string f.val,.slice f.A f.ref.length f.c]
def Yg (Fs:List FlM):List Value:=Fs.flatMap flc
theorem Yz (Fs:List FlM):(Yg Fs).length = Fs.length * 3:=by
 induction Fs with
 | nil=>rfl
 | cons x l ih=>simp only [Yg,List.flatMap_cons,List.length_append] at ih ⊢;rw [ih];simp [flc];omega
theorem Zct (a b:List FlM):Yg (a ++ b) = Yg a ++ Yg b:=by simp [Yg]
theorem Vy:∀ (Fs:List FlM) {k:Nat} (hk:k < Fs.length) (j:Nat),j < 3 -> (Yg Fs)[k * 3 + j]? = (flc Fs[k])[j]?
 | s :: l,0,_,j,hj=>by
  simp only [Yg,List.flatMap_cons,Nat.zero_mul,Nat.zero_add,List.getElem_cons_zero];exact List.getElem?_append_left (by simp [flc];exact hj)
 | s :: l,k + 1,hk,j,hj=>by
  have ih:=Vy l (k:=k) (by simpa using hk) j hj;simp only [Yg,List.flatMap_cons,List.getElem_cons_succ] at ih ⊢;rw [List.getElem?_append_right (by simp [flc];omega),<- ih];congr 1;simp [flc];omega
theorem Lies.same {w w':World} {A:Option Addr} {xs:List Value} (h:Lies w A xs) (hs:w.heap.size <= w'.heap.size) (hk:∀ b off,A = some ⟨b,off,none⟩ -> 0 < xs.length -> b < w.heap.size -> (∀ k v,xs[k]? = some v -> w.cell? ⟨b,off + k,none⟩ = some v) -> w'.heap[b]? = w.heap[b]?):Lies w' A xs:=fun hl=>by
 obtain ⟨b,off,e,hb,hc⟩:=h hl;have hbl:=hk b off e hl hb hc;exact ⟨b,off,e,Nat.lt_of_lt_of_le hb hs,fun k v hv=>(World.cell?_of_block (a:=⟨b,off + k,none⟩) hbl).trans (hc k v hv)⟩
theorem Zdg {w:World} {b off g:Nat} {l:List Int} (hl : 0 < (ucs l).length) (hc:∀ k v,(ucs l)[k]? = some v -> w.cell? ⟨b,off + k,none⟩ = some v) (ha:AllC UV w g):b ≠ g:=by
 rintro rfl;have hl' : 0 < l.length:=by simpa using hl
 have:=hc 0 (.int .u32 l[0]) (by simp [gE hl']);exact (ha.cell this) _ rfl
theorem Uk {α:Type} {R : α -> α -> Prop} {x : α} (h:R x x):∀ n,(List.replicate n x).Pairwise R
 | 0=>.nil
 | n + 1=>by
  rw [List.replicate_succ,List.pairwise_cons];exact ⟨fun y hy=>by rw [List.eq_of_mem_replicate hy];exact h,Uk h n⟩
structure DlA where
 q:Nat
 gF:Nat
 PA:Option Addr
 pc:Nat
 Ss:List SlM
 fc:Nat
 Fm:List FlM
def dlc (a:DlA) (D:PDl):Array Value:=#[.slice a.PA a.Ss.length a.pc,.int .i64 D.pat,.int .i64 D.prm,.int .i64 D.need,.slice (some ⟨a.gF,0,none⟩) a.Fm.length a.fc,.int .i64 D.stand,.int .i64 D.bad,.int .i64 D.cuts,.int .i64 D.prompt,.int .i64 D.last]
structure DlM (w:World) (bs:Nat) (a:DlA) (D:PDl):Prop where
 cell:w.heap[a.q]? = some (.cells (dlc a D) 133 (0,0))
 stab:∀ w':World,w.heap.size <= w'.heap.size -> (∀ b,b < bs -> b ≠ a.q -> b ≠ a.gF -> w'.heap[b]? = w.heap[b]?) -> PlM w' a.PA a.Ss D.S
 row:w.ownsRow 0 76 3 (.slice (some ⟨a.gF,0,none⟩) a.Fm.length a.fc) a.Fm.length (Yg a.Fm)
 ref:∀ f ∈ a.Fm,w.ownsRow bs 9 1 (.slice f.A f.ref.length f.c) f.ref.length (sbs f.ref)
 apart:a.Fm.Pairwise fun x y=>∀ k,blk x.A = some k -> blk y.A ≠ some k
 pure:a.Fm.map FlM.pure = D.F
 len:a.Fm.length = a.Ss.length
 pos : 0 < a.Fm.length
 lt:a.q < bs /\ a.gF < bs /\ bs <= w.heap.size
theorem DlM.below {w w':World} {bs:Nat} {a:DlA} {D:PDl} (h:DlM w bs a D) (hb:Below w.heap.size w w'):DlM w' bs a D:=
 ⟨(hb.block _ (aE h.cell).1).trans h.cell,fun w2 hs hk=>h.stab w2 (tR hb.size hs) (fun b h1 h2 h3=>(hk b h1 h2 h3).trans (hb.block b (Nat.lt_of_lt_of_le h1 h.lt.2.2))),
  Jg h.row hb,fun f hf=>Jg (h.ref f hf) hb,h.apart,h.pure,h.len,h.pos,h.lt.1,h.lt.2.1,tR h.lt.2.2 hb.size⟩
theorem DlM.plan {w:World} {bs:Nat} {a:DlA} {D:PDl} (h:DlM w bs a D):PlM w a.PA a.Ss D.S:=h.stab w nR (fun _ _ _ _=>rfl)
end Go.Proofs.YtcjicjfbippmnaaGreat
