/- TopLearned -/
import Derived.Test.YtlgdlenoohkipaaGreatMTearn24
set_option maxRecDepth 100000
set_option maxHeartbeats 32000000
namespace Go.Proofs.YtlgdlenoohkipaaGreat
open Go.RowKit Ear

def J3:Tbl -> K4 -> Int
 | [],_=>0
 | g :: l,k=>(if kOf g.1 = k then g.2 else 0) + J3 l k
theorem Ut {a b:Tbl} (h:a.Perm b) (k:K4):J3 a k = J3 b k:=by
 induction h with
 | nil=>rfl
 | cons x _ ih=>simp only [J3,ih]
 | swap x y l=>simp only [J3];omega
 | trans _ _ h1 h2=>exact h1.trans h2
theorem ZaM {l:Tbl} {k:K4} (h:∀ g ∈ l,kOf g.1 ≠ k):J3 l k = 0:=by
 induction l with
 | nil=>rfl
 | cons g l ih=>
  simp only [J3];rw [if_neg (h g (by simp)),ih fun x hx=>h x (by simp [hx])];rfl
theorem ZhB {l:Tbl} (h:∀ g ∈ l,0 <= g.2) (k:K4) : 0 <= J3 l k:=by
 induction l with
 | nil=>simp [J3]
 | cons g l ih=>
  have h1:=ih fun x hx=>h x (by simp [hx]);have h2:=h g (by simp);simp only [J3];split <;> omega
theorem ZbW:∀ (l:Tbl) (m:List (K4 × Int)) (k:K4),(JB (mrg m l) k).getD 0 = (JB m k).getD 0 + J3 l k
 | [],m,k=>by simp [mrg,J3]
 | g :: l,m,k=>by
  show (JB (mrg (Xr m (kOf g.1) _) l) k).getD 0 = _;rw [ZbW l _ k];simp only [J3];by_cases h:kOf g.1 = k
  ·subst h;rw [JJ,if_pos rfl];simp only [Option.getD_some];omega
  ·rw [JP _ _ (fun e=>h e.symm),if_neg h];omega
theorem QU {o:Nat} {v:Int} (ho:o <= 4):∀ (m:List (K4 × Int)),FromG o v m -> (m.map (·.1)).Nodup -> ∀ k,J3 (m.map fun p=>(gmW o p.1,p.2)) k = (JB m k).getD 0
 | [],_,_,k=>by simp [J3,JB]
 | p :: m,hf,hn,k=>by
  obtain ⟨_,g,h1,h2,_⟩:=hf p (by simp);have hk:kOf (gmW o p.1) = p.1:=by rw [h2,Yj h1 ho]
  simp only [List.map_cons,List.nodup_cons] at hn;have ih:=QU ho m (fun q hq=>hf q (by simp [hq])) hn.2 k;simp only [List.map_cons,J3,JB,hk,ih];by_cases h:p.1 = k
  ·rw [if_pos h,if_pos h];have:JB m k = none:=XS.2 fun q hq e=>hn.1 (by rw [h,<- e];exact List.mem_map_of_mem (f:=fun x:K4 × Int=>x.1) hq);rw [this];simp
  ·rw [if_neg h,if_neg h];omega
theorem UM {a b:List Int} {o:Nat} (ho:o <= 4) (ha:a.length = o) (hb:b.length = o) (h:kOf a = kOf b):a = b:=by
 rw [<- Yj ha ho,h,Yj hb ho]
theorem VB {o v:Int} {l:Tbl} (h:Xz o v l = 0):l.Pairwise fun x y=>J8 x.1 y.1 < 0:=by
 obtain ⟨_,_,h3⟩:=JK.1 h;have step:∀ k,(hk:k + 1 < l.length) -> J8 l[k].1 l[k + 1].1 < 0:=fun k hk=>by
  have hr:=List.all_eq_true.1 h3 (k + 1) (List.mem_range.2 hk);unfold Xs at hr;rw [JZ hk] at hr;simp only [Bool.and_eq_true,Bool.or_eq_true,beq_iff_eq,decide_eq_true_eq,Nat.add_sub_cancel] at hr;rw [JZ (by omega)] at hr;rcases hr.2 with h | h
  ·omega
  ·exact h
 rw [List.pairwise_iff_getElem];intro i j hi hj hij;obtain ⟨d,rfl⟩:∃ d,j = i + 1 + d:=⟨j - (i + 1),by omega⟩;clear hij
 induction d with
 | zero=>exact step i hj
 | succ d ih=>exact XH (ih (by omega)) (step (i + 1 + d) hj)
theorem Zd9 {o:Nat} (ho:o <= 4):∀ (a b:Tbl),a.Pairwise (fun x y=>J8 x.1 y.1 < 0) -> b.Pairwise (fun x y=>J8 x.1 y.1 < 0) -> (∀ g ∈ a,g.1.length = o /\ 1 <= g.2) -> (∀ g ∈ b,g.1.length = o /\ 1 <= g.2) -> (∀ k,J3 a k = J3 b k) -> a = b:=by
 have pos:∀ (g:List Int × Int) (l:Tbl),(∀ x ∈ g :: l,x.1.length = o /\ 1 <= x.2) -> 1 <= J3 (g :: l) (kOf g.1):=fun g l h=>by
  have h1:=ZhB (l:=l) (fun x hx=>by have:=(h x (by simp [hx])).2;omega) (kOf g.1);have h2:=(h g (by simp)).2;simp only [J3];rw [if_pos trivial];omega
 have far:∀ (g:List Int × Int) (l:Tbl),g.1.length = o -> (∀ x ∈ l,x.1.length = o /\ 1 <= x.2) -> (∀ x ∈ l,J8 g.1 x.1 < 0) -> J3 l (kOf g.1) = 0:=fun g l h0 h h2=>ZaM fun x hx e=>by
  have e1:=UM ho (h x hx).1 h0 e;have h3:=h2 x hx;rw [e1,XU.2 rfl] at h3;omega
 intro a
 induction a with
 | nil=>
  intro b _ _ _ hb hk;cases b with
  | nil=>rfl
  | cons g l=>have h1:=pos g l hb;rw [<- hk] at h1;simp [J3] at h1
 | cons g l ih=>
  intro b pa pb ha hb hk;cases b with
  | nil=>have h1:=pos g l ha;rw [hk] at h1;simp [J3] at h1
  | cons g' l'=>
   simp only [List.pairwise_cons] at pa pb;have hg:=(ha g (by simp)).1;have hg':=(hb g' (by simp)).1;have n1:¬ J8 g.1 g'.1 < 0:=fun hlt=>by
    have h1:=pos g l ha;rw [hk,far g (g' :: l') hg hb (fun x hx=>by
     rcases List.mem_cons.1 hx with rfl | hx
     ·exact hlt
     ·exact XH hlt (pb.1 x hx))] at h1
    omega
   have n2:¬ J8 g'.1 g.1 < 0:=fun hlt=>by
    have h1:=pos g' l' hb;rw [<- hk,far g' (g :: l) hg' ha (fun x hx=>by
     rcases List.mem_cons.1 hx with rfl | hx
     ·exact hlt
     ·exact XH hlt (pa.1 x hx))] at h1
    omega
   have e1:g.1 = g'.1:=XU.1 (by have:=Vt g.1 g'.1;omega);have z1:=far g l hg (fun x hx=>ha x (by simp [hx])) pa.1;have z2:=far g' l' hg' (fun x hx=>hb x (by simp [hx])) pb.1;have e2:g.2 = g'.2:=by
    have h1:=hk (kOf g.1);simp only [J3] at h1;rw [if_pos trivial,if_pos (by rw [e1]),z1,e1,z2] at h1;omega
   have e3:g = g':=Prod.ext e1 e2;subst e3;rw [ih l' pa.2 pb.2 (fun x hx=>ha x (by simp [hx])) (fun x hx=>hb x (by simp [hx])) fun k=>by
    have h1:=hk k;simp only [J3] at h1;omega]
theorem ZiI {o:Nat} {v v':Int} {a b:Tbl} (ha:Xz o v a = 0) (hb:Xz o v' b = 0) (h:∀ k,J3 a k = J3 b k):a = b:=by
 have ho:(o:Int) <= 4:=(Jx.1 (JK.1 ha).2.1).2.1;refine Zd9 (o:=o) (by omega) a b (VB ha) (VB hb) (fun g hg=>?_) (fun g hg=>?_) h
 ·have:=XY ha g hg;exact ⟨by omega,by omega⟩
 ·have:=XY hb g hg;exact ⟨by omega,by omega⟩
def Zjk (o:Nat) (s:List Int) (n:Int) (k:K4):Int:=J3 ((XV o s (s.length + 1)).map fun q=>(gmW o q.1,q.2 * n)) k
theorem Zfy {o:Nat} {v n:Int} {s:List Int} {T T1 T2:Tbl} (hz:Xv o v = true) (ha:XI 1 v s = true) (hn : 1 <= n) (hT:Xz o v T = 0) (h1:T1.Perm ((XV o s (s.length + 1)).map fun q=>(gmW o q.1,q.2 * n)))
  (h2:T2.Perm ((mrg (mrg [] T) T1).map fun q=>(gmW o q.1,q.2))) (k:K4):J3 T2 k = J3 T k + Zjk o s n k:=by
 have hzz:=Jx.1 hz;have hf:=Ze (o:=o) (by omega) (by omega) ha (s.length + 1) nR;have hrow:∀ g ∈ T1,g.1.length = o /\ XI 0 v g.1 = true /\ 1 <= g.2:=fun g hg=>by
  obtain ⟨q,hq,rfl⟩:=List.mem_map.1 (h1.mem_iff.1 hg);obtain ⟨q1,x,q2,q3,q4⟩:=hf q hq;rw [q3,Yj q2 (by omega)];refine ⟨q2,q4,?_⟩;have:=Int.mul_le_mul q1 hn (by omega) (by omega);show 1 <= q.2 * n;omega
 have hF:=YV T1 (mrg [] T) (YV T [] (fun p hp=>by cases hp) (fun g hg=>by have:=XY hT g hg;exact ⟨by omega,this.2.1,this.2.2.1⟩)) hrow;rw [Ut h2,QU (by omega) _ hF (Yh _ _ (Yh _ _ (by simp))),ZbW,ZbW,Ut h1];simp [JB,Zjk]
def kat (k:K4):Nat -> Int
 | 0=>k.1
 | 1=>k.2.1
 | 2=>k.2.2.1
 | _=>k.2.2.2
def ZaD (k:K4) (j:Nat) (x:Int):K4:=match j with
 | 0=>(x,k.2)
 | 1=>(k.1,x,k.2.2)
 | 2=>(k.1,k.2.1,x,k.2.2.2)
 | _=>(k.1,k.2.1,k.2.2.1,x)
def kc (k:K4):Array Value:=#[.int .i64 k.1,.int .i64 k.2.1,.int .i64 k.2.2.1,.int .i64 k.2.2.2]
theorem Zhg (k:K4) {j:Nat} (hj:j < 4) (x:Int):(kc k).setIfInBounds j (.int .i64 x) = kc (ZaD k j x):=by
 rcases (show j = 0 ∨ j = 1 ∨ j = 2 ∨ j = 3 by omega) with rfl | rfl | rfl | rfl <;> simp [kc,ZaD]
theorem Zh9 (k:K4) {j:Nat} (hj:j < 4):(kc k)[j]? = some (.int .i64 (kat k j)):=by
 rcases (show j = 0 ∨ j = 1 ∨ j = 2 ∨ j = 3 by omega) with rfl | rfl | rfl | rfl <;> simp [kc,kat]
theorem Zjd {k:K4} (h:kOk k) (j:Nat) : 0 <= kat k j /\ kat k j <= 1000001:=by
 obtain ⟨h0,h1,h2,h3⟩:=h;unfold kat;split <;> assumption
theorem Zib {k:K4} (h:kOk k) (j:Nat) {x:Int} (hx : 0 <= x /\ x <= 1000001):kOk (ZaD k j x):=by
 obtain ⟨h0,h1,h2,h3⟩:=h;unfold ZaD;split
 ·exact ⟨hx,h1,h2,h3⟩
 ·exact ⟨h0,hx,h2,h3⟩
 ·exact ⟨h0,h1,hx,h3⟩
 ·exact ⟨h0,h1,h2,hx⟩
def ZG (k:K4) (n:Nat):K4:=(if 1 < n then k.2.1 else 0,if 2 < n then k.2.2.1 else 0,if 3 < n then k.2.2.2 else 0,0)
theorem Ze6 {k:K4} (h:kOk k) (n:Nat):kOk (ZG k n):=by
 obtain ⟨h0,h1,h2,h3⟩:=h;unfold ZG;refine ⟨?_,?_,?_,Int.le_refl 0,by show (0:Int) <= 1000001;decide⟩
 ·show 0 <= (if 1 < n then k.2.1 else 0) /\ (if 1 < n then k.2.1 else 0) <= 1000001;split
  ·exact h1
  ·decide
 ·show 0 <= (if 2 < n then k.2.2.1 else 0) /\ (if 2 < n then k.2.2.1 else 0) <= 1000001;split
  ·exact h2
  ·decide
 ·show 0 <= (if 3 < n then k.2.2.2 else 0) /\ (if 3 < n then k.2.2.2 else 0) <= 1000001;split
  ·exact h3
  ·decide
theorem ZcS {h k:K4} {j:Nat} (h0:kat h j = 0) (z:Int):ZaD h j (z + 1) = k ↔ h = ZaD k j 0 /\ z = kat k j - 1:=by
 obtain ⟨h1,h2,h3,h4⟩:=h;obtain ⟨k1,k2,k3,k4⟩:=k;unfold ZaD kat at *
 split at h0 <;> simp only [Prod.mk.injEq] at * <;> omega
theorem Zb5 (k:K4) (j:Nat) (x:Int):kat (ZaD k j x) j = x:=by
 match j with
 | 0=>rfl
 | 1=>rfl
 | 2=>rfl
 | _ + 3=>rfl
theorem Zgy {h:List Int} {j:Nat} (hl:h.length = j) (hj:j < 4) (z:Int):ZaD (kOf h) j (z + 1) = kOf (h ++ [z]) /\ kat (kOf h) j = 0:=by
 rcases (show j = 0 ∨ j = 1 ∨ j = 2 ∨ j = 3 by omega) with rfl | rfl | rfl | rfl
 ·match h,hl with
  | [],_=>exact ⟨rfl,rfl⟩
 ·match h,hl with
  | [a],_=>exact ⟨rfl,rfl⟩
 ·match h,hl with
  | [a,b],_=>exact ⟨rfl,rfl⟩
 ·match h,hl with
  | [a,b,c],_=>exact ⟨rfl,rfl⟩
def lv (j:Nat) (T:List (K4 × Int)) (h:K4) (z:Int):Option Int:=if kat h j = 0 then JB T (ZaD h j (z + 1)) else none
theorem Za3 {κ ν : Type} [DecidableEq κ] (T:List (κ × ν)) (k : κ) (c : ν) (k' : κ) (hn:JB T k = none):JB (T ++ [(k,c)]) k' = if k' = k then some c else JB T k':=by
 rw [<- Zac c hn];by_cases e:k' = k
 ·rw [e,JJ,if_pos rfl]
 ·rw [JP T c e,if_neg e]
theorem Zb1 {j:Nat} {T:List (K4 × Int)} {k:K4} (c:Int) (hn:JB T k = none) (h:K4) (z:Int):lv j (T ++ [(k,c)]) h z = if h = ZaD k j 0 /\ z = kat k j - 1 then some c else lv j T h z:=by
 unfold lv;by_cases h0:kat h j = 0
 ·rw [if_pos h0,if_pos h0,Za3 T k c _ hn];by_cases e:ZaD h j (z + 1) = k
  ·rw [if_pos e,if_pos ((ZcS h0 z).1 e)]
  ·rw [if_neg e,if_neg (fun e'=>e ((ZcS h0 z).2 e'))]
 ·rw [if_neg h0,if_neg h0,if_neg (fun e=>h0 (by rw [e.1];exact Zb5 k j 0))]
theorem ZF {κ ν : Type} [DecidableEq κ]:∀ {T:List (κ × ν)} {k : κ} {c : ν},(T.map (·.1)).Nodup -> (k,c) ∈ T -> JB T k = some c:=by
 intro T
 induction T with
 | nil=>intro k c _ h;cases h
 | cons p T ih=>
  obtain ⟨k0,c0⟩:=p;intro k c hn h;simp only [List.map_cons,List.nodup_cons] at hn;rcases List.mem_cons.1 h with h | h
  ·injection h with h1 h2
   rw [h1,h2];simp [JB]
  ·have hne:k0 ≠ k:=fun e=>hn.1 (e ▸ List.mem_map_of_mem (f:=(·.1)) h);have:=ih hn.2 h;simpa [JB,hne] using this
theorem ZeN {κ ν : Type} [DecidableEq κ] {S T:List (κ × ν)} (hn:(T.map (·.1)).Nodup) (hp:S.Perm T) (k : κ):JB S k = JB T k:=by
 have hs:(S.map (·.1)).Nodup:=(hp.map _).nodup_iff.2 hn;cases h:JB T k with
 | some c=>exact ZF hs (hp.mem_iff.2 (JS h))
 | none=>exact XS.2 fun p hp'=>XS.1 h p (hp.mem_iff.1 hp')
theorem Zb2 {j:Nat} {S T:List (K4 × Int)} (hn:(T.map (·.1)).Nodup) (hp:S.Perm T) (h:K4) (z:Int):lv j S h z = lv j T h z:=by
 unfold lv;rw [ZeN hn hp]
structure LvX (w:World) (base b j:Nat) (T:List (K4 × Int)) (ls:List (K4 × Nat)):Prop where
 map:ZfJ w b ls
 inj:∀ p ∈ ls,∀ q ∈ ls,p.2 = q.2 -> p = q
 inn:∀ p ∈ ls,base <= p.2 /\ ∃ mm,ZdQ w p.2 mm /\ ∀ z,JB mm z = lv j T p.1 z
 non:∀ k,JB ls k = none -> ∀ z,lv j T k z = none
theorem LvX.same {w w':World} {base b j:Nat} {T:List (K4 × Int)} {ls:List (K4 × Nat)} (h:LvX w base b j T ls) (hb:w'.heap[b]? = w.heap[b]?) (hi:∀ x,base <= x -> x < w.heap.size -> w'.heap[x]? = w.heap[x]?):LvX w' base b j T ls:=
 ⟨h.map.same hb,h.inj,fun p hp=>by obtain ⟨h1,mm,h2,h3⟩:=h.inn p hp;exact ⟨h1,mm,h2.same (hi _ h1 h2.lt),h3⟩,h.non⟩
theorem LvX.below {w w':World} {base b j:Nat} {T:List (K4 × Int)} {ls:List (K4 × Nat)} (h:LvX w base b j T ls) (hb:Below w.heap.size w w'):LvX w' base b j T ls:=h.same (hb.block b h.map.lt) (fun x _ hx=>hb.block x hx)
theorem LvX.fresh {w w':World} {base b j ib:Nat} {T:List (K4 × Int)} {ls:List (K4 × Nat)} {key:K4} (h:LvX w base b j T ls) (hn:JB ls key = none) (hm:ZfJ w' b (Xr ls key ib)) (hi:ZdQ w' ib []) (hib:w.heap.size <= ib) (hbi:base <= ib) (hs:∀ x,base <= x -> x < w.heap.size -> w'.heap[x]? = w.heap[x]?):LvX w' base b j T (Xr ls key ib):=by
 have e:=Zac ib hn;refine ⟨hm,?_,?_,?_⟩
 ·rw [e];intro p hp q hq he;rcases List.mem_append.1 hp with hp | hp <;> rcases List.mem_append.1 hq with hq | hq
  ·exact h.inj p hp q hq he
  ·obtain ⟨_,mm,h2,_⟩:=h.inn p hp;have:=h2.lt;rw [List.mem_singleton.1 hq] at he;simp only at he;omega
  ·obtain ⟨_,mm,h2,_⟩:=h.inn q hq;have:=h2.lt;rw [List.mem_singleton.1 hp] at he;simp only at he;omega
  ·rw [List.mem_singleton.1 hp,List.mem_singleton.1 hq]
 ·rw [e];intro p hp;rcases List.mem_append.1 hp with hp | hp
  ·obtain ⟨h1,mm,h2,h3⟩:=h.inn p hp;exact ⟨h1,mm,h2.same (hs _ h1 h2.lt),h3⟩
  ·rw [List.mem_singleton.1 hp];exact ⟨hbi,[],hi,fun z=>by rw [h.non key hn z];rfl⟩
 ·intro k hk z;rw [e,Za3 ls key ib k hn] at hk;by_cases e2:k = key
  ·rw [if_pos e2] at hk;cases hk
  ·rw [if_neg e2] at hk;exact h.non k hk z
theorem LvX.put {w w':World} {base b j ib:Nat} {T:List (K4 × Int)} {ls:List (K4 × Nat)} {k:K4} {c:Int} {mm:List (Int × Int)} (h:LvX w base b j T ls) (hg:JB ls (ZaD k j 0) = some ib) (hT:JB T k = none) (hm:∀ z,JB mm z = lv j T (ZaD k j 0) z) (hi':ZdQ w' ib (Xr mm (kat k j - 1) c)) (hb:ZfJ w' b ls) (hs:∀ x,base <= x -> x < w.heap.size -> x ≠ ib -> w'.heap[x]? = w.heap[x]?):LvX w' base b j (T ++ [(k,c)]) ls:=by
 have hmem:=JS hg;refine ⟨hb,h.inj,fun p hp=>?_,fun k' hk' z=>?_⟩
 ·by_cases e:p.2 = ib
  ·have e2:=h.inj p hp _ hmem e;rw [e2];refine ⟨(h.inn _ hmem).1,_,hi',fun z=>?_⟩;rw [Zb1 c hT];by_cases ez:z = kat k j - 1
   ·rw [ez,JJ,if_pos ⟨rfl,rfl⟩]
   ·rw [JP mm c ez,if_neg (fun e=>ez e.2)];exact hm z
  ·obtain ⟨h1,mm',h2,h3⟩:=h.inn p hp;refine ⟨h1,mm',h2.same (hs _ h1 h2.lt e),fun z=>?_⟩;rw [h3,Zb1 c hT,if_neg];intro e2;apply e;have e3:JB ls p.1 = some ib:=(by rw [e2.1];exact hg);have e4:=ZF h.map.nodup (show (p.1,p.2) ∈ ls from hp);rw [e3] at e4;injection e4 with e4
   exact e4.symm
 ·rw [Zb1 c hT,if_neg,h.non k' hk' z];intro e;rw [e.1,hg] at hk';cases hk'
theorem LvX.lvl {w:World} {base b j:Nat} {S:List (K4 × Int)} {ls:List (K4 × Nat)} (h:LvX w base b j S ls) (hS:∀ p ∈ S,1 <= kat p.1 j /\ kat p.1 j <= 2001 /\ 1 <= p.2 /\ p.2 <= 35184372088832):Lvl w b (fun h z=>(lv j S h z).getD 0):=by
 refine ⟨⟨ls,h.map,fun p hp=>?_,fun k hk z=>by rw [h.non k hk z];rfl⟩⟩;obtain ⟨h1,mm,h2,h3⟩:=h.inn p hp;refine ⟨mm,h2,fun z=>by rw [h3],fun q hq=>?_⟩;have e1:=ZF h2.nodup (show (q.1,q.2) ∈ mm from hq);rw [h3] at e1;unfold lv at e1;by_cases h0:kat p.1 j = 0
 ·rw [if_pos h0] at e1;have h4:=hS _ (JS e1);simp only [Zb5] at h4;omega
 ·rw [if_neg h0] at e1;cases e1
def XG (m:List (K4 × Int)):Tbl -> List (K4 × Int)
 | []=>m
 | g :: l=>XG (Xr m (kOf g.1) g.2) l
theorem Zbk (l l':Tbl):∀ m,XG m (l ++ l') = XG (XG m l) l':=by
 induction l with
 | nil=>intro m;rfl
 | cons g l ih=>intro m;exact ih _
theorem ZdE (m:List (K4 × Int)) (l:Tbl) (g:List Int × Int):XG m (l ++ [g]) = Xr (XG m l) (kOf g.1) g.2:=by rw [Zbk];rfl
theorem Zbi {P:K4 × Int -> Prop}:∀ (l:Tbl) (m:List (K4 × Int)),(∀ p ∈ m,P p) -> (∀ g ∈ l,P (kOf g.1,g.2)) -> ∀ p ∈ XG m l,P p
 | [],m,h,_=>h
 | g :: l,m,h,hg=>Zbi l _ (fun p hp=>by
  rcases XL hp with rfl | hp
  ·exact hg g (by simp)
  ·exact h p hp) (fun x hx=>hg x (by simp [hx]))
theorem Zbj:∀ (l:Tbl) (m:List (K4 × Int)) (k:K4),l.Pairwise (fun a b=>kOf a.1 ≠ kOf b.1) -> (∀ g ∈ l,JB m (kOf g.1) = none) -> (JB (XG m l) k).getD 0 = (JB m k).getD 0 + J3 l k
 | [],m,k,_,_=>by simp [XG,J3]
 | g :: l,m,k,hp,hm=>by
  obtain ⟨h1,h2⟩:=List.pairwise_cons.1 hp;show (JB (XG (Xr m (kOf g.1) g.2) l) k).getD 0 = _;rw [Zbj l _ k h2 (fun x hx=>by rw [JP m g.2 (fun e=>h1 x hx e.symm)];exact hm x (by simp [hx]))];simp only [J3];by_cases e:kOf g.1 = k
  ·rw [if_pos e,<- e,JJ,hm g (by simp)];simp
  ·rw [if_neg e,JP m g.2 (fun e'=>e e'.symm)];omega
def Uj (n:Nat) (m:List (K4 × Int)) (S:List (K4 × Int)):List (K4 × Int):=S.foldl (fun m p=>Xr m (ZG p.1 n) ((JB m (ZG p.1 n)).getD 0 + p.2)) m
def ZaC (n:Nat) (S:List (K4 × Int)):List (K4 × Int):=Uj n [] S
theorem ZeT (n:Nat) (S:List (K4 × Int)) (p:K4 × Int):ZaC n (S ++ [p]) = Xr (ZaC n S) (ZG p.1 n) ((JB (ZaC n S) (ZG p.1 n)).getD 0 + p.2):=by simp [ZaC,Uj]
def SL (o:Nat) (T:Tbl):Nat -> List (K4 × Int)
 | 0=>XG [] T
 | k + 1=>ZaC (o - k) (SL o T k)
def ctS (j:Nat) (S:List (K4 × Int)) (h:K4) (z:Int):Int:=(lv (j - 1) S h z).getD 0
def ctA (o:Nat) (T:Tbl) (j:Nat):K4 -> Int -> Int:=if j <= o then ctS j (SL o T (o - j)) else fun _ _=>0
def VZ (S:List (K4 × Int)):Int:=(S.map (·.2)).sum
theorem Zeb (k:K4) (c:Int):∀ m:List (K4 × Int),VZ (Xr m k ((JB m k).getD 0 + c)) = VZ m + c
 | []=>by simp [VZ,Xr,JB]
 | p :: m=>by
  have ih:=Zeb k c m;unfold VZ at ih ⊢;simp only [Xr,JB];by_cases e:p.1 = k
  ·simp only [if_pos e,List.map_cons,List.sum_cons,Option.getD_some];omega
  ·simp only [if_neg e,List.map_cons,List.sum_cons,ih];omega
theorem ZcP (n:Nat):∀ (S m:List (K4 × Int)),VZ (Uj n m S) = VZ m + VZ S
 | [],m=>by simp [Uj,VZ]
 | p :: S,m=>by
  show VZ (Uj n (Xr m (ZG p.1 n) ((JB m (ZG p.1 n)).getD 0 + p.2)) S) = _;rw [ZcP n S,Zeb];simp only [VZ,List.map_cons,List.sum_cons];omega
theorem ZcR (n:Nat):∀ (S m:List (K4 × Int)),(Uj n m S).length <= m.length + S.length
 | [],m=>by simp [Uj]
 | p :: S,m=>by
  show (Uj n (Xr m (ZG p.1 n) ((JB m (ZG p.1 n)).getD 0 + p.2)) S).length <= _;have h1:=ZcR n S (Xr m (ZG p.1 n) ((JB m (ZG p.1 n)).getD 0 + p.2));have h2:=XM m (ZG p.1 n) ((JB m (ZG p.1 n)).getD 0 + p.2);simp only [List.length_cons];omega
theorem Zad (n:Nat):∀ (S m:List (K4 × Int)),(m.map (·.1)).Nodup -> ((Uj n m S).map (·.1)).Nodup
 | [],_,h=>h
 | p :: S,m,h=>Zad n S _ (Zl h _ _)
theorem ZcQ (n:Nat) {P:K4 -> Prop}:∀ (S m:List (K4 × Int)),(∀ p ∈ m,P p.1 /\ 1 <= p.2) -> (∀ p ∈ S,P (ZG p.1 n) /\ 1 <= p.2) -> ∀ p ∈ Uj n m S,P p.1 /\ 1 <= p.2
 | [],m,h,_=>h
 | p :: S,m,h,hs=>ZcQ n S _ (fun q hq=>by
  have h0:=hs p (by simp);rcases XL hq with rfl | hq
  ·refine ⟨h0.1,?_⟩;show 1 <= (JB m (ZG p.1 n)).getD 0 + p.2;cases hg:JB m (ZG p.1 n) with
   | none=>simp;exact h0.2
   | some y=>have:=(h _ (JS hg)).2;simp only [Option.getD_some];simp only at this;omega
  ·exact h q hq) (fun q hq=>hs q (by simp [hq]))
theorem Ui (n:Nat) (k:K4):∀ (S m:List (K4 × Int)),(JB (Uj n m S) k).getD 0 = (JB m k).getD 0 + VZ (S.filter fun p=>decide (ZG p.1 n = k))
 | [],m=>by simp [Uj,VZ]
 | p :: S,m=>by
  show (JB (Uj n (Xr m (ZG p.1 n) ((JB m (ZG p.1 n)).getD 0 + p.2)) S) k).getD 0 = _;rw [Ui n k S];by_cases e:ZG p.1 n = k
  ·rw [e,JJ,List.filter_cons_of_pos (by simp [e])];simp only [Option.getD_some,VZ,List.map_cons,List.sum_cons];omega
  ·rw [JP m _ (fun e'=>e e'.symm),List.filter_cons_of_neg (by simp [e])]
theorem UJ (n:Nat) (k:K4):∀ (S m:List (K4 × Int)),JB (Uj n m S) k = none ↔ JB m k = none /\ ∀ p ∈ S,ZG p.1 n ≠ k
 | [],m=>by simp [Uj]
 | p :: S,m=>by
  show JB (Uj n (Xr m (ZG p.1 n) ((JB m (ZG p.1 n)).getD 0 + p.2)) S) k = none ↔ _;rw [UJ n k S];by_cases e:ZG p.1 n = k
  ·rw [e,JJ];simp [e]
  ·rw [JP m _ (fun e'=>e e'.symm)];simp [e]
theorem Zcr {S S':List (K4 × Int)} (h:S.Perm S'):VZ S = VZ S':=QY (h.map _)
theorem Zez {S:List (K4 × Int)} (h:(S.map (·.1)).Nodup):S.Nodup:=(List.pairwise_map.1 h).imp fun hne e=>hne (by rw [e])
theorem ZeU {n:Nat} {S S':List (K4 × Int)} (hp:S.Perm S'):(ZaC n S).Perm (ZaC n S'):=by
 have hn:=Zad n S [] (by simp);have hn':=Zad n S' [] (by simp);have hg:∀ k,JB (Uj n [] S) k = JB (Uj n [] S') k:=fun k=>by
  have e1:=Ui n k S [];rw [Zcr (hp.filter _),<- Ui n k S' []] at e1;have e2:JB (Uj n [] S) k = none ↔ JB (Uj n [] S') k = none:=by
   rw [UJ,UJ];exact and_congr Iff.rfl ⟨fun h p hp'=>h p (hp.mem_iff.2 hp'),fun h p hp'=>h p (hp.mem_iff.1 hp')⟩
  cases h1:JB (Uj n [] S) k <;> cases h2:JB (Uj n [] S') k
  ·rfl
  ·rw [h2] at e2;simp [h1] at e2
  ·rw [h1] at e2;simp [h2] at e2
  ·rw [h1,h2] at e1;simpa using e1
 unfold ZaC;rw [List.perm_ext_iff_of_nodup (Zez hn) (Zez hn')];rintro ⟨k,c⟩;constructor
 ·intro h;have:=ZF hn h;rw [hg] at this;exact JS this
 ·intro h;have:=ZF hn' h;rw [<- hg] at this;exact JS this
theorem Zhb:∀ (S:List (K4 × Int)),(∀ p ∈ S,1 <= p.2) -> ∀ p ∈ S,p.2 <= VZ S
 | [],_,_,hp=>by simp at hp
 | q :: S,h,p,hp=>by
  have ht : 0 <= VZ S:=by
   clear hp p;have h':∀ p ∈ S,1 <= p.2:=fun p hp=>h p (by simp [hp]);clear h
   induction S with
   | nil=>simp [VZ]
   | cons x S ih=>
    have h1:=h' x (by simp);have h2:=ih fun p hp=>h' p (by simp [hp]);simp only [VZ,List.map_cons,List.sum_cons] at h2 ⊢;omega
  have e:VZ (q :: S) = q.2 + VZ S:=by simp [VZ]
  rw [e];rcases List.mem_cons.1 hp with rfl | hp
  ·omega
  ·have h1:=Zhb S (fun p hp=>h p (by simp [hp])) p hp;have h2:=h q (by simp);omega
structure SOk (v:Int) (j:Nat) (S:List (K4 × Int)):Prop where
 nd:(S.map (·.1)).Nodup
 ok:∀ p ∈ S,kOk p.1 /\ 1 <= p.2
 las : 1 <= j -> ∀ p ∈ S,1 <= kat p.1 (j - 1) /\ kat p.1 (j - 1) <= v + 1
 tot:VZ S <= 35184372088832
 len:S.length <= 20000
theorem SOk.bd {v:Int} {j:Nat} {S:List (K4 × Int)} (h:SOk v j S):∀ p ∈ S,1 <= p.2 /\ p.2 <= 35184372088832:=fun p hp=>
 ⟨(h.ok p hp).2,Int.le_trans (Zhb S (fun q hq=>(h.ok q hq).2) p hp) h.tot⟩
theorem SOk.perm {v:Int} {j:Nat} {S S':List (K4 × Int)} (h:SOk v j S) (hp:S'.Perm S):SOk v j S':=
 ⟨(hp.map _).nodup_iff.2 h.nd,fun p hq=>h.ok p (hp.mem_iff.1 hq),fun hj p hq=>h.las hj p (hp.mem_iff.1 hq),by rw [Zcr hp];exact h.tot,by rw [hp.length_eq];exact h.len⟩
theorem Zia (k:K4) {n:Nat} (h1 : 1 <= n) (h4:n <= 3):kat (ZG k (n + 1)) (n - 1) = kat k n:=by
 obtain ⟨a,b,c,d⟩:=k;rcases (show n = 1 ∨ n = 2 ∨ n = 3 by omega) with rfl | rfl | rfl <;> rfl
theorem SOk.low {v:Int} {n:Nat} {S:List (K4 × Int)} (h:SOk v (n + 1) S) (hn:n <= 3):SOk v n (ZaC (n + 1) S):=by
 have hm:=ZcQ (n + 1) (P:=fun k=>kOk k /\ (1 <= n -> 1 <= kat k (n - 1) /\ kat k (n - 1) <= v + 1)) S [] (by simp) (fun p hp=>by
  have h1:=h.ok p hp;refine ⟨⟨Ze6 h1.1 _,fun hn1=>?_⟩,h1.2⟩;rw [Zia _ hn1 hn];exact h.las (by omega) p hp)
 refine ⟨Zad _ S [] (by simp),fun p hp=>⟨(hm p hp).1.1,(hm p hp).2⟩,fun hj p hp=>(hm p hp).1.2 hj,?_,?_⟩
 ·show VZ (Uj (n + 1) [] S) <= _;rw [ZcP];have:=h.tot;simp only [VZ,List.map_nil,List.sum_nil] at this ⊢;omega
 ·have h1:=ZcR (n + 1) S [];have h2:=h.len;show (Uj (n + 1) [] S).length <= _;simp only [List.length_nil] at h1;omega
theorem Zim {o:Nat} {v:Int} {T:Tbl} (h:Xz o v T = 0):∀ p ∈ XG [] T,kOk p.1 /\ 1 <= kat p.1 (o - 1) /\ kat p.1 (o - 1) <= v + 1 /\ 1 <= p.2 /\ p.2 <= 1073741824:=by
 have hs:=Jx.1 (JK.1 h).2.1;refine Zbi T [] (by simp) (fun g hg=>?_);obtain ⟨h1,h2,h3,h4⟩:=XY h g hg;have h5:=VC h g hg;refine ⟨UR h5,?_⟩;have h6 : 0 <= g.1[o - 1]?.getD 0 /\ g.1[o - 1]?.getD 0 <= v:=by
  have hlt:o - 1 < g.1.length:=by omega
  rw [gE hlt,Option.getD_some];have:=ZgS h2 hlt;omega
 have e:kat (kOf g.1) (o - 1) = g.1[o - 1]?.getD 0 + 1:=by
  have hl:g.1.length = o:=by omega
  unfold kOf kat;rcases (show o = 1 ∨ o = 2 ∨ o = 3 ∨ o = 4 by omega) with rfl | rfl | rfl | rfl <;> simp [kx,hl]
 show 1 <= kat (kOf g.1) (o - 1) /\ kat (kOf g.1) (o - 1) <= v + 1 /\ 1 <= g.2 /\ g.2 <= 1073741824;rw [e];omega
theorem Zfq:∀ (l:Tbl) (m:List (K4 × Int)),(m.map (·.1)).Nodup -> ((XG m l).map (·.1)).Nodup
 | [],_,h=>h
 | g :: l,m,h=>Zfq l _ (Zl h _ _)
theorem ZcW:∀ (l:Tbl) (m:List (K4 × Int)),(XG m l).length <= m.length + l.length
 | [],m=>by simp [XG]
 | g :: l,m=>by
  have h1:=ZcW l (Xr m (kOf g.1) g.2);have h2:=XM m (kOf g.1) g.2;show (XG (Xr m (kOf g.1) g.2) l).length <= _;simp only [List.length_cons];omega
theorem ZfH {o:Nat} {v:Int} {T:Tbl} (h:Xz o v T = 0):∀ k,k <= o -> SOk v (o - k) (SL o T k)
 | 0,_=>by
  have hf:=Zim h;have hl:=(JK.1 h).1;have hln:=ZcW T [];simp only [List.length_nil] at hln;refine ⟨Zfq T [] (by simp),fun p hp=>⟨(hf p hp).1,(hf p hp).2.2.2.1⟩,fun _ p hp=>⟨(hf p hp).2.1,(hf p hp).2.2.1⟩,?_,?_⟩
  ·have h1:∀ (l:List Int),(∀ x ∈ l,1 <= x /\ x <= 1073741824) -> l.sum <= l.length * 1073741824:=by
    intro l
    induction l with
    | nil=>simp
    | cons x l ih=>
     intro hx;have h1:=hx x (by simp);have h2:=ih fun y hy=>hx y (by simp [hy]);simp only [List.sum_cons,List.length_cons];push_cast;omega
   have h2:=h1 ((XG [] T).map (·.2)) (fun x hx=>by
    obtain ⟨p,hp,rfl⟩:=List.mem_map.1 hx;exact (hf p hp).2.2.2)
   show ((XG [] T).map (·.2)).sum <= _;simp only [List.length_map] at h2;omega
  ·show (XG [] T).length <= _;omega
 | k + 1,hk=>by
  have hs:=Jx.1 (JK.1 h).2.1;have h1:=ZfH h k (by omega);obtain ⟨n,hn⟩:∃ n,o - k = n + 1:=⟨o - k - 1,by omega⟩;have e:o - (k + 1) = n:=by omega
  rw [hn] at h1;rw [e];show SOk v n (ZaC (o - k) (SL o T k));rw [hn];exact h1.low (by omega)
theorem Zhl {v:Int} {j:Nat} {S:List (K4 × Int)} (h:SOk v j S) (hh:K4) (z:Int) : 0 <= ctS j S hh z /\ ctS j S hh z <= 35184372088832:=by
 unfold ctS lv;split
 ·cases hg:JB S (ZaD hh (j - 1) (z + 1)) with
  | none=>exact ⟨Int.le_refl _,by decide⟩
  | some y=>have:=h.bd _ (JS hg);simp only [Option.getD_some];simp only at this;omega
 ·exact ⟨Int.le_refl _,by decide⟩
theorem Ziu {v:Int} {j:Nat} {S:List (K4 × Int)} (h:SOk v j S) (hj : 1 <= j) (hh:K4) (z:Int) (hz:z < 0 ∨ v + 1 <= z):ctS j S hh z = 0:=by
 unfold ctS lv;split
 ·cases hg:JB S (ZaD hh (j - 1) (z + 1)) with
  | none=>rfl
  | some y=>
   have h1:=h.las hj _ (JS hg);simp only [Zb5] at h1;omega
 ·rfl
theorem Zi8 {v:Int} {j n:Nat} {S:List (K4 × Int)} (h:SOk v j S) (idx:List Nat) (hl:∀ i ∈ idx,i < S.length) (hi:idx.length <= S.length) (k:K4) : 0 <= (JB (ZaC n (YJ S ((0,0,0,0),0) idx)) k).getD 0 /\ (JB (ZaC n (YJ S ((0,0,0,0),0) idx)) k).getD 0 <= 20000 * 35184372088832:=by
 unfold ZaC;rw [Ui];have h1:=ZaP ((((YJ S ((0,0,0,0),0) idx).filter fun p=>decide (ZG p.1 n = k))).map (·.2)) (fun x hx=>by
  obtain ⟨p,hp,rfl⟩:=List.mem_map.1 hx;have hp:=(List.mem_filter.1 hp).1;obtain ⟨i,hi',rfl⟩:=List.mem_map.1 hp;have:=h.bd _ (show S[i]?.getD ((0,0,0,0),0) ∈ S by rw [gE (hl i hi')];exact yM _);exact ⟨by omega,this.2⟩)
 have h2:=List.length_filter_le (fun p:K4 × Int=>decide (ZG p.1 n = k)) (YJ S ((0,0,0,0),0) idx);have h3:(YJ S ((0,0,0,0),0) idx).length = idx.length:=by simp [YJ]
 have h4:=h.len;simp only [List.length_map] at h1;simp only [JB,Option.getD_none,VZ];omega
def isFb (base:Nat):Value -> World -> Prop:=fun v u=>∃ k,v = .pointer (some ⟨k,0,none⟩) /\ base <= k /\ Hid (∃ x,Fb u k x)
theorem Keeps.isFb (base:Nat):Keeps (isFb base):=fun _ _ _ ⟨k,h1,h2,h3⟩ hb=>⟨k,h1,h2,zH (by obtain ⟨x,hx⟩:=h3.out;exact ⟨x,hx.below hb⟩)⟩
theorem ZdC:(Tryz.prog.info? 279).map (fun i=>(i.zero,i.size,i.bytes)) = some (some (.map none),1,8):=by kernel_rfl
theorem Zb0 (w:World) (n:Nat) (hn:n <= 1000000) (base:Nat) (hb:base <= w.heap.size) :
  ∃ w',(Instr.makeSlice 254 (.int .i64 (n:Int)) (.int .i64 (n:Int))).run Tryz.prog w = .ok (.slice (some ⟨w.heap.size,0,none⟩) n n) w' /\
   w'.ownsRow base 279 1 (.slice (some ⟨w.heap.size,0,none⟩) n n) n (List.replicate n (.map none)) /\ Below w.heap.size w w':=by
 obtain ⟨i0,hi0,hz0,hz1,hz2⟩:=info_parts ZdC;obtain ⟨w',h1,h2,h3⟩:=run_make_full (P:=Tryz.prog) w base 254 279 i0 _ 1 Tryz.underlying254 hi0 hz0 hz1 .i64 .i64 n (by rw [hz2];omega) (by unfold maxLen;omega) hb;have e:(madeCells (Value.map none).cells (n * 1)).toList = List.replicate n (.map none):=by
  apply List.ext_getElem (by simp [madeCells]);intro k h1 h2;simp [madeCells,Value.cells,Nat.mod_one]
 rw [e] at h2;exact ⟨w',h1,h2,Xa h3⟩
theorem ZgP (k:K4) (n:Nat) (hn : 1 <= n /\ n <= 4) (u:World) (bb kb:Nat) (hbb:u.heap[bb]? = some (.cells (kc (0,0,0,0)) 166 (0,0))) (hk:u.heap[kb]? = some (.cells (kc k) 166 (0,0))) (ty:TypeId) :
  ∃ x u',(Builtin.copy_ #[35,35] ty #[.slice (some ⟨bb,0,none⟩) 4 4,.slice (some ⟨kb,1,none⟩) (n - 1) 3]).run Tryz.prog u = .ok x u' /\ u'.heap[bb]? = some (.cells (kc (ZG k n)) 166 (0,0)) /\ Below bb u u':=by
 have hsz:(Tryz.prog.info? 3).map (·.size) = some 1:=by kernel_rfl
 by_cases h1:n = 1
 ·subst h1;have:=run_copy_none (P:=Tryz.prog) u 35 35 ty 3 (some ⟨bb,0,none⟩) (some ⟨kb,1,none⟩) 4 4 0 3 Tryz.underlying35 hsz (by simp);exact ⟨_,u,this,hbb,Below.refl _ _⟩
 ·obtain ⟨cs,hcs⟩:∃ cs:List Value,cs = (((kc k).toList.drop 1).take (n - 1)):=⟨_,rfl⟩;have hl:cs.length = n - 1:=by rw [hcs];simp [kc];omega
  have:=run_copy_row (P:=Tryz.prog) u 35 35 ty 3 bb 0 4 4 ⟨kb,1,none⟩ (n - 1) 3 (kc (0,0,0,0)) 166 cs Tryz.underlying35 hsz hbb (by rw [hl];simp [Nat.min_def];omega) (fun j v hj=>by
   have ea:(⟨kb,1,none⟩:Addr).add j = ⟨kb,1 + j,none⟩:=(by simp [Addr.add]);rw [ea];rw [cell_of_row u kb (1 + j) _ _ _ hk];rw [hcs,List.getElem?_take] at hj;split at hj
   ·rw [List.getElem?_drop] at hj;simpa using hj
   ·cases hj) (by rw [hl];simp [kc];omega) (fun v hv=>by
   rw [hcs] at hv;have:=List.mem_of_mem_drop (List.mem_of_mem_take hv);simp [kc] at this;rcases this with rfl | rfl | rfl | rfl <;> rfl)
  refine ⟨_,_,this,?_,below_setRow bR nR _⟩;rw [setRow_heap u bb _ _ _ _ hbb,hcs];obtain ⟨k0,k1,k2,k3⟩:=k;rcases (show n = 2 ∨ n = 3 ∨ n = 4 by omega) with rfl | rfl | rfl <;> simp [kc,ZG]
def ctL (o:Nat) (T:Tbl) (h:K4) (z:Int):Int:=(lv (o - 1) (XG [] T) h z).getD 0
def Zjt (o:Nat) (T:Tbl) (w:World) (e:Ending) (w':World):Prop:=∃ lb,e = .returned (.slice (some ⟨lb,0,none⟩) (o + 1) (o + 1)) /\ (∀ j,1 <= j -> j <= o -> ∃ b,w'.cell? ⟨lb,0 + j,none⟩ = some (.map (some b)) /\ Lvl w' b (ctA o T j)) /\ Below w.heap.size w w'
theorem Zfj {S:List (K4 × Int)} {d:K4 × Int} (hn:(S.map (·.1)).Nodup) {idx:List Nat} (hl:∀ i ∈ idx,i < S.length) {i:Nat} (hi:i < S.length) (hni:i ∉ idx):JB (YJ S d idx) (S[i]?.getD d).1 = none:=by
 refine XS.2 fun q hq e=>?_;obtain ⟨i',hi',rfl⟩:=List.mem_map.1 hq;have h1:=hl i' hi';rw [gE h1,gE hi] at e;simp only [Option.getD_some] at e;rw [List.Nodup,List.pairwise_iff_getElem] at hn;rcases Nat.lt_trichotomy i i' with h | h | h
 ·exact hn i i' (by simpa using hi) (by simpa using h1) h (by simpa using e.symm)
 ·exact hni (h ▸ hi')
 ·exact hn i' i (by simpa using h1) (by simpa using hi) h (by simpa using e)
theorem YZ (w:World) (o p:Obj):((w.alloc o).alloc p).heap[w.heap.size]? = (w.alloc o).heap[w.heap.size]?:=Below.heap_alloc _ _ _ (by simp)
theorem Zg (w:World) (o:Obj) (cs:Array Value) (t:TypeId):((w.alloc o).alloc (.cells cs t)).heap[w.heap.size + 1]? = some (.cells cs t (0,0)):=by
 have:=heap_alloc_new (w.alloc o) (.cells cs t)
 rwa [show (w.alloc o).heap.size = w.heap.size + 1 by simp] at this
theorem LvX.perm {w:World} {base b j:Nat} {S T:List (K4 × Int)} {ls:List (K4 × Nat)} (h:LvX w base b j S ls) (hn:(T.map (·.1)).Nodup) (hp:S.Perm T):LvX w base b j T ls:=
 ⟨h.map,h.inj,fun p hp'=>by obtain ⟨h1,mm,h2,h3⟩:=h.inn p hp';exact ⟨h1,mm,h2,fun z=>by rw [h3,Zb2 hn hp]⟩,fun k hk z=>by rw [<- Zb2 hn hp];exact h.non k hk z⟩
theorem Lvl.maps {w w':World} {b:Nat} {ct:K4 -> Int -> Int} (h:Lvl w b ct) (hk:∀ (x:Nat) (es:Array MapEntry) (c:Nat),w.heap[x]? = some (Obj.map es c) -> w'.heap[x]? = w.heap[x]?):Lvl w' b ct:=by
 obtain ⟨ls,h1,h2,h3⟩:=h.ex;refine ⟨⟨ls,h1.same ?_,fun p hp=>?_,h3⟩⟩
 ·obtain ⟨es,c,e,_⟩:=h1.block;exact hk _ _ _ e
 ·obtain ⟨mm,q1,q2,q3⟩:=h2 p hp;obtain ⟨es,c,e,_⟩:=q1.block;exact ⟨mm,q1.same (hk _ _ _ e),q2,q3⟩
def isMp (base:Nat):Value -> World -> Prop:=fun v u=>∃ k,v = .map (some k) /\ base <= k /\ Hid (ZdQ u k [])
theorem Keeps.isMp (base:Nat):Keeps (isMp base):=fun _ _ _ ⟨k,h1,h2,h3⟩ hb=>⟨k,h1,h2,zH (h3.out.below hb)⟩
def NxG (bm st:Nat) (key:K4) (n x s:Int) (o1:Obj):Nat -> Value -> World -> Prop
 | 0,v,_=>v = .map (some bm)
 | 1,v,_=>v = ek key
 | 2,v,_=>v = .int .i64 n
 | 3,v,_=>v = .int .i64 x
 | 4,v,_=>v = .int .i64 s
 | 5,v,u=>v = .tuple #[.int .i64 n,goInt st] /\ u.heap[bm]? = some o1
 | 6,v,_=>v = goInt st
 | _,_,_=>True
theorem NxG.keeps {bm st:Nat} {key:K4} {n x s:Int} {o1:Obj} (j:Nat) (v:Value) (u u':World) (h:NxG bm st key n x s o1 j v u) (ht:CrT bm o1 u u'):NxG bm st key n x s o1 j v u':=by
 unfold NxG at h ⊢;split <;> simp_all;exact ht h.2
end Go.Proofs.YtlgdlenoohkipaaGreat
