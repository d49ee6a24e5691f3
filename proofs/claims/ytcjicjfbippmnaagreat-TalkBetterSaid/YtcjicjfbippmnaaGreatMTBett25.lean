/- TalkBetter -/
import Derived.Test.YtcjicjfbippmnaaGreatMTBett24
set_option maxRecDepth 100000
set_option maxHeartbeats 32000000
namespace Go.Proofs.YtcjicjfbippmnaaGreat
open Go.RowKit Ear

def Xj:Tbl -> K4 -> Int
 | [],_=>0
 | g :: l,k=>(if kOf g.1 = k then g.2 else 0) + Xj l k
theorem UG {a b:Tbl} (h:a.Perm b) (k:K4):Xj a k = Xj b k:=by
 induction h with
 | nil=>rfl
 | cons x _ ih=>simp only [Xj,ih]
 | swap x y l=>simp only [Xj];omega
 | trans _ _ h1 h2=>exact h1.trans h2
theorem Za4 {l:Tbl} {k:K4} (h:∀ g ∈ l,kOf g.1 ≠ k):Xj l k = 0:=by
 induction l with
 | nil=>rfl
 | cons g l ih=>
  simp only [Xj];rw [if_neg (h g (by simp)),ih fun x hx=>h x (by simp [hx])];rfl
theorem ZhW {l:Tbl} (h:∀ g ∈ l,0 <= g.2) (k:K4) : 0 <= Xj l k:=by
 induction l with
 | nil=>simp [Xj]
 | cons g l ih=>
  have h1:=ih fun x hx=>h x (by simp [hx]);have h2:=h g (by simp);simp only [Xj];split <;> omega
theorem Zcg:∀ (l:Tbl) (m:List (K4 × Int)) (k:K4),(JG (mrg m l) k).getD 0 = (JG m k).getD 0 + Xj l k
 | [],m,k=>by simp [mrg,Xj]
 | g :: l,m,k=>by
  show (JG (mrg (Yd m (kOf g.1) _) l) k).getD 0 = _;rw [Zcg l _ k];simp only [Xj];by_cases h:kOf g.1 = k
  ·subst h;rw [JP,if_pos rfl];simp only [Option.getD_some];omega
  ·rw [JZ _ _ (fun e=>h e.symm),if_neg h];omega
theorem Q9 {o:Nat} {v:Int} (ho:o <= 4):∀ (m:List (K4 × Int)),FromG o v m -> (m.map (·.1)).Nodup -> ∀ k,Xj (m.map fun p=>(gmW o p.1,p.2)) k = (JG m k).getD 0
 | [],_,_,k=>by simp [Xj,JG]
 | p :: m,hf,hn,k=>by
  obtain ⟨_,g,h1,h2,_⟩:=hf p (by simp);have hk:kOf (gmW o p.1) = p.1:=by rw [h2,Yy h1 ho]
  simp only [List.map_cons,List.nodup_cons] at hn;have ih:=Q9 ho m (fun q hq=>hf q (by simp [hq])) hn.2 k;simp only [List.map_cons,Xj,JG,hk,ih];by_cases h:p.1 = k
  ·rw [if_pos h,if_pos h];have:JG m k = none:=XZ.2 fun q hq e=>hn.1 (by rw [h,<- e];exact List.mem_map_of_mem (f:=fun x:K4 × Int=>x.1) hq);rw [this];simp
  ·rw [if_neg h,if_neg h];omega
theorem U1 {a b:List Int} {o:Nat} (ho:o <= 4) (ha:a.length = o) (hb:b.length = o) (h:kOf a = kOf b):a = b:=by
 rw [<- Yy ha ho,h,Yy hb ho]
theorem VM {o v:Int} {l:Tbl} (h:Yb o v l = 0):l.Pairwise fun x y=>Xb x.1 y.1 < 0:=by
 obtain ⟨_,_,h3⟩:=JO.1 h;have step:∀ k,(hk:k + 1 < l.length) -> Xb l[k].1 l[k + 1].1 < 0:=fun k hk=>by
  have hr:=List.all_eq_true.1 h3 (k + 1) (List.mem_range.2 hk);unfold Xv at hr;rw [JX hk] at hr;simp only [Bool.and_eq_true,Bool.or_eq_true,beq_iff_eq,decide_eq_true_eq,Nat.add_sub_cancel] at hr;rw [JX (by omega)] at hr;rcases hr.2 with h | h
  ·omega
  ·exact h
 rw [List.pairwise_iff_getElem];intro i j hi hj hij;obtain ⟨d,rfl⟩:∃ d,j = i + 1 + d:=⟨j - (i + 1),by omega⟩;clear hij
 induction d with
 | zero=>exact step i hj
 | succ d ih=>exact XS (ih (by omega)) (step (i + 1 + d) hj)
theorem Zet {o:Nat} (ho:o <= 4):∀ (a b:Tbl),a.Pairwise (fun x y=>Xb x.1 y.1 < 0) -> b.Pairwise (fun x y=>Xb x.1 y.1 < 0) -> (∀ g ∈ a,g.1.length = o /\ 1 <= g.2) -> (∀ g ∈ b,g.1.length = o /\ 1 <= g.2) -> (∀ k,Xj a k = Xj b k) -> a = b:=by
 have pos:∀ (g:List Int × Int) (l:Tbl),(∀ x ∈ g :: l,x.1.length = o /\ 1 <= x.2) -> 1 <= Xj (g :: l) (kOf g.1):=fun g l h=>by
  have h1:=ZhW (l:=l) (fun x hx=>by have:=(h x (by simp [hx])).2;omega) (kOf g.1);have h2:=(h g (by simp)).2;simp only [Xj];rw [if_pos trivial];omega
 have far:∀ (g:List Int × Int) (l:Tbl),g.1.length = o -> (∀ x ∈ l,x.1.length = o /\ 1 <= x.2) -> (∀ x ∈ l,Xb g.1 x.1 < 0) -> Xj l (kOf g.1) = 0:=fun g l h0 h h2=>Za4 fun x hx e=>by
  have e1:=U1 ho (h x hx).1 h0 e;have h3:=h2 x hx;rw [e1,X8.2 rfl] at h3;omega
 intro a
 induction a with
 | nil=>
  intro b _ _ _ hb hk;cases b with
  | nil=>rfl
  | cons g l=>have h1:=pos g l hb;rw [<- hk] at h1;simp [Xj] at h1
 | cons g l ih=>
  intro b pa pb ha hb hk;cases b with
  | nil=>have h1:=pos g l ha;rw [hk] at h1;simp [Xj] at h1
  | cons g' l'=>
   simp only [List.pairwise_cons] at pa pb;have hg:=(ha g (by simp)).1;have hg':=(hb g' (by simp)).1;have n1:¬ Xb g.1 g'.1 < 0:=fun hlt=>by
    have h1:=pos g l ha;rw [hk,far g (g' :: l') hg hb (fun x hx=>by
     rcases List.mem_cons.1 hx with rfl | hx
     ·exact hlt
     ·exact XS hlt (pb.1 x hx))] at h1
    omega
   have n2:¬ Xb g'.1 g.1 < 0:=fun hlt=>by
    have h1:=pos g' l' hb;rw [<- hk,far g' (g :: l) hg' ha (fun x hx=>by
     rcases List.mem_cons.1 hx with rfl | hx
     ·exact hlt
     ·exact XS hlt (pa.1 x hx))] at h1
    omega
   have e1:g.1 = g'.1:=X8.1 (by have:=VE g.1 g'.1;omega);have z1:=far g l hg (fun x hx=>ha x (by simp [hx])) pa.1;have z2:=far g' l' hg' (fun x hx=>hb x (by simp [hx])) pb.1;have e2:g.2 = g'.2:=by
    have h1:=hk (kOf g.1);simp only [Xj] at h1;rw [if_pos trivial,if_pos (by rw [e1]),z1,e1,z2] at h1;omega
   have e3:g = g':=Prod.ext e1 e2;subst e3;rw [ih l' pa.2 pb.2 (fun x hx=>ha x (by simp [hx])) (fun x hx=>hb x (by simp [hx])) fun k=>by
    have h1:=hk k;simp only [Xj] at h1;omega]
theorem Zji {o:Nat} {v v':Int} {a b:Tbl} (ha:Yb o v a = 0) (hb:Yb o v' b = 0) (h:∀ k,Xj a k = Xj b k):a = b:=by
 have ho:(o:Int) <= 4:=(JB.1 (JO.1 ha).2.1).2.1;refine Zet (o:=o) (by omega) a b (VM ha) (VM hb) (fun g hg=>?_) (fun g hg=>?_) h
 ·have:=XW ha g hg;exact ⟨by omega,by omega⟩
 ·have:=XW hb g hg;exact ⟨by omega,by omega⟩
def ZjY (o:Nat) (s:List Int) (n:Int) (k:K4):Int:=Xj ((Ye o s (s.length + 1)).map fun q=>(gmW o q.1,q.2 * n)) k
theorem ZfO {o:Nat} {v n:Int} {s:List Int} {T T1 T2:Tbl} (hz:Xz o v = true) (ha:Xx 1 v s = true) (hn : 1 <= n) (hT:Yb o v T = 0) (h1:T1.Perm ((Ye o s (s.length + 1)).map fun q=>(gmW o q.1,q.2 * n)))
  (h2:T2.Perm ((mrg (mrg [] T) T1).map fun q=>(gmW o q.1,q.2))) (k:K4):Xj T2 k = Xj T k + ZjY o s n k:=by
 have hzz:=JB.1 hz;have hf:=Zy (o:=o) (by omega) (by omega) ha (s.length + 1) nR;have hrow:∀ g ∈ T1,g.1.length = o /\ Xx 0 v g.1 = true /\ 1 <= g.2:=fun g hg=>by
  obtain ⟨q,hq,rfl⟩:=List.mem_map.1 (h1.mem_iff.1 hg);obtain ⟨q1,x,q2,q3,q4⟩:=hf q hq;rw [q3,Yy q2 (by omega)];refine ⟨q2,q4,?_⟩;have:=Int.mul_le_mul q1 hn (by omega) (by omega);show 1 <= q.2 * n;omega
 have hF:=Za T1 (mrg [] T) (Za T [] (fun p hp=>by cases hp) (fun g hg=>by have:=XW hT g hg;exact ⟨by omega,this.2.1,this.2.2.1⟩)) hrow;rw [UG h2,Q9 (by omega) _ hF (Yw _ _ (Yw _ _ (by simp))),Zcg,Zcg,UG h1];simp [JG,ZjY]
def kat (k:K4):Nat -> Int
 | 0=>k.1
 | 1=>k.2.1
 | 2=>k.2.2.1
 | _=>k.2.2.2
def Zbn (k:K4) (j:Nat) (x:Int):K4:=match j with
 | 0=>(x,k.2)
 | 1=>(k.1,x,k.2.2)
 | 2=>(k.1,k.2.1,x,k.2.2.2)
 | _=>(k.1,k.2.1,k.2.2.1,x)
def kc (k:K4):Array Value:=#[.int .i64 k.1,.int .i64 k.2.1,.int .i64 k.2.2.1,.int .i64 k.2.2.2]
theorem ZjK (k:K4) {j:Nat} (hj:j < 4) (x:Int):(kc k).setIfInBounds j (.int .i64 x) = kc (Zbn k j x):=by
 rcases (show j = 0 ∨ j = 1 ∨ j = 2 ∨ j = 3 by omega) with rfl | rfl | rfl | rfl <;> simp [kc,Zbn]
theorem ZjL (k:K4) {j:Nat} (hj:j < 4):(kc k)[j]? = some (.int .i64 (kat k j)):=by
 rcases (show j = 0 ∨ j = 1 ∨ j = 2 ∨ j = 3 by omega) with rfl | rfl | rfl | rfl <;> simp [kc,kat]
theorem ZjM {k:K4} (h:kOk k) (j:Nat) : 0 <= kat k j /\ kat k j <= 1000001:=by
 obtain ⟨h0,h1,h2,h3⟩:=h;unfold kat;split <;> assumption
theorem Zis {k:K4} (h:kOk k) (j:Nat) {x:Int} (hx : 0 <= x /\ x <= 1000001):kOk (Zbn k j x):=by
 obtain ⟨h0,h1,h2,h3⟩:=h;unfold Zbn;split
 ·exact ⟨hx,h1,h2,h3⟩
 ·exact ⟨h0,hx,h2,h3⟩
 ·exact ⟨h0,h1,hx,h3⟩
 ·exact ⟨h0,h1,h2,hx⟩
def ZjI (k:K4) (n:Nat):K4:=(if 1 < n then k.2.1 else 0,if 2 < n then k.2.2.1 else 0,if 3 < n then k.2.2.2 else 0,0)
theorem Zit {k:K4} (h:kOk k) (n:Nat):kOk (ZjI k n):=by
 obtain ⟨h0,h1,h2,h3⟩:=h;unfold ZjI;refine ⟨?_,?_,?_,Int.le_refl 0,by show (0:Int) <= 1000001;decide⟩
 ·show 0 <= (if 1 < n then k.2.1 else 0) /\ (if 1 < n then k.2.1 else 0) <= 1000001;split
  ·exact h1
  ·decide
 ·show 0 <= (if 2 < n then k.2.2.1 else 0) /\ (if 2 < n then k.2.2.1 else 0) <= 1000001;split
  ·exact h2
  ·decide
 ·show 0 <= (if 3 < n then k.2.2.2 else 0) /\ (if 3 < n then k.2.2.2 else 0) <= 1000001;split
  ·exact h3
  ·decide
theorem Zda {h k:K4} {j:Nat} (h0:kat h j = 0) (z:Int):Zbn h j (z + 1) = k ↔ h = Zbn k j 0 /\ z = kat k j - 1:=by
 obtain ⟨h1,h2,h3,h4⟩:=h;obtain ⟨k1,k2,k3,k4⟩:=k;unfold Zbn kat at *
 split at h0 <;> simp only [Prod.mk.injEq] at * <;> omega
theorem Zcl (k:K4) (j:Nat) (x:Int):kat (Zbn k j x) j = x:=by
 match j with
 | 0=>rfl
 | 1=>rfl
 | 2=>rfl
 | _ + 3=>rfl
theorem Zg1 {h:List Int} {j:Nat} (hl:h.length = j) (hj:j < 4) (z:Int):Zbn (kOf h) j (z + 1) = kOf (h ++ [z]) /\ kat (kOf h) j = 0:=by
 rcases (show j = 0 ∨ j = 1 ∨ j = 2 ∨ j = 3 by omega) with rfl | rfl | rfl | rfl
 ·match h,hl with
  | [],_=>exact ⟨rfl,rfl⟩
 ·match h,hl with
  | [a],_=>exact ⟨rfl,rfl⟩
 ·match h,hl with
  | [a,b],_=>exact ⟨rfl,rfl⟩
 ·match h,hl with
  | [a,b,c],_=>exact ⟨rfl,rfl⟩
def lv (j:Nat) (T:List (K4 × Int)) (h:K4) (z:Int):Option Int:=if kat h j = 0 then JG T (Zbn h j (z + 1)) else none
theorem Zbi {κ ν : Type} [DecidableEq κ] (T:List (κ × ν)) (k : κ) (c : ν) (k' : κ) (hn:JG T k = none):JG (T ++ [(k,c)]) k' = if k' = k then some c else JG T k':=by
 rw [<- Ux c hn];by_cases e:k' = k
 ·rw [e,JP,if_pos rfl]
 ·rw [JZ T c e,if_neg e]
theorem Zcj {j:Nat} {T:List (K4 × Int)} {k:K4} (c:Int) (hn:JG T k = none) (h:K4) (z:Int):lv j (T ++ [(k,c)]) h z = if h = Zbn k j 0 /\ z = kat k j - 1 then some c else lv j T h z:=by
 unfold lv;by_cases h0:kat h j = 0
 ·rw [if_pos h0,if_pos h0,Zbi T k c _ hn];by_cases e:Zbn h j (z + 1) = k
  ·rw [if_pos e,if_pos ((Zda h0 z).1 e)]
  ·rw [if_neg e,if_neg (fun e'=>e ((Zda h0 z).2 e'))]
 ·rw [if_neg h0,if_neg h0,if_neg (fun e=>h0 (by rw [e.1];exact Zcl k j 0))]
theorem Zas {κ ν : Type} [DecidableEq κ]:∀ {T:List (κ × ν)} {k : κ} {c : ν},(T.map (·.1)).Nodup -> (k,c) ∈ T -> JG T k = some c:=by
 intro T
 induction T with
 | nil=>intro k c _ h;cases h
 | cons p T ih=>
  obtain ⟨k0,c0⟩:=p;intro k c hn h;simp only [List.map_cons,List.nodup_cons] at hn;rcases List.mem_cons.1 h with h | h
  ·injection h with h1 h2
   rw [h1,h2];simp [JG]
  ·have hne:k0 ≠ k:=fun e=>hn.1 (e ▸ List.mem_map_of_mem (f:=(·.1)) h);have:=ih hn.2 h;simpa [JG,hne] using this
theorem Ze1 {κ ν : Type} [DecidableEq κ] {S T:List (κ × ν)} (hn:(T.map (·.1)).Nodup) (hp:S.Perm T) (k : κ):JG S k = JG T k:=by
 have hs:(S.map (·.1)).Nodup:=(hp.map _).nodup_iff.2 hn;cases h:JG T k with
 | some c=>exact Zas hs (hp.mem_iff.2 (Xh h))
 | none=>exact XZ.2 fun p hp'=>XZ.1 h p (hp.mem_iff.1 hp')
theorem Ze7 {j:Nat} {S T:List (K4 × Int)} (hn:(T.map (·.1)).Nodup) (hp:S.Perm T) (h:K4) (z:Int):lv j S h z = lv j T h z:=by
 unfold lv;rw [Ze1 hn hp]
structure LvX (w:World) (base b j:Nat) (T:List (K4 × Int)) (ls:List (K4 × Nat)):Prop where
 map:Zf7 w b ls
 inj:∀ p ∈ ls,∀ q ∈ ls,p.2 = q.2 -> p = q
 inn:∀ p ∈ ls,base <= p.2 /\ ∃ mm,Zeb w p.2 mm /\ ∀ z,JG mm z = lv j T p.1 z
 non:∀ k,JG ls k = none -> ∀ z,lv j T k z = none
theorem LvX.same {w w':World} {base b j:Nat} {T:List (K4 × Int)} {ls:List (K4 × Nat)} (h:LvX w base b j T ls) (hb:w'.heap[b]? = w.heap[b]?) (hi:∀ x,base <= x -> x < w.heap.size -> w'.heap[x]? = w.heap[x]?):LvX w' base b j T ls:=
 ⟨h.map.same hb,h.inj,fun p hp=>by obtain ⟨h1,mm,h2,h3⟩:=h.inn p hp;exact ⟨h1,mm,h2.same (hi _ h1 h2.lt),h3⟩,h.non⟩
theorem LvX.below {w w':World} {base b j:Nat} {T:List (K4 × Int)} {ls:List (K4 × Nat)} (h:LvX w base b j T ls) (hb:Below w.heap.size w w'):LvX w' base b j T ls:=h.same (hb.block b h.map.lt) (fun x _ hx=>hb.block x hx)
theorem LvX.fresh {w w':World} {base b j ib:Nat} {T:List (K4 × Int)} {ls:List (K4 × Nat)} {key:K4} (h:LvX w base b j T ls) (hn:JG ls key = none) (hm:Zf7 w' b (Yd ls key ib)) (hi:Zeb w' ib []) (hib:w.heap.size <= ib) (hbi:base <= ib) (hs:∀ x,base <= x -> x < w.heap.size -> w'.heap[x]? = w.heap[x]?):LvX w' base b j T (Yd ls key ib):=by
 have e:=Ux ib hn;refine ⟨hm,?_,?_,?_⟩
 ·rw [e];intro p hp q hq he;rcases List.mem_append.1 hp with hp | hp <;> rcases List.mem_append.1 hq with hq | hq
  ·exact h.inj p hp q hq he
  ·obtain ⟨_,mm,h2,_⟩:=h.inn p hp;have:=h2.lt;rw [List.mem_singleton.1 hq] at he;simp only at he;omega
  ·obtain ⟨_,mm,h2,_⟩:=h.inn q hq;have:=h2.lt;rw [List.mem_singleton.1 hp] at he;simp only at he;omega
  ·rw [List.mem_singleton.1 hp,List.mem_singleton.1 hq]
 ·rw [e];intro p hp;rcases List.mem_append.1 hp with hp | hp
  ·obtain ⟨h1,mm,h2,h3⟩:=h.inn p hp;exact ⟨h1,mm,h2.same (hs _ h1 h2.lt),h3⟩
  ·rw [List.mem_singleton.1 hp];exact ⟨hbi,[],hi,fun z=>by rw [h.non key hn z];rfl⟩
 ·intro k hk z;rw [e,Zbi ls key ib k hn] at hk;by_cases e2:k = key
  ·rw [if_pos e2] at hk;cases hk
  ·rw [if_neg e2] at hk;exact h.non k hk z
theorem LvX.put {w w':World} {base b j ib:Nat} {T:List (K4 × Int)} {ls:List (K4 × Nat)} {k:K4} {c:Int} {mm:List (Int × Int)} (h:LvX w base b j T ls) (hg:JG ls (Zbn k j 0) = some ib) (hT:JG T k = none) (hm:∀ z,JG mm z = lv j T (Zbn k j 0) z) (hi':Zeb w' ib (Yd mm (kat k j - 1) c)) (hb:Zf7 w' b ls) (hs:∀ x,base <= x -> x < w.heap.size -> x ≠ ib -> w'.heap[x]? = w.heap[x]?):LvX w' base b j (T ++ [(k,c)]) ls:=by
 have hmem:=Xh hg;refine ⟨hb,h.inj,fun p hp=>?_,fun k' hk' z=>?_⟩
 ·by_cases e:p.2 = ib
  ·have e2:=h.inj p hp _ hmem e;rw [e2];refine ⟨(h.inn _ hmem).1,_,hi',fun z=>?_⟩;rw [Zcj c hT];by_cases ez:z = kat k j - 1
   ·rw [ez,JP,if_pos ⟨rfl,rfl⟩]
   ·rw [JZ mm c ez,if_neg (fun e=>ez e.2)];exact hm z
  ·obtain ⟨h1,mm',h2,h3⟩:=h.inn p hp;refine ⟨h1,mm',h2.same (hs _ h1 h2.lt e),fun z=>?_⟩;rw [h3,Zcj c hT,if_neg];intro e2;apply e;have e3:JG ls p.1 = some ib:=(by rw [e2.1];exact hg);have e4:=Zas h.map.nodup (show (p.1,p.2) ∈ ls from hp);rw [e3] at e4;injection e4 with e4
   exact e4.symm
 ·rw [Zcj c hT,if_neg,h.non k' hk' z];intro e;rw [e.1,hg] at hk';cases hk'
theorem LvX.lvl {w:World} {base b j:Nat} {S:List (K4 × Int)} {ls:List (K4 × Nat)} (h:LvX w base b j S ls) (hS:∀ p ∈ S,1 <= kat p.1 j /\ kat p.1 j <= 2001 /\ 0 <= p.2 /\ p.2 <= 1073741824):Lvl w b (fun h z=>(lv j S h z).getD 0):=by
 refine ⟨⟨ls,h.map,fun p hp=>?_,fun k hk z=>by rw [h.non k hk z];rfl⟩⟩;obtain ⟨h1,mm,h2,h3⟩:=h.inn p hp;refine ⟨mm,h2,fun z=>by rw [h3],fun q hq=>?_⟩;have e1:=Zas h2.nodup (show (q.1,q.2) ∈ mm from hq);rw [h3] at e1;unfold lv at e1;by_cases h0:kat p.1 j = 0
 ·rw [if_pos h0] at e1;have h4:=hS _ (Xh e1);simp only [Zcl] at h4;omega
 ·rw [if_neg h0] at e1;cases e1
def Ym (m:List (K4 × Int)):Tbl -> List (K4 × Int)
 | []=>m
 | g :: l=>Ym (Yd m (kOf g.1) g.2) l
theorem ZbA (l l':Tbl):∀ m,Ym m (l ++ l') = Ym (Ym m l) l':=by
 induction l with
 | nil=>intro m;rfl
 | cons g l ih=>intro m;exact ih _
theorem ZdX (m:List (K4 × Int)) (l:Tbl) (g:List Int × Int):Ym m (l ++ [g]) = Yd (Ym m l) (kOf g.1) g.2:=by rw [ZbA];rfl
theorem Qa {P:K4 × Int -> Prop}:∀ (l:Tbl) (m:List (K4 × Int)),(∀ p ∈ m,P p) -> (∀ g ∈ l,P (kOf g.1,g.2)) -> ∀ p ∈ Ym m l,P p
 | [],m,h,_=>h
 | g :: l,m,h,hg=>Qa l _ (fun p hp=>by
  rcases Yi hp with rfl | hp
  ·exact hg g (by simp)
  ·exact h p hp) (fun x hx=>hg x (by simp [hx]))
theorem Zbz:∀ (l:Tbl) (m:List (K4 × Int)) (k:K4),l.Pairwise (fun a b=>kOf a.1 ≠ kOf b.1) -> (∀ g ∈ l,JG m (kOf g.1) = none) -> (JG (Ym m l) k).getD 0 = (JG m k).getD 0 + Xj l k
 | [],m,k,_,_=>by simp [Ym,Xj]
 | g :: l,m,k,hp,hm=>by
  obtain ⟨h1,h2⟩:=List.pairwise_cons.1 hp;show (JG (Ym (Yd m (kOf g.1) g.2) l) k).getD 0 = _;rw [Zbz l _ k h2 (fun x hx=>by rw [JZ m g.2 (fun e=>h1 x hx e.symm)];exact hm x (by simp [hx]))];simp only [Xj];by_cases e:kOf g.1 = k
  ·rw [if_pos e,<- e,JP,hm g (by simp)];simp
  ·rw [if_neg e,JZ m g.2 (fun e'=>e e'.symm)];omega
end Go.Proofs.YtcjicjfbippmnaaGreat
namespace Ear

def ZaT (vs:List (List Int)) (n k j:Nat):List Int:=(List.range n).map fun c=>if c < j then Qn vs c (k + 1) else Qn vs c k
theorem ZeQ (vs:List (List Int)) (n k:Nat):ZaT vs n k 0 = QH vs n k:=by
 unfold ZaT QH;apply List.map_congr_left;intro c _;rw [if_neg (by omega)]
theorem ZgL (vs:List (List Int)) (n k:Nat):ZaT vs n k n = QH vs n (k + 1):=by
 unfold ZaT QH;apply List.map_congr_left;intro c hc;rw [if_pos (List.mem_range.1 hc)]
theorem UQ (vs:List (List Int)) (n k j:Nat):(ZaT vs n k j).length = n:=by simp [ZaT]
theorem ZgK {vs:List (List Int)} {n k j:Nat} (hj:j < n):(ZaT vs n k j)[j]?.getD 0 = Qn vs j k:=by
 simp [ZaT,List.getElem?_range hj]
theorem ZgJ {vs:List (List Int)} {n k j:Nat}:(ZaT vs n k j).set j (Qn vs j k + (vs[k]?.getD [])[j]?.getD 0) = ZaT vs n k (j + 1):=by
 apply List.ext_getElem (by simp [ZaT]);intro q h1 h2;have hq:q < n:=by simpa [ZaT] using h2
 rw [List.getElem_set];simp only [ZaT,List.getElem_map,List.getElem_range];by_cases e:j = q
 ·subst e;rw [if_pos rfl,if_pos (by omega)];rfl
 ·rw [if_neg e];by_cases h3:q < j
  ·rw [if_pos h3,if_pos (by omega)]
  ·rw [if_neg h3,if_neg (by omega)]
theorem Zi0 {lo hi:Int} {l:List Int} (h:Xx lo hi l = true) {k:Nat} (hk:k < l.length):lo <= l[k]?.getD 0 /\ l[k]?.getD 0 <= hi:=by
 rw [List.getElem?_eq_getElem hk,Option.getD_some];exact Zd h (List.getElem_mem hk)
def gD (va vb:List (List Int)) (c:Nat):Int:=Qn va c va.length * vb.length - Qn vb c vb.length * va.length
def gI (va vb:List (List Int)):Nat -> Int
 | 0=>0
 | c + 1=>gI va vb c + gD va vb c * gD va vb c
def Zg9 (va vb:List (List Int)):Rat:=(gI va vb (len0 va):Rat) * (((va.length * vb.length * (va.length + vb.length):Nat):Int):Rat)⁻¹
end Ear
namespace Go.Proofs.YtcjicjfbippmnaaGreat
open Go.RowKit Ear

theorem Za5 (A:Option Addr) (c n:Nat) (L:List Inn) (w:World) (hA:LL w A L) (hv:Hid (Vcs n (Jx L))) (h0 : 0 < L.length) (hn:L.length <= 10000) (hn2:n <= 1000) :
  Calls Tryz.prog 114 #[.slice A L.length c] w fun e w'=>∃ A c,e = .returned (.slice A n c) /\ w'.ownsRow w.heap.size 3 1 (.slice A n c) n (ics (QH (Jx L) n L.length)) /\ Below w.heap.size w w':=by
 have HVL:Hid ((Jx L).length = L.length):=zH (by simp);have HL0:Hid (L[0].2.2.length = n):=zH (by
  have:=(hv.out.getD (t:=0) (by rw [HVL.out];exact h0)).1;rw [List.getElem?_map,gE h0] at this;exact this)
 obtain ⟨b0,o0,rfl,hb0,hc0⟩:=hA.lies.lat h0;rw [HL0.out,Nat.add_zero] at hc0;generalize L[0] = X0 at *
 go_enter Tryz.func114,Tryz.ntmps114;go_wp2_with fail;obtain ⟨w1,hmk,ho1,hb1⟩:=Zr w n (by omega) w.heap.size nR;rw [hmk];clear hmk;rw [<- Zew (Jx L) n] at ho1;generalize hz:(Value.slice (some ⟨w.heap.size,0,none⟩) n n) = s0 at *
 obtain ⟨A0,c0,rfl⟩:=Xe ho1;clear hz;go_wp2_with fail;go_loopw [5,6,7,15] (fun _ _ _ i wr=>∃ k:Nat,k <= L.length /\ i = .int .i64 k /\ wr.ownsRow w.heap.size 3 1 (.slice A0 n c0) n (ics (QH (Jx L) n k)) /\ Below w.heap.size w wr) (fun _ _ _ i _=>L.length - (intOf i).toNat)
 case atStart=>exact ⟨0,by omega,rfl,ho1,hb1⟩
 case round=>
  obtain ⟨k,hk,rfl,r1,r2⟩:=hrel;by_cases hlt:k < L.length
  ·obtain ⟨bk,off,eA,hbk,hc⟩:=(hA.below r2).lies.lat hlt;cases eA;have hx:=fun W (hW:Below w.heap.size w W)=>(hA.below hW).inn _ (yM hlt);have hget:=hv.out.getD (t:=k) (by rw [HVL.out];exact hlt);have HB:=zH (fun c t=>Qb (fun x hx=>(hv.out x hx).2) c t);have HE:Hid ((Jx L)[k]?.getD [] = L[k].2.2):=zH (Q8 hlt);rw [Q8 hlt] at hget;generalize L[k] = X at *
   obtain ⟨XA,Xc,xl⟩:=X;simp only at *
   obtain ⟨hxn,hxb⟩:=hget;have HX:=zH hx;have HXB:=zH hxb;have HP:wr.ownsRow w.heap.size 3 1 (.slice A0 n c0) n (ics (ZaT (Jx L) n k 0)):=(by rw [ZeQ];exact r1);rw [hxn] at hc;have HXN:=zH hxn;clear hx hxb r1 ho1 hxn;go_wp2_with fail;go_loopw [6,7,21] (fun _ _ i wr=>∃ j:Nat,j <= n /\ i = .int .i64 j /\ wr.ownsRow w.heap.size 3 1 (.slice A0 n c0) n (ics (ZaT (Jx L) n k j)) /\ Below w.heap.size w wr) (fun _ _ i _=>n - (intOf i).toNat)
   case atStart=>exact ⟨0,by omega,rfl,HP,r2⟩
   case round=>
    obtain ⟨j,hj,rfl,s1,s2⟩:=hrel;clear HP r2 hc;by_cases hjl:j < n
    ·obtain ⟨bx,ox,rfl,hbx,hcx⟩:=(HX.out _ s2).1.at_ (k:=j) (by rw [HXN.out];exact hjl);obtain ⟨g,cap,hv',hgg,hglt⟩:=s1.form (by omega);obtain rfl:A0 = some ⟨g,0,none⟩:=(by injection hv');clear hv' cap;have q1:wr.cell? ⟨g,j,none⟩ = some (.int .i64 (Qn (Jx L) j k)):=by
      rw [s1.cellAt j (by omega)];have:=ZgK (vs:=Jx L) (k:=k) hjl;rw [gE (by rw [UQ];exact hjl)] at this;simp only [List.getElem?_map,gE (show j < (ZaT (Jx L) n k j).length by rw [UQ];exact hjl)];simp at this;simp [this]
     have q2:wr.frozen? ⟨g,j,none⟩ = false:=s1.frozenAt j;have b1:=HB.out j k;have b2:=Zi0 HXB.out (show j < xl.length by rw [HXN.out];exact hjl);have HS:Hid ((ZaT (Jx L) n k j).set j (Qn (Jx L) j k + xl[j]?.getD 0) = ZaT (Jx L) n k (j + 1)):=zH (by rw [<- ZgJ,HE.out]);have HO:=zH s1;have HS2:=zH s2;generalize Qn (Jx L) j k = y at *
     generalize xl[j]?.getD 0 = x at *
     clear s1 s2;go_wp2_with fail;refine ⟨⟨j + 1,by omega,by go_num,?_,HS2.out.setCell hgg _⟩,by simp [intOf];omega⟩;have hst:=HO.out.stored j (.int .i64 (y + x));rw [<- List.map_set,HS.out] at hst;exact hst.1
    ·obtain rfl:j = n:=(by omega);have HF:Hid (wr.ownsRow w.heap.size 3 1 (.slice A0 j c0) j (ics (QH (Jx L) j (k + 1)))):=zH (by rw [<- ZgL];exact s1);clear s1;go_wp2_with fail;exact ⟨⟨k + 1,by omega,by go_num,HF.out,s2⟩,by simp [intOf];omega⟩
  ·obtain rfl:k = L.length:=by omega
   go_wp2_with fail;go_ret;exact ⟨A0,c0,rfl,r1,r2⟩
def TSt (u u':World):Prop:=u.heap.size <= u'.heap.size /\ ∀ b,b < u.heap.size -> u'.heap[b]? = u.heap[b]? ∨ ((∃ x,Fb u b x) /\ ∃ x,Fb u' b x)
theorem TSt.put {u:World} {k:Nat} {x:Fr} (h:Fb u k x) (r:Fr):TSt u (((u.setCell ⟨k,0,none⟩ (.bool r.neg)).setCell ⟨k,1,none⟩ (.slice r.A r.N.length r.c)).setCell ⟨k,2,none⟩ (.slice r.B r.D.length r.d)):=
 ⟨by simp,fun b _=>by
  by_cases e:b = k
  ·subst e;exact .inr ⟨⟨x,h⟩,r,h.put⟩
  ·exact .inl (J5 e _ _ _)⟩
theorem ZgY {u u':World} {A:Option Addr} {l:List Int} (h:Lies u A (ucs l)) (ht:TSt u u'):Lies u' A (ucs l):=fun h0=>by
 obtain ⟨b,off,e,hlt,hc⟩:=h h0;rcases ht.2 b hlt with e2 | ⟨⟨x,hx⟩,_⟩
 ·exact ⟨b,off,e,Nat.lt_of_lt_of_le hlt ht.1,fun j v hv=>by
   rw [<- hc j v hv];exact World.cell?_of_block (a:=⟨b,off + j,none⟩) e2⟩
 ·exfalso;have hl : 0 < l.length:=by simpa using h0
  have:=hc 0 (.int .u32 l[0]) (by simp [gE hl]);rw [cell_of_row u b _ _ _ _ hx] at this;rcases (show off + 0 = 0 ∨ off + 0 = 1 ∨ off + 0 = 2 ∨ 3 <= off + 0 by omega) with e | e | e | e
  ·rw [e] at this;simp at this
  ·rw [e] at this;simp at this
  ·rw [e] at this;simp at this
  ·rw [Array.getElem?_eq_none (by simpa using e)] at this;cases this
theorem ZhN {u u':World} {A:Option Addr} {c:Nat} {l:List Int} (h:Dg u A c l) (ht:TSt u u'):Dg u' A c l:=⟨ZgY h.lies ht,h.dig,h.cap,h.nil⟩
theorem ZhH {u u':World} {x:Fr} {q:Rat} (h:Fq u x q) (ht:TSt u u'):Fq u' x q:=⟨⟨ZhN h.ok.n ht,ZhN h.ok.d ht⟩,h.neg,h.num,h.dn⟩
def isFb (base:Nat):Value -> World -> Prop:=fun v u=>∃ k,v = .pointer (some ⟨k,0,none⟩) /\ base <= k /\ Hid (∃ x,Fb u k x)
theorem Keeps.isFb (base:Nat):Keeps (isFb base):=fun _ _ _ ⟨k,h1,h2,h3⟩ hb=>⟨k,h1,h2,zH (by obtain ⟨x,hx⟩:=h3.out;exact ⟨x,hx.below hb⟩)⟩
def isT:Value -> World -> Prop:=fun _ _=>True
theorem Keeps.isT:Keeps isT:=fun _ _ _ _ _=>trivial
def KeepS (p:Value -> World -> Prop):Prop:=∀ v w w',p v w -> TSt w w' -> p v w'
theorem KeepS.isV (v:Value):KeepS (isV v):=fun _ _ _ h _=>h
theorem KeepS.isT:KeepS isT:=fun _ _ _ _ _=>trivial
theorem KeepS.isFq (q:Rat):KeepS (isFq q):=fun _ _ _ ⟨r,h1,h2⟩ hb=>⟨r,h1,zH (ZhH h2.out hb)⟩
theorem KeepS.isTq (q:Rat):KeepS (isTq q):=fun _ _ _ ⟨r,h1,h2⟩ hb=>⟨r,h1,zH (ZhH h2.out hb)⟩
theorem KeepS.isFb (base:Nat):KeepS (isFb base):=fun _ _ _ ⟨k,h1,h2,h3⟩ hb=>⟨k,h1,h2,zH (by
 obtain ⟨x,hx⟩:=h3.out;rcases hb.2 k hx.lt with e | ⟨_,h⟩
 ·exact ⟨x,e.trans hx⟩
 ·exact h)⟩
theorem Gl.keepS {l:List (Value -> World -> Prop)} (h:∀ p ∈ l,KeepS p):∀ j v w w',Gl l j v w -> TSt w w' -> Gl l j v w':=by
 intro j v w w' hj hb;unfold Gl at *
 by_cases hl:j < l.length
 ·have e:l.getD j (fun _ _=>True) = l[j]:=by rw [List.getD_eq_getElem?_getD,gE hl];rfl
  rw [e] at hj ⊢;exact h _ (yM hl) _ _ _ hj hb
 ·have e:l.getD j (fun _ _=>True) = fun _ _=>True:=by rw [List.getD_eq_getElem?_getD,List.getElem?_eq_none (Nat.le_of_not_lt hl)];rfl
  rw [e];trivial
def HoldsQ (d base:Nat) (q:Rat) (t:Array Value) (u:World):Prop:=∃ (k:Nat) (r:Fr),t.getD d undef = .pointer (some ⟨k,0,none⟩) /\ base <= k /\ Hid (Fb u k r) /\ Hid (Fq u r q)
theorem HoldsQ.keep {d base:Nat} {q:Rat}:∀ t t' w w',(∀ k ∈ [d],t'.getD k undef = t.getD k undef) -> Below w.heap.size w w' -> HoldsQ d base q t w -> HoldsQ d base q t' w':=
 fun _ _ _ _ h hb ⟨k,r,h1,h2,h3,h4⟩=>⟨k,r,(h d (List.mem_singleton.2 rfl)).trans h1,h2,zH (h3.out.below hb),zH (h4.out.below hb)⟩
end Go.Proofs.YtcjicjfbippmnaaGreat
