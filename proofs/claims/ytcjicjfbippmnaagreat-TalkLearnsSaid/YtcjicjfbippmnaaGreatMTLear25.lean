/- TalkLearns -/
import Derived.Test.YtcjicjfbippmnaaGreatMTLear24
set_option maxRecDepth 100000
set_option maxHeartbeats 32000000
namespace Go.Proofs.YtcjicjfbippmnaaGreat
open Go.RowKit Ear

def Xl:Tbl -> K4 -> Int
 | [],_=>0
 | g :: l,k=>(if kOf g.1 = k then g.2 else 0) + Xl l k
theorem UB {a b:Tbl} (h:a.Perm b) (k:K4):Xl a k = Xl b k:=by
 induction h with
 | nil=>rfl
 | cons x _ ih=>simp only [Xl,ih]
 | swap x y l=>simp only [Xl];omega
 | trans _ _ h1 h2=>exact h1.trans h2
theorem Za5 {l:Tbl} {k:K4} (h:∀ g ∈ l,kOf g.1 ≠ k):Xl l k = 0:=by
 induction l with
 | nil=>rfl
 | cons g l ih=>
  simp only [Xl];rw [if_neg (h g (by simp)),ih fun x hx=>h x (by simp [hx])];rfl
theorem ZgT {l:Tbl} (h:∀ g ∈ l,0 <= g.2) (k:K4) : 0 <= Xl l k:=by
 induction l with
 | nil=>simp [Xl]
 | cons g l ih=>
  have h1:=ih fun x hx=>h x (by simp [hx]);have h2:=h g (by simp);simp only [Xl];split <;> omega
theorem Zb8:∀ (l:Tbl) (m:List (K4 × Int)) (k:K4),(J7 (mrg m l) k).getD 0 = (J7 m k).getD 0 + Xl l k
 | [],m,k=>by simp [mrg,Xl]
 | g :: l,m,k=>by
  show (J7 (mrg (Y0 m (kOf g.1) _) l) k).getD 0 = _;rw [Zb8 l _ k];simp only [Xl];by_cases h:kOf g.1 = k
  ·subst h;rw [Y6,if_pos rfl];simp only [Option.getD_some];omega
  ·rw [ZO _ _ (fun e=>h e.symm),if_neg h];omega
theorem Zaj {o:Nat} {v:Int} (ho:o <= 4):∀ (m:List (K4 × Int)),FromG o v m -> (m.map (·.1)).Nodup -> ∀ k,Xl (m.map fun p=>(gmW o p.1,p.2)) k = (J7 m k).getD 0
 | [],_,_,k=>by simp [Xl,J7]
 | p :: m,hf,hn,k=>by
  obtain ⟨_,g,h1,h2,_⟩:=hf p (by simp);have hk:kOf (gmW o p.1) = p.1:=by rw [h2,Ys h1 ho]
  simp only [List.map_cons,List.nodup_cons] at hn;have ih:=Zaj ho m (fun q hq=>hf q (by simp [hq])) hn.2 k;simp only [List.map_cons,Xl,J7,hk,ih];by_cases h:p.1 = k
  ·rw [if_pos h,if_pos h];have:J7 m k = none:=Zl.2 fun q hq e=>hn.1 (by rw [h,<- e];exact List.mem_map_of_mem (f:=fun x:K4 × Int=>x.1) hq);rw [this];simp
  ·rw [if_neg h,if_neg h];omega
theorem Zca {a b:List Int} {o:Nat} (ho:o <= 4) (ha:a.length = o) (hb:b.length = o) (h:kOf a = kOf b):a = b:=by
 rw [<- Ys ha ho,h,Ys hb ho]
theorem VP {o v:Int} {l:Tbl} (h:XH o v l = 0):l.Pairwise fun x y=>J3 x.1 y.1 < 0:=by
 obtain ⟨_,_,h3⟩:=JP.1 h;have step:∀ k,(hk:k + 1 < l.length) -> J3 l[k].1 l[k + 1].1 < 0:=fun k hk=>by
  have hr:=List.all_eq_true.1 h3 (k + 1) (List.mem_range.2 hk);unfold Xr at hr;rw [JU hk] at hr;simp only [Bool.and_eq_true,Bool.or_eq_true,beq_iff_eq,decide_eq_true_eq,Nat.add_sub_cancel] at hr;rw [JU (by omega)] at hr;rcases hr.2 with h | h
  ·omega
  ·exact h
 rw [List.pairwise_iff_getElem];intro i j hi hj hij;obtain ⟨d,rfl⟩:∃ d,j = i + 1 + d:=⟨j - (i + 1),by omega⟩;clear hij
 induction d with
 | zero=>exact step i hj
 | succ d ih=>exact XO (ih (by omega)) (step (i + 1 + d) hj)
theorem ZdL {o:Nat} (ho:o <= 4):∀ (a b:Tbl),a.Pairwise (fun x y=>J3 x.1 y.1 < 0) -> b.Pairwise (fun x y=>J3 x.1 y.1 < 0) -> (∀ g ∈ a,g.1.length = o /\ 1 <= g.2) -> (∀ g ∈ b,g.1.length = o /\ 1 <= g.2) -> (∀ k,Xl a k = Xl b k) -> a = b:=by
 have pos:∀ (g:List Int × Int) (l:Tbl),(∀ x ∈ g :: l,x.1.length = o /\ 1 <= x.2) -> 1 <= Xl (g :: l) (kOf g.1):=fun g l h=>by
  have h1:=ZgT (l:=l) (fun x hx=>by have:=(h x (by simp [hx])).2;omega) (kOf g.1);have h2:=(h g (by simp)).2;simp only [Xl];rw [if_pos trivial];omega
 have far:∀ (g:List Int × Int) (l:Tbl),g.1.length = o -> (∀ x ∈ l,x.1.length = o /\ 1 <= x.2) -> (∀ x ∈ l,J3 g.1 x.1 < 0) -> Xl l (kOf g.1) = 0:=fun g l h0 h h2=>Za5 fun x hx e=>by
  have e1:=Zca ho (h x hx).1 h0 e;have h3:=h2 x hx;rw [e1,Xn.2 rfl] at h3;omega
 intro a
 induction a with
 | nil=>
  intro b _ _ _ hb hk;cases b with
  | nil=>rfl
  | cons g l=>have h1:=pos g l hb;rw [<- hk] at h1;simp [Xl] at h1
 | cons g l ih=>
  intro b pa pb ha hb hk;cases b with
  | nil=>have h1:=pos g l ha;rw [hk] at h1;simp [Xl] at h1
  | cons g' l'=>
   simp only [List.pairwise_cons] at pa pb;have hg:=(ha g (by simp)).1;have hg':=(hb g' (by simp)).1;have n1:¬ J3 g.1 g'.1 < 0:=fun hlt=>by
    have h1:=pos g l ha;rw [hk,far g (g' :: l') hg hb (fun x hx=>by
     rcases List.mem_cons.1 hx with rfl | hx
     ·exact hlt
     ·exact XO hlt (pb.1 x hx))] at h1
    omega
   have n2:¬ J3 g'.1 g.1 < 0:=fun hlt=>by
    have h1:=pos g' l' hb;rw [<- hk,far g' (g :: l) hg' ha (fun x hx=>by
     rcases List.mem_cons.1 hx with rfl | hx
     ·exact hlt
     ·exact XO hlt (pa.1 x hx))] at h1
    omega
   have e1:g.1 = g'.1:=Xn.1 (by have:=VD g.1 g'.1;omega);have z1:=far g l hg (fun x hx=>ha x (by simp [hx])) pa.1;have z2:=far g' l' hg' (fun x hx=>hb x (by simp [hx])) pb.1;have e2:g.2 = g'.2:=by
    have h1:=hk (kOf g.1);simp only [Xl] at h1;rw [if_pos trivial,if_pos (by rw [e1]),z1,e1,z2] at h1;omega
   have e3:g = g':=Prod.ext e1 e2;subst e3;rw [ih l' pa.2 pb.2 (fun x hx=>ha x (by simp [hx])) (fun x hx=>hb x (by simp [hx])) fun k=>by
    have h1:=hk k;simp only [Xl] at h1;omega]
theorem ZhY {o:Nat} {v v':Int} {a b:Tbl} (ha:XH o v a = 0) (hb:XH o v' b = 0) (h:∀ k,Xl a k = Xl b k):a = b:=by
 have ho:(o:Int) <= 4:=(JL.1 (JP.1 ha).2.1).2.1;refine ZdL (o:=o) (by omega) a b (VP ha) (VP hb) (fun g hg=>?_) (fun g hg=>?_) h
 ·have:=XQ ha g hg;exact ⟨by omega,by omega⟩
 ·have:=XQ hb g hg;exact ⟨by omega,by omega⟩
def Zit (o:Nat) (s:List Int) (n:Int) (k:K4):Int:=Xl ((Yg o s (s.length + 1)).map fun q=>(gmW o q.1,q.2 * n)) k
theorem ZeX {o:Nat} {v n:Int} {s:List Int} {T T1 T2:Tbl} (hz:XD o v = true) (ha:Xy 1 v s = true) (hn : 1 <= n) (hT:XH o v T = 0) (h1:T1.Perm ((Yg o s (s.length + 1)).map fun q=>(gmW o q.1,q.2 * n)))
  (h2:T2.Perm ((mrg (mrg [] T) T1).map fun q=>(gmW o q.1,q.2))) (k:K4):Xl T2 k = Xl T k + Zit o s n k:=by
 have hzz:=JL.1 hz;have hf:=Zq (o:=o) (by omega) (by omega) ha (s.length + 1) nR;have hrow:∀ g ∈ T1,g.1.length = o /\ Xy 0 v g.1 = true /\ 1 <= g.2:=fun g hg=>by
  obtain ⟨q,hq,rfl⟩:=List.mem_map.1 (h1.mem_iff.1 hg);obtain ⟨q1,x,q2,q3,q4⟩:=hf q hq;rw [q3,Ys q2 (by omega)];refine ⟨q2,q4,?_⟩;have:=Int.mul_le_mul q1 hn (by omega) (by omega);show 1 <= q.2 * n;omega
 have hF:=Y5 T1 (mrg [] T) (Y5 T [] (fun p hp=>by cases hp) (fun g hg=>by have:=XQ hT g hg;exact ⟨by omega,this.2.1,this.2.2.1⟩)) hrow;rw [UB h2,Zaj (by omega) _ hF (Yq _ _ (Yq _ _ (by simp))),Zb8,Zb8,UB h1];simp [J7,Zit]
end Go.Proofs.YtcjicjfbippmnaaGreat
namespace Ear
def ZK (T:Tbl) (g:List Int):Nat:=T.findIdx fun x=>decide (¬ J3 x.1 g < 0)
def Qq (T:Tbl) (g:List Int) (n:Int):Tbl:=
 match T[ZK T g]? with
 | some x=>if J3 x.1 g = 0 then T.set (ZK T g) (x.1,x.2 + n) else T.take (ZK T g) ++ (g,n) :: T.drop (ZK T g)
 | none=>T.take (ZK T g) ++ (g,n) :: T.drop (ZK T g)
theorem Zg4 (T:Tbl) (g:List Int):ZK T g <= T.length:=List.findIdx_le_length
end Ear
