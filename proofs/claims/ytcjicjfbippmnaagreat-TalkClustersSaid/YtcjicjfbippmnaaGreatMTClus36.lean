/- TalkClusters -/
import Derived.Test.YtcjicjfbippmnaaGreatMTClus35
set_option maxRecDepth 100000
set_option maxHeartbeats 32000000
namespace Go.Proofs.YtcjicjfbippmnaaGreat
open Go.RowKit Ear

def ZJ:Tbl -> K4 -> Int
 | [],_=>0
 | g :: l,k=>(if kOf g.1 = k then g.2 else 0) + ZJ l k
theorem ZaD {a b:Tbl} (h:a.Perm b) (k:K4):ZJ a k = ZJ b k:=by
 induction h with
 | nil=>rfl
 | cons x _ ih=>simp only [ZJ,ih]
 | swap x y l=>simp only [ZJ];omega
 | trans _ _ h1 h2=>exact h1.trans h2
theorem Zdx {l:Tbl} {k:K4} (h:∀ g ∈ l,kOf g.1 ≠ k):ZJ l k = 0:=by
 induction l with
 | nil=>rfl
 | cons g l ih=>
  simp only [ZJ];rw [if_neg (h g (by simp)),ih fun x hx=>h x (by simp [hx])];rfl
theorem ZgF {l:Tbl} (h:∀ g ∈ l,0 <= g.2) (k:K4) : 0 <= ZJ l k:=by
 induction l with
 | nil=>simp [ZJ]
 | cons g l ih=>
  have h1:=ih fun x hx=>h x (by simp [hx]);have h2:=h g (by simp);simp only [ZJ];split <;> omega
theorem ZbR:∀ (l:Tbl) (m:List (K4 × Int)) (k:K4),(J3 (mrg m l) k).getD 0 = (J3 m k).getD 0 + ZJ l k
 | [],m,k=>by simp [mrg,ZJ]
 | g :: l,m,k=>by
  show (J3 (mrg (YW m (kOf g.1) _) l) k).getD 0 = _;rw [ZbR l _ k];simp only [ZJ];by_cases h:kOf g.1 = k
  ·subst h;rw [Va,if_pos rfl];simp only [Option.getD_some];omega
  ·rw [Qc _ _ (fun e=>h e.symm),if_neg h];omega
theorem Zca {o:Nat} {v:Int} (ho:o <= 4):∀ (m:List (K4 × Int)),FromG o v m -> (m.map (·.1)).Nodup -> ∀ k,ZJ (m.map fun p=>(gmW o p.1,p.2)) k = (J3 m k).getD 0
 | [],_,_,k=>by simp [ZJ,J3]
 | p :: m,hf,hn,k=>by
  obtain ⟨_,g,h1,h2,_⟩:=hf p (by simp);have hk:kOf (gmW o p.1) = p.1:=by rw [h2,ZN h1 ho]
  simp only [List.map_cons,List.nodup_cons] at hn;have ih:=Zca ho m (fun q hq=>hf q (by simp [hq])) hn.2 k;simp only [List.map_cons,ZJ,J3,hk,ih];by_cases h:p.1 = k
  ·rw [if_pos h,if_pos h];have:J3 m k = none:=Zg.2 fun q hq e=>hn.1 (by rw [h,<- e];exact List.mem_map_of_mem (f:=fun x:K4 × Int=>x.1) hq);rw [this];simp
  ·rw [if_neg h,if_neg h];omega
theorem Zg3 {a b:List Int} {o:Nat} (ho:o <= 4) (ha:a.length = o) (hb:b.length = o) (h:kOf a = kOf b):a = b:=by
 rw [<- ZN ha ho,h,ZN hb ho]
theorem Qo {o v:Int} {l:Tbl} (h:Uq o v l = 0):l.Pairwise fun x y=>Xd x.1 y.1 < 0:=by
 obtain ⟨_,_,h3⟩:=Yf.1 h;have step:∀ k,(hk:k + 1 < l.length) -> Xd l[k].1 l[k + 1].1 < 0:=fun k hk=>by
  have hr:=List.all_eq_true.1 h3 (k + 1) (List.mem_range.2 hk);unfold Y6 at hr;rw [Xa hk] at hr;simp only [Bool.and_eq_true,Bool.or_eq_true,beq_iff_eq,decide_eq_true_eq,Nat.add_sub_cancel] at hr;rw [Xa (by omega)] at hr;rcases hr.2 with h | h
  ·omega
  ·exact h
 rw [List.pairwise_iff_getElem];intro i j hi hj hij;obtain ⟨d,rfl⟩:∃ d,j = i + 1 + d:=⟨j - (i + 1),by omega⟩;clear hij
 induction d with
 | zero=>exact step i hj
 | succ d ih=>exact Yb (ih (by omega)) (step (i + 1 + d) hj)
theorem ZgG {o:Nat} (ho:o <= 4):∀ (a b:Tbl),a.Pairwise (fun x y=>Xd x.1 y.1 < 0) -> b.Pairwise (fun x y=>Xd x.1 y.1 < 0) -> (∀ g ∈ a,g.1.length = o /\ 1 <= g.2) -> (∀ g ∈ b,g.1.length = o /\ 1 <= g.2) -> (∀ k,ZJ a k = ZJ b k) -> a = b:=by
 have pos:∀ (g:List Int × Int) (l:Tbl),(∀ x ∈ g :: l,x.1.length = o /\ 1 <= x.2) -> 1 <= ZJ (g :: l) (kOf g.1):=fun g l h=>by
  have h1:=ZgF (l:=l) (fun x hx=>by have:=(h x (by simp [hx])).2;omega) (kOf g.1);have h2:=(h g (by simp)).2;simp only [ZJ];rw [if_pos trivial];omega
 have far:∀ (g:List Int × Int) (l:Tbl),g.1.length = o -> (∀ x ∈ l,x.1.length = o /\ 1 <= x.2) -> (∀ x ∈ l,Xd g.1 x.1 < 0) -> ZJ l (kOf g.1) = 0:=fun g l h0 h h2=>Zdx fun x hx e=>by
  have e1:=Zg3 ho (h x hx).1 h0 e;have h3:=h2 x hx;rw [e1,YO.2 rfl] at h3;omega
 intro a
 induction a with
 | nil=>
  intro b _ _ _ hb hk;cases b with
  | nil=>rfl
  | cons g l=>have h1:=pos g l hb;rw [<- hk] at h1;simp [ZJ] at h1
 | cons g l ih=>
  intro b pa pb ha hb hk;cases b with
  | nil=>have h1:=pos g l ha;rw [hk] at h1;simp [ZJ] at h1
  | cons g' l'=>
   simp only [List.pairwise_cons] at pa pb;have hg:=(ha g (by simp)).1;have hg':=(hb g' (by simp)).1;have n1:¬ Xd g.1 g'.1 < 0:=fun hlt=>by
    have h1:=pos g l ha;rw [hk,far g (g' :: l') hg hb (fun x hx=>by
     rcases List.mem_cons.1 hx with rfl | hx
     ·exact hlt
     ·exact Yb hlt (pb.1 x hx))] at h1
    omega
   have n2:¬ Xd g'.1 g.1 < 0:=fun hlt=>by
    have h1:=pos g' l' hb;rw [<- hk,far g' (g :: l) hg' ha (fun x hx=>by
     rcases List.mem_cons.1 hx with rfl | hx
     ·exact hlt
     ·exact Yb hlt (pa.1 x hx))] at h1
    omega
   have e1:g.1 = g'.1:=YO.1 (by have:=Um g.1 g'.1;omega);have z1:=far g l hg (fun x hx=>ha x (by simp [hx])) pa.1;have z2:=far g' l' hg' (fun x hx=>hb x (by simp [hx])) pb.1;have e2:g.2 = g'.2:=by
    have h1:=hk (kOf g.1);simp only [ZJ] at h1;rw [if_pos trivial,if_pos (by rw [e1]),z1,e1,z2] at h1;omega
   have e3:g = g':=Prod.ext e1 e2;subst e3;rw [ih l' pa.2 pb.2 (fun x hx=>ha x (by simp [hx])) (fun x hx=>hb x (by simp [hx])) fun k=>by
    have h1:=hk k;simp only [ZJ] at h1;omega]
theorem ZhM {o:Nat} {v v':Int} {a b:Tbl} (ha:Uq o v a = 0) (hb:Uq o v' b = 0) (h:∀ k,ZJ a k = ZJ b k):a = b:=by
 have ho:(o:Int) <= 4:=(Xy.1 (Yf.1 ha).2.1).2.1;refine ZgG (o:=o) (by omega) a b (Qo ha) (Qo hb) (fun g hg=>?_) (fun g hg=>?_) h
 ·have:=ZT ha g hg;exact ⟨by omega,by omega⟩
 ·have:=ZT hb g hg;exact ⟨by omega,by omega⟩
def ZiN (o:Nat) (s:List Int) (n:Int) (k:K4):Int:=ZJ ((YD o s (s.length + 1)).map fun q=>(gmW o q.1,q.2 * n)) k
theorem Zhs {o:Nat} {v n:Int} {s:List Int} {T T1 T2:Tbl} (hz:YG o v = true) (ha:YC 1 v s = true) (hn : 1 <= n) (hT:Uq o v T = 0) (h1:T1.Perm ((YD o s (s.length + 1)).map fun q=>(gmW o q.1,q.2 * n)))
  (h2:T2.Perm ((mrg (mrg [] T) T1).map fun q=>(gmW o q.1,q.2))) (k:K4):ZJ T2 k = ZJ T k + ZiN o s n k:=by
 have hzz:=Xy.1 hz;have hf:=UT (o:=o) (by omega) (by omega) ha (s.length + 1) nR;have hrow:∀ g ∈ T1,g.1.length = o /\ YC 0 v g.1 = true /\ 1 <= g.2:=fun g hg=>by
  obtain ⟨q,hq,rfl⟩:=List.mem_map.1 (h1.mem_iff.1 hg);obtain ⟨q1,x,q2,q3,q4⟩:=hf q hq;rw [q3,ZN q2 (by omega)];refine ⟨q2,q4,?_⟩;have:=Int.mul_le_mul q1 hn (by omega) (by omega);show 1 <= q.2 * n;omega
 have hF:=Z8 T1 (mrg [] T) (Z8 T [] (fun p hp=>by cases hp) (fun g hg=>by have:=ZT hT g hg;exact ⟨by omega,this.2.1,this.2.2.1⟩)) hrow;rw [ZaD h2,Zca (by omega) _ hF (Zf _ _ (Zf _ _ (by simp))),ZbR,ZbR,ZaD h1];simp [J3,ZiN]
end Go.Proofs.YtcjicjfbippmnaaGreat
namespace Ear
def Zc0 (T:Tbl) (g:List Int):Nat:=T.findIdx fun x=>decide (¬ Xd x.1 g < 0)
def ZdN (T:Tbl) (g:List Int) (n:Int):Tbl:=
 match T[Zc0 T g]? with
 | some x=>if Xd x.1 g = 0 then T.set (Zc0 T g) (x.1,x.2 + n) else T.take (Zc0 T g) ++ (g,n) :: T.drop (Zc0 T g)
 | none=>T.take (Zc0 T g) ++ (g,n) :: T.drop (Zc0 T g)
theorem ZgQ (T:Tbl) (g:List Int):Zc0 T g <= T.length:=List.findIdx_le_length
end Ear
