/- TopLearned -/
import Derived.Test.YtlgdlenoohkipaaGreatMTearn28
set_option maxRecDepth 100000
set_option maxHeartbeats 32000000
namespace Ear
def qS:List Rat -> Rat
 | []=>0
 | x :: l=>x + qS l
def qP:List Rat -> Rat
 | []=>1
 | x :: l=>x * qP l
theorem Zev {a b:List Rat} (h:a.Perm b):qS a = qS b:=by
 induction h with
 | nil=>rfl
 | cons x _ ih=>simp only [qS,ih]
 | swap x y l=>simp only [qS];grind
 | trans _ _ h1 h2=>exact h1.trans h2
theorem ZhQ {a b:List Rat} (h:a.Perm b):qP a = qP b:=by
 induction h with
 | nil=>rfl
 | cons x _ ih=>simp only [qP,ih]
 | swap x y l=>simp only [qP];grind
 | trans _ _ h1 h2=>exact h1.trans h2
theorem ZhR {l:List Rat} (h:∀ x ∈ l,0 <= x) : 0 <= qP l:=by
 induction l with
 | nil=>decide
 | cons x l ih=>exact Rat.mul_nonneg (h x (by simp)) (ih fun y hy=>h y (by simp [hy]))
theorem ZiV {l:List Rat} (h:∀ x ∈ l,0 <= x /\ x <= 1):qP l <= 1:=by
 induction l with
 | nil=>decide
 | cons x l ih=>
  have h1:=h x (by simp);have h2:=ih fun y hy=>h y (by simp [hy]);have h3:=ZhR (l:=l) fun y hy=>(h y (by simp [hy])).1;have h4:x * qP l <= 1 * qP l:=Rat.mul_le_mul_of_nonneg_right h1.2 h3;show x * qP l <= 1;grind
theorem ZjE {l:List Rat} (h:∀ x ∈ l,1 < x) (hl:l ≠ []):(l.length:Rat) < qS l:=by
 induction l with
 | nil=>exact absurd rfl hl
 | cons x l ih=>
  have h1:=h x (by simp);by_cases e:l = []
  ·subst e;simp [qS];grind
  ·have h2:=ih (fun y hy=>h y (by simp [hy])) e;simp only [qS,List.length_cons];push_cast;grind
theorem Zkf:∀ (n:Nat) (l:List Rat),l.length = n -> (∀ x ∈ l,0 <= x) -> qS l <= (n:Rat) -> qP l <= 1:=by
 intro n
 induction n with
 | zero=>
  intro l hl _ _;rw [List.eq_nil_of_length_eq_zero hl];decide
 | succ n ih=>
  intro l hl hn hs;by_cases h1:∀ x ∈ l,x <= 1
  ·exact ZiV fun x hx=>⟨hn x hx,h1 x hx⟩
  ·obtain ⟨b,hb,hb1⟩:∃ b ∈ l,1 < b:=by
    apply Classical.byContradiction;intro hc;apply h1;intro x hx;apply Classical.byContradiction;intro h2;exact hc ⟨x,hx,Rat.not_le.1 h2⟩
   have hp:=List.perm_cons_erase hb;have hel:(l.erase b).length = n:=(by rw [List.length_erase_of_mem hb];omega);obtain ⟨a,ha,ha1⟩:∃ a ∈ l.erase b,a <= 1:=by
    apply Classical.byContradiction;intro hc;have h2:∀ x ∈ l.erase b,1 < x:=fun x hx=>by
     apply Classical.byContradiction;intro h3;exact hc ⟨x,hx,Rat.not_lt.1 h3⟩
    have h4:=Zev hp;simp only [qS] at h4;by_cases e:l.erase b = []
    ·rw [e] at h4 hel;simp [qS] at h4;have:n = 0:=hel.symm;subst this;rw [h4] at hs;push_cast at hs;grind
    ·have h5:=ZjE h2 e;rw [hel] at h5;push_cast at hs;grind
   have hp2:=List.perm_cons_erase ha;have hp3:l.Perm (b :: a :: (l.erase b).erase a):=hp.trans (List.Perm.cons b hp2);have e1:=Zev hp3;have e2:=ZhQ hp3;simp only [qS,qP] at e1 e2;have hsub:∀ x ∈ (l.erase b).erase a,0 <= x:=fun x hx=>hn x (List.mem_of_mem_erase (List.mem_of_mem_erase hx));have ha0:=hn a (List.mem_of_mem_erase ha);have h6:=ih ((a + b - 1) :: (l.erase b).erase a) (by
    rw [List.length_cons,List.length_erase_of_mem ha,hel];have : 0 < n:=(by rw [<- hel];exact List.length_pos_of_mem ha);omega) (fun x hx=>by
    rcases List.mem_cons.1 hx with rfl | hx
    ·grind
    ·exact hsub x hx) (by simp only [qS];push_cast at hs;grind)
   simp only [qP] at h6;have h7 : 0 <= (1 - a) * (b - 1):=Rat.mul_nonneg (by grind) (by grind);have h8:a * b <= a + b - 1:=(by grind);have h9:(a * b) * qP ((l.erase b).erase a) <= (a + b - 1) * qP ((l.erase b).erase a):=Rat.mul_le_mul_of_nonneg_right h8 (ZhR hsub);rw [e2];grind
section
variable {α β:Type}
theorem Zgd (l:List α) (p : α -> Bool) (z : α -> Rat):qS (l.map z) = qS ((l.filter p).map z) + qS ((l.filter fun x=>!p x).map z):=by
 induction l with
 | nil=>simp only [List.map_nil,List.filter_nil,qS];grind
 | cons x l ih=>
  by_cases h:p x = true
  ·rw [List.filter_cons_of_pos h,List.filter_cons_of_neg (by simp [h])];simp only [List.map_cons,qS,ih];grind
  ·rw [List.filter_cons_of_neg h,List.filter_cons_of_pos (by simpa using h)];simp only [List.map_cons,qS,ih];grind
theorem Zge (c:Rat) (l:List α) (z : α -> Rat):qS (l.map fun x=>c * z x) = c * qS (l.map z):=by
 induction l with
 | nil=>simp only [List.map_nil,qS];grind
 | cons x l ih=>simp only [List.map_cons,qS,ih];grind
theorem Q0 (c:Rat) (l:List α):qS (l.map fun _=>c) = (l.length:Rat) * c:=by
 induction l with
 | nil=>simp only [List.map_nil,qS,List.length_nil];grind
 | cons x l ih=>simp only [List.map_cons,qS,ih,List.length_cons];push_cast;grind
theorem Zg7 (l:List α) (y z : α -> Rat):qS (l.map fun x=>y x + z x) = qS (l.map y) + qS (l.map z):=by
 induction l with
 | nil=>simp only [List.map_nil,qS];grind
 | cons x l ih=>simp only [List.map_cons,qS,ih];grind
theorem ZjD {l:List α} {y z : α -> Rat} (h:∀ x ∈ l,y x <= z x):qS (l.map y) <= qS (l.map z):=by
 induction l with
 | nil=>exact Rat.le_refl
 | cons x l ih=>
  have h1:=h x (by simp);have h2:=ih fun y hy=>h y (by simp [hy]);simp only [List.map_cons,qS];grind
theorem Q1 {l:List α} {y z : α -> Rat} (h:∀ x ∈ l,y x = z x):qS (l.map y) = qS (l.map z):=by
 rw [List.map_congr_left h]
theorem Zgf {l:List α} {y z : α -> Rat} (h:∀ x ∈ l,y x = z x):qP (l.map y) = qP (l.map z):=by
 rw [List.map_congr_left h]
theorem ZiW (l:List α) (y z : α -> Rat):qP (l.map fun x=>y x * z x) = qP (l.map y) * qP (l.map z):=by
 induction l with
 | nil=>simp only [List.map_nil,qP];grind
 | cons x l ih=>simp only [List.map_cons,qP,ih];grind
theorem Zjl [DecidableEq β] (f : α -> β) (g : β -> Rat) (hg:∀ b,0 <= g b):∀ (n:Nat) (l:List α) (z : α -> Rat),l.length <= n -> (∀ b,qS ((l.filter fun x=>f x == b).map z) <= 0) -> qS (l.map fun x=>g (f x) * z x) <= 0:=by
 intro n
 induction n with
 | zero=>
  intro l z hl _;rw [List.eq_nil_of_length_eq_zero (Nat.le_zero.1 hl)];exact Rat.le_refl
 | succ n ih=>
  intro l z hl h;cases l with
  | nil=>exact Rat.le_refl
  | cons x l=>
   have hb:=h (f x);rw [Zgd (x :: l) (fun y=>f y == f x)];have e1:qS (((x :: l).filter fun y=>f y == f x).map fun y=>g (f y) * z y) = g (f x) * qS (((x :: l).filter fun y=>f y == f x).map z):=by
    rw [<- Zge];refine Q1 fun y hy=>?_;have:=(List.mem_filter.1 hy).2;rw [eq_of_beq this]
   have h1:g (f x) * qS (((x :: l).filter fun y=>f y == f x).map z) <= 0:=by
    have:=Rat.mul_le_mul_of_nonneg_left hb (hg (f x));grind
   have h2:=ih ((x :: l).filter fun y=>!(f y == f x)) z (by
    rw [List.filter_cons_of_neg (by simp)];have:=List.length_filter_le (fun y=>!(f y == f x)) l;simp at hl;omega) (fun b=>by
    rw [List.filter_filter];by_cases e:b = f x
    ·subst e;have:((x :: l).filter fun y=>(f y == f x) && !(f y == f x)) = []:=by
      rw [List.filter_eq_nil_iff];intro y _ hy;simp at hy
     rw [this];exact Rat.le_refl
    ·have:((x :: l).filter fun y=>(f y == b) && !(f y == f x)) = (x :: l).filter fun y=>f y == b:=by
      apply List.filter_congr;intro y _;by_cases e2:f y = b
      ·simp [e2,e]
      ·simp [e2]
     rw [this];exact h b)
   rw [e1];grind
def VE:Nat -> (Nat -> Rat) -> Rat
 | 0,_=>0
 | n + 1,F=>VE n F + F n
theorem ZhE {V:Nat} {F G:Nat -> Rat} (h:∀ w,w < V -> F w <= G w):VE V F <= VE V G:=by
 induction V with
 | zero=>exact Rat.le_refl
 | succ n ih=>
  have h1:=ih fun w hw=>h w (by omega);have h2:=h n (by omega);simp only [VE];grind
theorem ZfZ (V:Nat) (F G:Nat -> Rat):VE V (fun w=>F w + G w) = VE V F + VE V G:=by
 induction V with
 | zero=>simp only [VE];grind
 | succ n ih=>simp only [VE,ih];grind
theorem Zdj {V:Nat} {F G:Nat -> Rat} (h:∀ w,w < V -> F w = G w):VE V F = VE V G:=by
 induction V with
 | zero=>rfl
 | succ n ih=>simp only [VE];rw [ih fun w hw=>h w (by omega),h n (by omega)]
theorem ZfY (V k:Nat) (hk:k < V) (c:Rat):VE V (fun w=>if k = w then c else 0) = c:=by
 induction V with
 | zero=>omega
 | succ n ih=>
  simp only [VE];by_cases e:k = n
  ·subst e;have:VE k (fun w=>if k = w then c else 0) = 0:=by
    have:∀ m,m <= k -> VE m (fun w=>if k = w then c else 0) = 0:=by
     intro m
     induction m with
     | zero=>intro _;rfl
     | succ m ihm=>intro hm;simp only [VE];rw [ihm (by omega),if_neg (by omega)];grind
    exact this k (Nat.le_refl _)
   rw [this,if_pos rfl];grind
  ·rw [ih (by omega),if_neg e];grind
theorem Zgh (V:Nat) (k : α -> Nat) (φ : α -> Rat):∀ l:List α,(∀ x ∈ l,k x < V) -> qS (l.map φ) = VE V fun w=>qS ((l.filter fun x=>k x == w).map φ):=by
 intro l
 induction l with
 | nil=>
  intro _;have:∀ V,VE V (fun w=>qS ((([]:List α).filter fun x=>k x == w).map φ)) = 0:=by
   intro V
   induction V with
   | zero=>rfl
   | succ n ih=>
    show VE n _ + (0:Rat) = 0;rw [ih];grind
  rw [this];rfl
 | cons x l ih=>
  intro h;have h1:=ih fun y hy=>h y (by simp [hy]);have e:(VE V fun w=>qS (((x :: l).filter fun y=>k y == w).map φ)) = VE V fun w=>(if k x = w then φ x else 0) + qS ((l.filter fun y=>k y == w).map φ):=by
   apply Zdj;intro w _;by_cases e:k x = w
   ·rw [List.filter_cons_of_pos (by simpa using e),if_pos e];rfl
   ·rw [List.filter_cons_of_neg (by simpa using e),if_neg e];grind
  rw [e,ZfZ,ZfY V (k x) (h x (by simp)),<- h1];rfl
theorem ZiL [DecidableEq α] {V:Nat} {k : α -> Nat} {x : α -> Rat} {F:Nat -> Rat} (l:List α) (hk:∀ p ∈ l,k p < V) (hinj:∀ p ∈ l,∀ q ∈ l,k p = k q -> p = q) (hF:∀ w,0 <= F w) (hx:∀ p ∈ l,F (k p) = x p) :
  qS (l.map fun p=>x p / (l.count p:Rat)) <= VE V F:=by
 rw [Zgh V k _ l hk];apply ZhE;intro w _;cases hq:l.filter fun p=>k p == w with
 | nil=>exact hF w
 | cons p q=>
  have hp:p ∈ l.filter fun p=>k p == w:=by rw [hq];simp
  obtain ⟨hpl,hpk⟩:=List.mem_filter.1 hp;have hpk:=eq_of_beq hpk;have hall:∀ y ∈ p :: q,y = p:=fun y hy=>by
   have:y ∈ l.filter fun p=>k p == w:=(by rw [hq];exact hy);obtain ⟨hyl,hyk⟩:=List.mem_filter.1 this;exact hinj y hyl p hpl (by rw [eq_of_beq hyk,hpk])
  have hc:l.count p = (p :: q).length:=by
   rw [<- hq,List.count_eq_length_filter];congr 1;apply List.filter_congr;intro y hy;by_cases e:y = p
   ·rw [e,beq_self_eq_true,hpk,beq_self_eq_true]
   ·have:k y ≠ w:=fun e2=>e (hinj y hy p hpl (by rw [e2,hpk]));rw [beq_eq_false_iff_ne.2 e,beq_eq_false_iff_ne.2 this]
  have e1:qS ((p :: q).map fun p=>x p / (l.count p:Rat)) = ((p :: q).length:Rat) * (x p / (l.count p:Rat)):=by
   rw [<- Q0];exact Q1 fun y hy=>by rw [hall y hy]
  rw [e1,hc];have:((p :: q).length:Rat) ≠ 0:=by
   rw [List.length_cons];push_cast;have:(0:Rat) <= (q.length:Rat):=(by exact_mod_cast Nat.zero_le _);grind
  have e2:F w = x p:=by rw [<- hpk];exact hx p hpl
  rw [e2];generalize ((p :: q).length:Rat) = L at *
  have:L * (x p / L) = x p:=by grind
  rw [this];exact Rat.le_refl
theorem Zjm [DecidableEq α] [DecidableEq β] (P:List α) (f : α -> β) (k : α -> Nat) (V:Nat) (x : α -> Rat) (X : β -> Rat) (F : β -> Nat -> Rat) (N:Rat) (hN : 0 < N) (hk:∀ p ∈ P,k p < V) (hinj:∀ p ∈ P,∀ q ∈ P,f p = f q -> k p = k q -> p = q)
  (hx:∀ p ∈ P,0 < x p) (hF:∀ b w,0 <= F b w) (hFx:∀ p ∈ P,F (f p) (k p) = x p) (hX:∀ b,X b = VE V (F b)) (hX0:∀ b,0 < X b) :
  qP (P.map fun p=>x p / X (f p)) <= qP (P.map fun p=>(x p + N * (P.count p:Rat)) / (X (f p) + N * ((P.filter fun q=>f q == f p).length:Rat))):=by
 have hm:∀ p ∈ P,(1:Rat) <= (P.count p:Rat):=fun p hp=>by
  have:=List.count_pos_iff.2 hp
  exact_mod_cast this
 have hM:∀ p ∈ P,(1:Rat) <= ((P.filter fun q=>f q == f p).length:Rat):=fun p hp=>by
  have : 0 < (P.filter fun q=>f q == f p).length:=List.length_pos_of_mem (List.mem_filter.2 ⟨hp,by simp⟩)
  exact_mod_cast this
 have ex:∀ p ∈ P,x p / X (f p) = ((x p + N * (P.count p:Rat)) / (X (f p) + N * ((P.filter fun q=>f q == f p).length:Rat))) * ((x p / (x p + N * (P.count p:Rat))) * ((X (f p) + N * ((P.filter fun q=>f q == f p).length:Rat)) / X (f p))):=fun p hp=>by
  have h1:=hm p hp;have h2:=hM p hp;have h3:=hx p hp;have h4:=hX0 (f p);generalize (P.count p:Rat) = m at *
  generalize ((P.filter fun q=>f q == f p).length:Rat) = M at *
  generalize x p = y at *
  generalize X (f p) = Y at *
  have n1 : 0 < N * m:=Rat.mul_pos hN (by grind);have n2 : 0 < N * M:=Rat.mul_pos hN (by grind);generalize N * m = u at *
  generalize N * M = v at *
  have q1:y + u ≠ 0:=by grind
  have q2:Y + v ≠ 0:=by grind
  have q3:Y ≠ 0:=by grind
  grind
 rw [Zgf ex,ZiW];have hpos:∀ p ∈ P,0 <= (x p / (x p + N * (P.count p:Rat))) * ((X (f p) + N * ((P.filter fun q=>f q == f p).length:Rat)) / X (f p)):=fun p hp=>by
  have h1:=hm p hp;have h2:=hM p hp;have h3:=hx p hp;have h4:=hX0 (f p);generalize (P.count p:Rat) = m at *
  generalize ((P.filter fun q=>f q == f p).length:Rat) = M at *
  generalize x p = y at *
  generalize X (f p) = Y at *
  have n1 : 0 < N * m:=Rat.mul_pos hN (by grind);have n2 : 0 < N * M:=Rat.mul_pos hN (by grind);generalize N * m = u at *
  generalize N * M = v at *
  rw [Rat.div_def,Rat.div_def];exact Rat.mul_nonneg (Rat.mul_nonneg (by grind) (Rat.le_of_lt (Rat.inv_pos.2 (by grind)))) (Rat.mul_nonneg (by grind) (Rat.le_of_lt (Rat.inv_pos.2 (by grind))))
 have hle:qP (P.map fun p=>(x p / (x p + N * (P.count p:Rat))) * ((X (f p) + N * ((P.filter fun q=>f q == f p).length:Rat)) / X (f p))) <= 1:=by
  refine Zkf P.length _ (by simp) (fun z hz=>by obtain ⟨p,hp,rfl⟩:=List.mem_map.1 hz;exact hpos p hp) ?_
  -- the tangent: y <= 1 + g (r - R)
  let M : β -> Rat:=fun b=>((P.filter fun q=>f q == b).length:Rat);let g : β -> Rat:=fun b=>if M b = 0 then 0 else N * M b * M b / (X b * (X b + N * M b));have hg:∀ b,0 <= g b:=fun b=>by
   show 0 <= if M b = 0 then 0 else _;split
   ·exact Rat.le_refl
   ·rename_i h0;have h1 : 0 <= M b:=(by show (0:Rat) <= ((P.filter fun q=>f q == b).length:Rat);exact_mod_cast Nat.zero_le _);have h2:=hX0 b;have h3 : 0 <= N * M b:=Rat.mul_nonneg (Rat.le_of_lt hN) h1;rw [Rat.div_def];exact Rat.mul_nonneg (Rat.mul_nonneg h3 h1) (Rat.le_of_lt (Rat.inv_pos.2 (Rat.mul_pos h2 (by grind))))
  have ht:∀ p ∈ P,(x p / (x p + N * (P.count p:Rat))) * ((X (f p) + N * ((P.filter fun q=>f q == f p).length:Rat)) / X (f p)) <= 1 + g (f p) * (x p / (P.count p:Rat) - X (f p) / M (f p)):=fun p hp=>by
   have h1:=hm p hp;have h2:=hM p hp;have h3:=hx p hp;have h4:=hX0 (f p);have hMe:M (f p) = ((P.filter fun q=>f q == f p).length:Rat):=rfl;have hge:g (f p) = N * M (f p) * M (f p) / (X (f p) * (X (f p) + N * M (f p))):=by
    show (if M (f p) = 0 then 0 else _) = _;rw [if_neg (by rw [hMe];grind)]
   rw [hge,hMe];clear hge hMe;generalize (P.count p:Rat) = m at *
   generalize ((P.filter fun q=>f q == f p).length:Rat) = M at *
   generalize x p = y at *
   generalize X (f p) = Y at *
   clear hg hpos ex hm hM hX hX0 hFx hF hx;have m0:m ≠ 0:=(by grind);have M0:M ≠ 0:=(by grind);have Y0:Y ≠ 0:=(by grind);obtain ⟨r,hr⟩:∃ r,r = y / m:=⟨_,rfl⟩;obtain ⟨R,hR⟩:∃ R,R = Y / M:=⟨_,rfl⟩;have ey:y = r * m:=(by rw [hr];grind);have eY:Y = R * M:=(by rw [hR];grind);have r0 : 0 < r:=(by rw [hr,Rat.div_def];exact Rat.mul_pos h3 (Rat.inv_pos.2 (by grind)));have R0 : 0 < R:=(by rw [hR,Rat.div_def];exact Rat.mul_pos h4 (Rat.inv_pos.2 (by grind)));rw [<- hr,<- hR,ey,eY];clear hr hR ey eY h3 h4 Y0;have rn:r + N ≠ 0:=(by grind);have Rn:R + N ≠ 0:=(by grind);have R1:R ≠ 0:=(by grind);have q1:r * m + N * m ≠ 0:=by
    have:r * m + N * m = (r + N) * m:=(by grind);rw [this];intro e;rcases Rat.mul_eq_zero.1 e with e | e
    ·exact rn e
    ·exact m0 e
   have q2:R * M + N * M ≠ 0:=by
    have:R * M + N * M = (R + N) * M:=(by grind);rw [this];intro e;rcases Rat.mul_eq_zero.1 e with e | e
    ·exact Rn e
    ·exact M0 e
   have q3:R * M ≠ 0:=by
    intro e;rcases Rat.mul_eq_zero.1 e with e | e
    ·exact R1 e
    ·exact M0 e
   have q4:R * (R + N) ≠ 0:=by
    intro e;rcases Rat.mul_eq_zero.1 e with e | e
    ·exact R1 e
    ·exact Rn e
   have e1:r * m / (r * m + N * m) = r / (r + N):=(by grind);have e2:(R * M + N * M) / (R * M) = (R + N) / R:=(by grind);have e3:N * M * M / (R * M * (R * M + N * M)) = N / (R * (R + N)):=(by grind);rw [e1,e2,e3];have e4:r / (r + N) * ((R + N) / R) = 1 + N * (r - R) * ((r + N)⁻¹ * R⁻¹):=(by grind);have e5:N / (R * (R + N)) * (r - R) = N * (r - R) * ((R + N)⁻¹ * R⁻¹):=(by grind);rw [e4,e5];have i1 : 0 < (r + N)⁻¹:=Rat.inv_pos.2 (by grind);have i2 : 0 < (R + N)⁻¹:=Rat.inv_pos.2 (by grind);have i3 : 0 < R⁻¹:=Rat.inv_pos.2 R0;have e6:N * (r - R) * ((R + N)⁻¹ * R⁻¹) - N * (r - R) * ((r + N)⁻¹ * R⁻¹) = N * ((r - R) * (r - R)) * ((R + N)⁻¹ * (r + N)⁻¹ * R⁻¹):=(by grind);have hsq : 0 <= (r - R) * (r - R):=by
    by_cases h:r <= R
    ·have h5 : 0 <= R - r:=(by grind);have h6:=Rat.mul_nonneg h5 h5;have h7:(r - R) * (r - R) = (R - r) * (R - r):=(by grind);rw [h7];exact h6
    ·have h5 : 0 <= r - R:=(by have:=Rat.not_le.1 h;grind);exact Rat.mul_nonneg h5 h5
   have h8:=Rat.mul_nonneg (Rat.mul_nonneg (Rat.le_of_lt hN) hsq) (Rat.le_of_lt (Rat.mul_pos (Rat.mul_pos i2 i1) i3));rw [<- e6] at h8;grind
  refine Rat.le_trans (ZjD ht) ?_;rw [Zg7,Q0];have hb:=Zjl f g hg P.length P (fun p=>x p / (P.count p:Rat) - X (f p) / M (f p)) (Nat.le_refl _) (fun b=>by
   by_cases he:P.filter (fun q=>f q == b) = []
   ·rw [he];exact Rat.le_refl
   ·have e1:qS ((P.filter fun q=>f q == b).map fun p=>x p / (P.count p:Rat) - X (f p) / M (f p)) = qS ((P.filter fun q=>f q == b).map fun p=>x p / ((P.filter fun q=>f q == b).count p:Rat)) + qS ((P.filter fun q=>f q == b).map fun _=>- (X b / M b)):=by
     rw [<- Zg7];refine Q1 fun p hp=>?_;have hfb:=eq_of_beq (List.mem_filter.1 hp).2;rw [hfb,List.count_filter (by simpa using hfb)];grind
    have h1:=ZiL (V:=V) (k:=k) (x:=x) (F:=F b) (P.filter fun q=>f q == b) (fun p hp=>hk p (List.mem_filter.1 hp).1) (fun p hp q hq e=>by
     obtain ⟨p1,p2⟩:=List.mem_filter.1 hp;obtain ⟨q1,q2⟩:=List.mem_filter.1 hq;exact hinj p p1 q q1 ((eq_of_beq p2).trans (eq_of_beq q2).symm) e) (hF b) (fun p hp=>by
     obtain ⟨p1,p2⟩:=List.mem_filter.1 hp;rw [<- eq_of_beq p2];exact hFx p p1)
    rw [e1,Q0];have h2:((P.filter fun q=>f q == b).length:Rat) ≠ 0:=by
     have : 0 < (P.filter fun q=>f q == b).length:=List.length_pos_iff.2 he;have:(0:Rat) < ((P.filter fun q=>f q == b).length:Rat):=(by exact_mod_cast this);grind
    have h3:((P.filter fun q=>f q == b).length:Rat) * -(X b / M b) = - X b:=by
     show ((P.filter fun q=>f q == b).length:Rat) * -(X b / ((P.filter fun q=>f q == b).length:Rat)) = - X b;generalize ((P.filter fun q=>f q == b).length:Rat) = L at *
     grind
    rw [h3,hX b];grind)
  grind
 have h0 : 0 <= qP (P.map fun p=>(x p + N * (P.count p:Rat)) / (X (f p) + N * ((P.filter fun q=>f q == f p).length:Rat))):=ZhR fun z hz=>by
  obtain ⟨p,hp,rfl⟩:=List.mem_map.1 hz;have h1:=hm p hp;have h2:=hM p hp;have h3:=hx p hp;have h4:=hX0 (f p);have n1 : 0 < N * (P.count p:Rat):=Rat.mul_pos hN (by grind);have n2 : 0 < N * ((P.filter fun q=>f q == f p).length:Rat):=Rat.mul_pos hN (by grind);rw [Rat.div_def];exact Rat.mul_nonneg (by grind) (Rat.le_of_lt (Rat.inv_pos.2 (by grind)))
 have:=Rat.mul_le_mul_of_nonneg_left hle h0;grind
end
end Ear
namespace Go.Proofs.YtlgdlenoohkipaaGreat
open Go.RowKit Ear

def smF (F:Int -> Int) (V:Nat):Int:=((List.range V).map fun i:Nat=>F (i:Int)).sum
theorem Zcs (F:Int -> Int) (K:List Int):(K.map F).sum = ((K.filter fun z=>F z != 0).map F).sum:=by
 induction K with
 | nil=>rfl
 | cons z K ih=>
  by_cases h:F z = 0
  ·rw [List.filter_cons_of_neg (by simp [h]),List.map_cons,List.sum_cons,h,ih];omega
  ·rw [List.filter_cons_of_pos (by simp [h])];simp only [List.map_cons,List.sum_cons,ih]
theorem Zg2 {mm:List (Int × Int)} (hn:(mm.map (·.1)).Nodup) {F:Int -> Int} (hF:∀ z,(JB mm z).getD 0 = F z) (V:Nat) (h0:∀ z,(z < 0 ∨ (V:Int) <= z) -> F z = 0):(mm.map (·.2)).sum = smF F V:=by
 have e1:mm.map (·.2) = (mm.map (·.1)).map F:=by
  rw [List.map_map];refine List.map_congr_left fun p hp=>?_;have:=ZF hn (show (p.1,p.2) ∈ mm from hp);show p.2 = F p.1;rw [<- hF,this];rfl
 have hr:((List.range V).map fun i:Nat=>(i:Int)).Nodup:=by
  rw [List.Nodup,List.pairwise_map];exact List.nodup_range.imp fun hab e=>hab (by omega)
 have e2:smF F V = (((List.range V).map fun i:Nat=>(i:Int)).map F).sum:=by unfold smF;rw [List.map_map];rfl
 rw [e1,e2,Zcs,Zcs F ((List.range V).map fun i:Nat=>(i:Int))];refine QY (List.Perm.map _ ?_);rw [List.perm_ext_iff_of_nodup (hn.filter _) (hr.filter _)];intro z;simp only [List.mem_filter];refine and_congr_left fun hz=>?_;have hz0:F z ≠ 0:=by simpa using hz
 constructor
 ·intro _;have hzr : 0 <= z /\ z < (V:Int):=by
   apply Classical.byContradiction;intro hc;exact hz0 (h0 z (by omega))
  exact List.mem_map.2 ⟨z.toNat,List.mem_range.2 (by omega),by omega⟩
 ·intro _;cases hg:JB mm z with
  | none=>exact absurd (by rw [<- hF,hg];rfl) hz0
  | some y=>exact List.mem_map_of_mem (f:=(·.1)) (JS hg)
def rwF (ct:K4 -> Int -> Int) (V:Nat) (q:Rat) (h:K4) (i:Nat):Rat:=Zga (ct h) (smF (ct h) V) V q i
def FRw (W:World) (base g V:Nat) (F:Nat -> Rat):Prop:=∃ Rs,FRow W base (some ⟨g,0,none⟩) V Rs F
theorem FRw.ku {W W':World} {base g V:Nat} {F:Nat -> Rat} (h:FRw W base g V F) (hb:W'.heap[g]? = W.heap[g]?) (hk:KU W W'):FRw W' base g V F:=by
 obtain ⟨Rs,h1,h2,h3⟩:=h;refine ⟨Rs,?_,h2,fun i r hr=>(h3 i r hr).ku hk⟩;obtain ⟨q1,q2⟩:=h1;refine ⟨q1,?_⟩;rcases q2 with ⟨e,_⟩ | ⟨g',cap,cur,hv,hb',hg,r1,r2,r3,r4⟩
 ·cases e
 ·injection hv with e1 e2 e3
  injection e1 with e1
  injection e1 with e1 _ _
  subst e1;exact .inr ⟨g,cap,cur,by rw [e3],hb',hb.trans hg,r1,r2,r3,r4⟩
theorem FRw.below {W W':World} {base g V:Nat} {F:Nat -> Rat} (h:FRw W base g V F) (hb:Below W.heap.size W W'):FRw W' base g V F:=by
 obtain ⟨Rs,h⟩:=h;exact ⟨Rs,h.below hb⟩
def prW (ct:K4 -> Int -> Int) (V:Nat) (q:Rat) (o:Nat) (s:List Int):Nat -> Rat
 | 0=>1
 | k + 1=>prW ct V q o s k * rwF ct V q (kOf ((Jt o s k).take (o - 1))) ((Jt o s k)[o - 1]?.getD 0).toNat
theorem KU.kpc {W W':World} (h:KpC W W'):KU W W':=fun _ _ hl=>h.lies hl
theorem Zg1 {q:Rat} {k:Nat} (h:Sz q k) (h0:q ≠ 0):Sz q⁻¹ k:=⟨by rw [(Vi h0).2.1];exact h.den,by rw [(Vi h0).2.2];exact h.num⟩
theorem Zcv {F:Int -> Int} {V:Nat} (h:∀ z,0 <= F z /\ F z <= 35184372088832) : 0 <= smF F V /\ smF F V <= V * 35184372088832:=by
 have:=ZaP ((List.range V).map fun i:Nat=>F (i:Int)) (fun x hx=>by obtain ⟨i,_,rfl⟩:=List.mem_map.1 hx;exact h _);simpa [smF] using this
theorem ZiQ {ct:K4 -> Int -> Int} {V:Nat} {q:Rat} (hq : 0 < q) (hz:Sz q 100) (hV : 0 < V /\ V <= 100) (hc:∀ h z,0 <= ct h z /\ ct h z <= 35184372088832) (h:K4) (i:Nat):Sz (rwF ct V q h i) 210:=by
 have hb:=Zcv (V:=V) (hc h);have h1:smF (ct h) V <= 100 * 35184372088832:=Int.le_trans hb.2 (Int.mul_le_mul_of_nonneg_right (by omega) (by omega));have s1:Sz ((ct h (i:Int):Int):Rat) 2:=Sz.i64 (by have:=hc h i;omega) (by have:=hc h i;omega);have s2:Sz ((smF (ct h) V:Int):Rat) 2:=Sz.i64 (by omega) (by omega);have s3:Sz (((V:Int)):Rat) 2:=Sz.i64 (by omega) (by omega);have hne:((smF (ct h) V:Int):Rat) + q * ((V:Int):Rat) ≠ 0:=by
  have h1:(0:Rat) <= ((smF (ct h) V:Int):Rat):=by exact_mod_cast hb.1
  have h2:(0:Rat) < ((V:Int):Rat):=by exact_mod_cast (by omega:(0:Int) < (V:Int))
  have h3:=Rat.mul_pos hq h2;intro h;grind
 exact ((s1.add hz).mul (Zg1 (s2.add (hz.mul s3)) hne)).mono (by omega)
theorem Zhm {o:Nat} {v:Int} {T:Tbl} (h:Xz o v T = 0) (hh:K4) (z:Int) : 0 <= ctL o T hh z /\ ctL o T hh z <= 35184372088832:=Zhl (ZfH h 0 (Nat.zero_le _)) hh z
theorem Zje {o:Nat} {v:Int} {s:List Int} (ha:XI 1 v s = true) (hz:Xv o v = true) (k:Nat) (y:Int) (hy:y ∈ Jt o s k) : 0 <= y /\ y <= v:=by
 have hv:=Jx.1 hz;rcases YQ hy with rfl | hy
 ·omega
 ·have:=Ya ha hy;omega
theorem Zb8 (g V:Nat) (u:World):(binOp .eql 32 (.slice (some ⟨g,0,none⟩) V V) (.slice none 0 0)).run Tryz.prog u = .ok (.bool false) u:=by kernel_rfl
theorem Zb7 (u:World):(binOp .eql 32 (.slice none 0 0) (.slice none 0 0)).run Tryz.prog u = .ok (.bool true) u:=by kernel_rfl
theorem Zfm (g V:Nat) (a b:Operand) (u:World):(eqGuard .eql 32 a b (.slice (some ⟨g,0,none⟩) V V) (.slice none 0 0)).run Tryz.prog u = .ok () u:=by
 simp [eqGuard,go_sem]
theorem Zfl (a b:Operand) (u:World):(eqGuard .eql 32 a b (.slice none 0 0) (.slice none 0 0)).run Tryz.prog u = .ok () u:=by
 simp [eqGuard,go_sem]
def isRw (base V:Nat) (F:Nat -> Rat):Value -> World -> Prop:=fun v u=>∃ g,v = .slice (some ⟨g,0,none⟩) V V /\ base <= g /\ Hid (FRw u base g V F)
theorem Keeps.isRw (base V:Nat) (F:Nat -> Rat):Keeps (isRw base V F):=fun _ _ _ ⟨g,h1,h2,h3⟩ hb=>⟨g,h1,h2,zH (h3.out.below hb)⟩
theorem FRw.le {W:World} {base base' g V:Nat} {F:Nat -> Rat} (h:FRw W base g V F) (hb:base' <= base):FRw W base' g V F:=by
 obtain ⟨Rs,h1,h2,h3⟩:=h;exact ⟨Rs,J9 h1 hb,h2,h3⟩
theorem FRw.cells {W:World} {base g V:Nat} {F:Nat -> Rat} (h:FRw W base g V F):base <= g /\ g < W.heap.size /\ ∃ cs,W.heap[g]? = some (.cells cs 31 (0,0)):=by
 obtain ⟨Rs,h1,_⟩:=h;have h2:=h1.lt g rfl;obtain ⟨_,r2⟩:=h1;rcases r2 with ⟨e2,_⟩ | ⟨g',cap,cur,hv,hb',hg,_⟩
 ·cases e2
 ·injection hv with e1 e2 e3
  injection e1 with e1
  injection e1 with e1 _ _
  subst e1;exact ⟨h2.1,h2.2,cur,hg⟩
theorem FRw.kpc {W W':World} {base g V:Nat} {F:Nat -> Rat} (h:FRw W base g V F) (k:KpC W W'):FRw W' base g V F:=by
 obtain ⟨_,_,cs,hc⟩:=h.cells;exact h.ku ((k.row g cs _ _ hc).trans hc.symm) (KU.kpc k)
def upd (F:Nat -> Rat) (i:Nat) (q:Rat) (j:Nat):Rat:=if j = i then q else F j
theorem FRw.congr {W:World} {base g V:Nat} {F G:Nat -> Rat} (h:FRw W base g V F) (he:∀ i,i < V -> G i = F i):FRw W base g V G:=by
 obtain ⟨Rs,h1,h2,h3⟩:=h;exact ⟨Rs,h1,h2,fun i r hr=>by
  have:=(List.getElem?_eq_some_iff.1 hr).1;rw [he i (by omega)];exact h3 i r hr⟩
theorem FRw.get {W:World} {base g V:Nat} {F:Nat -> Rat} (h:FRw W base g V F) {i:Nat} (hi:i < V):∃ r:Fr,Fq W r (F i) /\ W.cell? ⟨g,i * 3,none⟩ = some (.bool r.neg) /\ W.cell? ⟨g,i * 3 + 1,none⟩ = some (.slice r.A r.N.length r.c) /\ W.cell? ⟨g,i * 3 + 2,none⟩ = some (.slice r.B r.D.length r.d):=by
 obtain ⟨Rs,h1,h2,h3⟩:=h;have hl:i < Rs.length:=by omega
 obtain ⟨v0,v1,v2⟩:=Zcb Rs hl;exact ⟨Rs[i],h3 i _ (gE hl),(h1.cellAt (i * 3) (by omega)).trans v0,(h1.cellAt (i * 3 + 1) (by omega)).trans v1,(h1.cellAt (i * 3 + 2) (by omega)).trans v2⟩
theorem FRw.frz {W:World} {base g V:Nat} {F:Nat -> Rat} (h:FRw W base g V F) (k:Nat):W.frozen? ⟨g,k,none⟩ = false:=by
 obtain ⟨Rs,h1,_,_⟩:=h;exact h1.frozenAt k
theorem FRw.lt {W:World} {base g V:Nat} {F:Nat -> Rat} (h:FRw W base g V F):base <= g /\ g < W.heap.size:=by
 obtain ⟨Rs,h1,_,_⟩:=h;exact h1.lt g rfl
def XD (u:World) (g i:Nat) (r:Fr):World:=((u.setCell ⟨g,i * 3,none⟩ (.bool r.neg)).setCell ⟨g,i * 3 + 1,none⟩ (.slice r.A r.N.length r.c)).setCell ⟨g,i * 3 + 2,none⟩ (.slice r.B r.D.length r.d)
theorem FRw.put {u:World} {base g V:Nat} {F:Nat -> Rat} (h:FRw u base g V F) {i:Nat} (hi:i < V) {r:Fr} {q:Rat} (hr:Fq u r q) :
  FRw (XD u g i r) base g V (upd F i q) /\ KU u (XD u g i r) /\ u.grownBy (XD u g i r) (some g):=by
 obtain ⟨r0,-,y0,y1,y2⟩:=h.get hi;obtain ⟨Rs,h1,h2,h3⟩:=h;have hl:i < Rs.length:=by omega
 have hku:KU u (XD u g i r):=by
  refine ((KU.set y0 (by simp [Za]) _).trans (KU.set (v0:=.slice r0.A r0.N.length r0.c) ?_ (by simp [Za]) _)).trans (KU.set (v0:=.slice r0.B r0.D.length r0.d) ?_ (by simp [Za]) _)
  ·rw [World.cell?_setCell_other _ _ _ _ (by simp)];exact y1
  ·rw [World.cell?_setCell_other _ _ _ _ (by simp),World.cell?_setCell_other _ _ _ _ (by simp)];exact y2
 refine ⟨⟨Rs.set i r,?_,by rw [List.length_set];exact h2,fun j r' hr'=>?_⟩,hku,XK (p:=⟨g,i * 3 + 2,none⟩) (XK (p:=⟨g,i * 3 + 1,none⟩) (XK (p:=⟨g,i * 3,none⟩) (World.grownBy.refl u (some g)) (.inl rfl) _) (.inl rfl) _) (.inl rfl) _⟩
 ·have hs1:=(h1.stored (i * 3) (.bool r.neg)).1;have hs2:=(hs1.stored (i * 3 + 1) (.slice r.A r.N.length r.c)).1;have hs3:=(hs2.stored (i * 3 + 2) (.slice r.B r.D.length r.d)).1;rw [Zfr Rs hl] at hs3;exact hs3
 ·unfold upd;by_cases e:j = i
  ·subst e;rw [List.getElem?_set_self hl] at hr';injection hr' with hr'
   rw [if_pos rfl,<- hr'];exact hr.ku hku
  ·rw [List.getElem?_set_ne (fun h=>e h.symm)] at hr';rw [if_neg e];exact (h3 j r' hr').ku hku
def Qb (i:Nat) (G F:Nat -> Rat) (j:Nat):Rat:=if j < i then G j else F j
theorem YT (G F:Nat -> Rat) (i:Nat) (q:Rat) (hq:G i = q):upd (Qb i G F) i q = Qb (i + 1) G F:=by
 funext j;unfold upd Qb;by_cases e:j = i
 ·subst e;rw [if_pos rfl,if_pos (by omega),hq]
 ·rw [if_neg e];by_cases h:j < i
  ·rw [if_pos h,if_pos (by omega)]
  ·rw [if_neg h,if_neg (by omega)]
theorem YN (G F:Nat -> Rat):Qb 0 G F = F:=by funext j;unfold Qb;simp
theorem UF (G F:Nat -> Rat) (i:Nat):Qb i G F i = F i:=by unfold Qb;simp
theorem FRw.full {W:World} {base g V:Nat} {F G:Nat -> Rat} (h:FRw W base g V (Qb V G F)):FRw W base g V G:=h.congr fun i hi=>by unfold Qb;rw [if_pos hi]
theorem FRw.made {W:World} {base g V:Nat} (h:W.ownsRow base 31 3 (.slice (some ⟨g,0,none⟩) V V) V (fcs (List.replicate V JI))):FRw W base g V (fun _=>((0:Int):Rat)):=
 ⟨List.replicate V JI,h,by simp,fun i r hr=>by
  have:=List.getElem?_eq_some_iff.1 hr;obtain ⟨h1,h2⟩:=this;rw [List.getElem_replicate] at h2;rw [<- h2];exact Fq.zero W⟩
def Zaw (V:Nat) (F:Nat -> Rat) (w:World) (e:Ending) (w':World):Prop:=∃ g,e = .returned (.slice (some ⟨g,0,none⟩) V V) /\ FRw w' w.heap.size g V F /\ Below w.heap.size w w'
def LvA (w:World) (lb lo n:Nat) (ct:Nat -> K4 -> Int -> Int):Prop:=∀ j,1 <= j -> j <= n -> ∃ b,w.cell? ⟨lb,lo + j,none⟩ = some (.map (some b)) /\ Lvl w b (ct j)
theorem LvA.below {w w':World} {lb lo n:Nat} {ct:Nat -> K4 -> Int -> Int} (h:LvA w lb lo n ct) (hb:Below w.heap.size w w'):LvA w' lb lo n ct:=fun j h1 h2=>by
 obtain ⟨b,h3,h4⟩:=h j h1 h2;exact ⟨b,(hb.cell (p:=⟨lb,lo + j,none⟩) (JW h3)).trans h3,h4.below hb⟩
theorem LvA.less {w:World} {lb lo n m:Nat} {ct:Nat -> K4 -> Int -> Int} (h:LvA w lb lo n ct) (hm:m <= n):LvA w lb lo m ct:=fun j h1 h2=>h j h1 (by omega)
end Go.Proofs.YtlgdlenoohkipaaGreat
