/- TalkLearns -/
import Derived.Test.YtcjicjfbippmnaaGreatMTLear21
set_option maxRecDepth 100000
set_option maxHeartbeats 32000000
namespace Go.Proofs.YtcjicjfbippmnaaGreat
open Go.RowKit Ear

theorem Ys {g:List Int} {o:Nat} (h:g.length = o) (ho:o <= 4):gmW o (kOf g) = g:=by
 subst h;unfold gmW kws kOf
 match g,ho with
 | [],_=>rfl
 | [a],_=>simp [kx]
 | [a,b],_=>simp [kx]
 | [a,b,c],_=>simp [kx]
 | [a,b,c,d],_=>simp [kx]
 | _ :: _ :: _ :: _ :: _ :: _,h=>simp at h
def FromG (o:Nat) (v:Int) (m:List (K4 × Int)):Prop:=∀ p ∈ m,1 <= p.2 /\ ∃ g,g.length = o /\ p.1 = kOf g /\ Xy 0 v g = true
theorem FromG.put {o:Nat} {v:Int} {m:List (K4 × Int)} (h:FromG o v m) {g:List Int} (hg:g.length = o) (ha:Xy 0 v g = true) {n:Int} (hn : 1 <= n):FromG o v (Y0 m (kOf g) ((J7 m (kOf g)).getD 0 + n)):=fun p hp=>by
 rcases Zz hp with rfl | hp
 ·refine ⟨?_,g,hg,rfl,ha⟩;have : 0 <= (J7 m (kOf g)).getD 0:=by
   cases hq:J7 m (kOf g) with
   | none=>simp
   | some y=>have:=(h _ (Uu hq)).1;simp at this ⊢;omega
  show 1 <= _ + n;omega
 ·exact h p hp
theorem Zq {o:Nat} (ho : 1 <= o) {v:Int} (hv : 0 <= v) {s:List Int} (ha:Xy 1 v s = true):∀ k,k <= s.length + 1 -> FromG o v (Yg o s k)
 | 0,_=>fun p h=>by simp [Yg] at h
 | k + 1,hk=>by
  unfold Yg;refine (Zq ho hv ha k (by omega)).put (Xi ho (by omega)) (Ze8 fun x hx=>?_) (by omega);rcases ZC hx with rfl | hx
  ·omega
  ·have:=ZF ha hx;omega
theorem Q0 {m:List (K4 × Int)} (h:(m.map (·.1)).Nodup) (k:K4) (n:Int):((Y0 m k n).map (·.1)).Nodup:=by
 rw [Zeg];cases hq:J7 m k with
 | some y=>simpa using h
 | none=>
  simp only [Option.isSome_none,Bool.false_eq_true,if_false];rw [List.nodup_append];refine ⟨h,by simp,?_⟩;intro a ha b hb e;simp at hb;subst hb;subst e;obtain ⟨p,hp,e⟩:=List.mem_map.1 ha;exact Zl.1 hq p hp e
theorem Ua (o:Nat) (s:List Int):∀ k,((Yg o s k).map (·.1)).Nodup
 | 0=>by simp [Yg]
 | k + 1=>by unfold Yg;exact Q0 (Ua o s k) _ _
theorem Yq:∀ (l:Tbl) (m:List (K4 × Int)),(m.map (·.1)).Nodup -> ((mrg m l).map (·.1)).Nodup
 | [],_,h=>h
 | _ :: l,_,h=>Yq l _ (Q0 h _ _)
theorem Y5 {o:Nat} {v:Int}:∀ (l:Tbl) (m:List (K4 × Int)),FromG o v m -> (∀ g ∈ l,g.1.length = o /\ Xy 0 v g.1 = true /\ 1 <= g.2) -> FromG o v (mrg m l)
 | [],_,h,_=>h
 | g :: l,_,h,hg=>Y5 l _ (h.put (hg g (by simp)).1 (hg g (by simp)).2.1 (hg g (by simp)).2.2) (fun x hx=>hg x (by simp [hx]))
theorem XQ {o v:Int} {l:Tbl} (h:XH o v l = 0):∀ g ∈ l,(g.1.length:Int) = o /\ Xy 0 v g.1 = true /\ 1 <= g.2 /\ g.2 <= 1073741824:=fun g hg=>by
 obtain ⟨_,_,h3⟩:=JP.1 h;obtain ⟨k,hk,rfl⟩:=List.getElem_of_mem hg;have hr:=List.all_eq_true.1 h3 k (List.mem_range.2 hk);unfold Xr at hr;rw [JU hk] at hr;simp only [Bool.and_eq_true] at hr;exact Xj.1 hr.1
theorem Zgu {o:Nat} {v:Int} {m:List (K4 × Int)} {T:Tbl} (hz:XD o v = true) (hf:FromG o v m) (hn:(m.map (·.1)).Nodup) (hl:m.length <= 20000) (hb:∀ p ∈ m,p.2 <= 1073741824)
  (hp:T.Perm (m.map fun p=>(gmW o p.1,p.2))) (hs:T.Pairwise fun x y=>¬ J3 y.1 x.1 < 0):XH o v T = 0:=by
 have ho4:o <= 4:=by have:=(JL.1 hz).2.1;omega
 have hlen:T.length = m.length:=by have:=hp.length_eq;simpa using this
 have hnd:(T.map (·.1)).Nodup:=by
  have h1:=hp.map (fun g:List Int × Int=>g.1);rw [List.map_map] at h1;refine h1.nodup_iff.2 ?_;rw [List.Nodup,List.pairwise_map] at hn ⊢;refine hn.imp_of_mem (fun {a b} ha hb' hne e=>hne ?_);obtain ⟨_,g1,q1,q2,_⟩:=hf a ha;obtain ⟨_,g2,r1,r2,_⟩:=hf b hb';simp only [Function.comp] at e;rw [q2,r2,Ys q1 ho4,Ys r1 ho4] at e;rw [q2,r2,e]
 refine JP.2 ⟨by omega,hz,Zam fun k hk=>?_⟩;unfold Xr;rw [JU hk];simp only [Bool.and_eq_true,Bool.or_eq_true,beq_iff_eq,decide_eq_true_eq];refine ⟨?_,?_⟩
 ·have hm:=hp.mem_iff.1 (yM hk);obtain ⟨p,hpm,e⟩:=List.mem_map.1 hm;obtain ⟨h1,g,q1,q2,q3⟩:=hf p hpm;rw [<- e,Xj];simp only;rw [q2,Ys q1 ho4];exact ⟨by omega,q3,h1,hb p hpm⟩
 ·by_cases h0:k = 0
  ·exact .inl h0
  ·refine .inr ?_;have hk1:k - 1 < T.length:=(by omega);rw [JU hk1];have h1:=List.pairwise_iff_getElem.1 hs (k - 1) k hk1 hk (by omega);rw [List.Nodup,List.pairwise_map] at hnd;have h2:=List.pairwise_iff_getElem.1 hnd (k - 1) k hk1 hk (by omega);have h3:=VD T[k - 1].1 T[k].1;have h4:J3 T[k - 1].1 T[k].1 ≠ 0:=fun e=>h2 (Xn.1 e);omega
end Go.Proofs.YtcjicjfbippmnaaGreat
