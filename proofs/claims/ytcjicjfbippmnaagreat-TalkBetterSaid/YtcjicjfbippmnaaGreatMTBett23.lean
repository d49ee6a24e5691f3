/- TalkBetter -/
import Derived.Test.YtcjicjfbippmnaaGreatMTBett20
set_option maxRecDepth 100000
set_option maxHeartbeats 32000000
namespace Go.Proofs.YtcjicjfbippmnaaGreat
open Go.RowKit Ear

theorem Yy {g:List Int} {o:Nat} (h:g.length = o) (ho:o <= 4):gmW o (kOf g) = g:=by
 subst h;unfold gmW kws kOf
 match g,ho with
 | [],_=>rfl
 | [a],_=>simp [kx]
 | [a,b],_=>simp [kx]
 | [a,b,c],_=>simp [kx]
 | [a,b,c,d],_=>simp [kx]
 | _ :: _ :: _ :: _ :: _ :: _,h=>simp at h
def FromG (o:Nat) (v:Int) (m:List (K4 × Int)):Prop:=∀ p ∈ m,1 <= p.2 /\ ∃ g,g.length = o /\ p.1 = kOf g /\ Xx 0 v g = true
theorem FromG.put {o:Nat} {v:Int} {m:List (K4 × Int)} (h:FromG o v m) {g:List Int} (hg:g.length = o) (ha:Xx 0 v g = true) {n:Int} (hn : 1 <= n):FromG o v (Yd m (kOf g) ((JG m (kOf g)).getD 0 + n)):=fun p hp=>by
 rcases Yi hp with rfl | hp
 ·refine ⟨?_,g,hg,rfl,ha⟩;have : 0 <= (JG m (kOf g)).getD 0:=by
   cases hq:JG m (kOf g) with
   | none=>simp
   | some y=>have:=(h _ (Xh hq)).1;simp at this ⊢;omega
  show 1 <= _ + n;omega
 ·exact h p hp
theorem Zy {o:Nat} (ho : 1 <= o) {v:Int} (hv : 0 <= v) {s:List Int} (ha:Xx 1 v s = true):∀ k,k <= s.length + 1 -> FromG o v (Ye o s k)
 | 0,_=>fun p h=>by simp [Ye] at h
 | k + 1,hk=>by
  unfold Ye;refine (Zy ho hv ha k (by omega)).put (JQ ho (by omega)) (Zf1 fun x hx=>?_) (by omega);rcases Y4 hx with rfl | hx
  ·omega
  ·have:=Zd ha hx;omega
theorem QQ {m:List (K4 × Int)} (h:(m.map (·.1)).Nodup) (k:K4) (n:Int):((Yd m k n).map (·.1)).Nodup:=by
 rw [Ze0];cases hq:JG m k with
 | some y=>simpa using h
 | none=>
  simp only [Option.isSome_none,Bool.false_eq_true,if_false];rw [List.nodup_append];refine ⟨h,by simp,?_⟩;intro a ha b hb e;simp at hb;subst hb;subst e;obtain ⟨p,hp,e⟩:=List.mem_map.1 ha;exact XZ.1 hq p hp e
theorem Ua (o:Nat) (s:List Int):∀ k,((Ye o s k).map (·.1)).Nodup
 | 0=>by simp [Ye]
 | k + 1=>by unfold Ye;exact QQ (Ua o s k) _ _
theorem Yw:∀ (l:Tbl) (m:List (K4 × Int)),(m.map (·.1)).Nodup -> ((mrg m l).map (·.1)).Nodup
 | [],_,h=>h
 | _ :: l,_,h=>Yw l _ (QQ h _ _)
theorem Za {o:Nat} {v:Int}:∀ (l:Tbl) (m:List (K4 × Int)),FromG o v m -> (∀ g ∈ l,g.1.length = o /\ Xx 0 v g.1 = true /\ 1 <= g.2) -> FromG o v (mrg m l)
 | [],_,h,_=>h
 | g :: l,_,h,hg=>Za l _ (h.put (hg g (by simp)).1 (hg g (by simp)).2.1 (hg g (by simp)).2.2) (fun x hx=>hg x (by simp [hx]))
theorem XW {o v:Int} {l:Tbl} (h:Yb o v l = 0):∀ g ∈ l,(g.1.length:Int) = o /\ Xx 0 v g.1 = true /\ 1 <= g.2 /\ g.2 <= 1073741824:=fun g hg=>by
 obtain ⟨_,_,h3⟩:=JO.1 h;obtain ⟨k,hk,rfl⟩:=List.getElem_of_mem hg;have hr:=List.all_eq_true.1 h3 k (List.mem_range.2 hk);unfold Xv at hr;rw [JX hk] at hr;simp only [Bool.and_eq_true] at hr;exact Xr.1 hr.1
theorem Zhu {o:Nat} {v:Int} {m:List (K4 × Int)} {T:Tbl} (hz:Xz o v = true) (hf:FromG o v m) (hn:(m.map (·.1)).Nodup) (hl:m.length <= 20000) (hb:∀ p ∈ m,p.2 <= 1073741824)
  (hp:T.Perm (m.map fun p=>(gmW o p.1,p.2))) (hs:T.Pairwise fun x y=>¬ Xb y.1 x.1 < 0):Yb o v T = 0:=by
 have ho4:o <= 4:=by have:=(JB.1 hz).2.1;omega
 have hlen:T.length = m.length:=by have:=hp.length_eq;simpa using this
 have hnd:(T.map (·.1)).Nodup:=by
  have h1:=hp.map (fun g:List Int × Int=>g.1);rw [List.map_map] at h1;refine h1.nodup_iff.2 ?_;rw [List.Nodup,List.pairwise_map] at hn ⊢;refine hn.imp_of_mem (fun {a b} ha hb' hne e=>hne ?_);obtain ⟨_,g1,q1,q2,_⟩:=hf a ha;obtain ⟨_,g2,r1,r2,_⟩:=hf b hb';simp only [Function.comp] at e;rw [q2,r2,Yy q1 ho4,Yy r1 ho4] at e;rw [q2,r2,e]
 refine JO.2 ⟨by omega,hz,Zab fun k hk=>?_⟩;unfold Xv;rw [JX hk];simp only [Bool.and_eq_true,Bool.or_eq_true,beq_iff_eq,decide_eq_true_eq];refine ⟨?_,?_⟩
 ·have hm:=hp.mem_iff.1 (yM hk);obtain ⟨p,hpm,e⟩:=List.mem_map.1 hm;obtain ⟨h1,g,q1,q2,q3⟩:=hf p hpm;rw [<- e,Xr];simp only;rw [q2,Yy q1 ho4];exact ⟨by omega,q3,h1,hb p hpm⟩
 ·by_cases h0:k = 0
  ·exact .inl h0
  ·refine .inr ?_;have hk1:k - 1 < T.length:=(by omega);rw [JX hk1];have h1:=List.pairwise_iff_getElem.1 hs (k - 1) k hk1 hk (by omega);rw [List.Nodup,List.pairwise_map] at hnd;have h2:=List.pairwise_iff_getElem.1 hnd (k - 1) k hk1 hk (by omega);have h3:=VE T[k - 1].1 T[k].1;have h4:Xb T[k - 1].1 T[k].1 ≠ 0:=fun e=>h2 (X8.1 e);omega
end Go.Proofs.YtcjicjfbippmnaaGreat
