/- a part of TalkApart -/
import Derived.Test.YtcjicjfbippmnaaGreatMTApar44
import Derived.Test.YtcjicjfbippmnaaGreatMTApar18
import Derived.Test.YtcjicjfbippmnaaGreatMTApar1
import Derived.Test.YtcjicjfbippmnaaGreatMTApar40
import Derived.Test.YtcjicjfbippmnaaGreatMTApar30
set_option maxRecDepth 100000
set_option maxHeartbeats 32000000
namespace Ear
open Go.Proofs.YtcjicjfbippmnaaGreat (Vcs)

theorem putAll_get (c:Int):∀ (ms o:List Int) (i:Nat),i < o.length -> (∀ g ∈ ms,0 <= g) -> (putAll o ms c)[i]?.getD 0 = if (i:Int) ∈ ms then c else o[i]?.getD 0:=by
 intro ms
 induction ms with
 | nil=>intro o i _ _;simp [putAll]
 | cons g l ih=>
  intro o i hi hn
  show (putAll (o.set g.toNat c) l c)[i]?.getD 0 = _
  rw [ih _ i (by simpa using hi) (fun x hx=>hn x (by simp [hx]))]
  have h0:=hn g (by simp)
  by_cases h1:(i:Int) ∈ l
  ·rw [if_pos h1,if_pos (by simp [h1])]
  ·rw [if_neg h1]
   by_cases h2:(i:Int) = g
   ·rw [if_pos (by simp [h2]),show g.toNat = i by omega,List.getElem?_set_self hi];rfl
   ·rw [if_neg (by simp [h1,h2]),List.getElem?_set_ne (by omega)]
section
variable {gs:List (List (List Int))} {S:List Clu} (h:CluA gs S)
include h
theorem CluA.nodup:(S.flatMap (·.1)).Nodup:=by
 rw [h.all.nodup_iff]
 unfold List.Nodup
 rw [List.pairwise_map]
 exact List.nodup_range.imp (fun hab e=>hab (Int.ofNat.inj e))
theorem CluA.mem {x:Clu} (hx:x ∈ S) {g:Int} (hg:g ∈ x.1) : 0 <= g /\ g < (gs.length:Int):=by
 have:g ∈ (List.range gs.length).map (fun k:Nat=>(k:Int)):=h.all.mem_iff.1 (List.mem_flatMap.2 ⟨x,hx,hg⟩)
 obtain ⟨k,hk,rfl⟩:=List.mem_map.1 this
 have:=List.mem_range.1 hk
 omega
theorem CluA.some {g:Nat} (hg:g < gs.length):∃ k,∃ hk:k < S.length,(g:Int) ∈ S[k].1:=by
 have:(g:Int) ∈ S.flatMap (·.1):=h.all.mem_iff.2 (List.mem_map.2 ⟨g,List.mem_range.2 hg,rfl⟩)
 obtain ⟨x,hx,hgx⟩:=List.mem_flatMap.1 this
 obtain ⟨k,hk,rfl⟩:=List.getElem_of_mem hx
 exact ⟨k,hk,hgx⟩
theorem CluA.one {i j:Nat} (hi:i < S.length) (hj:j < S.length) {g:Int} (h1:g ∈ S[i].1) (h2:g ∈ S[j].1):i = j:=by
 have hn:=h.nodup
 have key:∀ (S:List Clu),(S.flatMap (·.1)).Nodup -> ∀ i j (hi:i < S.length) (hj:j < S.length),g ∈ S[i].1 -> g ∈ S[j].1 -> i = j:=by
  intro S
  induction S with
  | nil=>intro _ i j hi;simp at hi
  | cons x S ih=>
   intro hn i j hi hj h1 h2
   rw [List.flatMap_cons,List.nodup_append] at hn
   obtain ⟨_,n2,n3⟩:=hn
   cases i with
   | zero=>
    cases j with
    | zero=>rfl
    | succ j=>
     exfalso
     simp only [List.length_cons] at hj
     exact n3 g (by simpa using h1) g (List.mem_flatMap.2 ⟨S[j],List.getElem_mem _,by simpa using h2⟩) rfl
   | succ i=>
    cases j with
    | zero=>
     exfalso
     simp only [List.length_cons] at hi
     exact n3 g (by simpa using h2) g (List.mem_flatMap.2 ⟨S[i],List.getElem_mem _,by simpa using h1⟩) rfl
    | succ j=>
     simp only [List.length_cons] at hi hj
     rw [ih n2 i j (by omega) (by omega) (by simpa using h1) (by simpa using h2)]
 exact key S hn i j hi hj h1 h2
theorem CluA.outK {j:Nat} (hj:j < S.length) {g:Nat} (hg:(g:Int) ∈ S[j].1):∀ k,k <= S.length -> (outK S gs.length k)[g]?.getD 0 = if j < k then (j:Int) else 0:=by
 have hgl:=h.mem (List.getElem_mem hj) hg
 intro k
 induction k with
 | zero=>
  intro _
  simp only [Ear.outK,List.getElem?_replicate,Nat.not_lt_zero,if_false]
  split <;> rfl
 | succ k ih=>
  intro hk
  have hk':k < S.length:=by omega
  unfold Ear.outK
  have e:(S[k]?.getD ([],[])) = S[k]:=by rw [List.getElem?_eq_getElem hk',Option.getD_some]
  rw [e,putAll_get _ _ _ g (by rw [outK_length];omega) (fun x hx=>(h.mem (List.getElem_mem hk') hx).1),ih (by omega)]
  by_cases h1:(g:Int) ∈ S[k].1
  ·have:=h.one hj hk' hg h1
   rw [if_pos h1,if_pos (by omega),this]
  ·have:j ≠ k:=by rintro rfl;exact h1 hg
   rw [if_neg h1]
   by_cases h2:j < k
   ·rw [if_pos h2,if_pos (by omega)]
   ·rw [if_neg h2,if_neg (by omega)]
theorem CluA.out {j:Nat} (hj:j < S.length) {g:Nat} (hg:(g:Int) ∈ S[j].1):(outS S gs.length)[g]?.getD 0 = (j:Int):=by
 unfold outS
 rw [h.outK hj hg S.length (Nat.le_refl _),if_pos hj]
end
def jStep (J:List (List (List Int))) (l:Nat) (g:List (List Int)):List (List (List Int)):=
 (if l = J.length then J ++ [[]] else J).set l (((if l = J.length then J ++ [[]] else J)[l]?.getD []) ++ g)
def jn (out:List Int) (gs:List (List (List Int))):Nat -> List (List (List Int))
 | 0=>[]
 | i + 1=>jStep (jn out gs i) (out[i]?.getD 0).toNat (gs[i]?.getD [])
def pkI (out:List Int) (k i:Nat):List Nat:=(List.range i).filter (fun g=>out[g]?.getD 0 == (k:Int))
def pk (out:List Int) (gs:List (List (List Int))) (k i:Nat):List (List Int):=(pkI out k i).flatMap (fun g=>gs[g]?.getD [])
theorem pk_succ (out:List Int) (gs:List (List (List Int))) (k i:Nat):pk out gs k (i + 1) = pk out gs k i ++ if out[i]?.getD 0 = (k:Int) then gs[i]?.getD [] else []:=by
 unfold pk pkI
 rw [List.range_succ,List.filter_append,List.flatMap_append]
 congr 1
 by_cases h:out[i]?.getD 0 = (k:Int)
 ·rw [if_pos h];simp [h]
 ·rw [if_neg h];simp [h]
theorem jn_ok {gs:List (List (List Int))} {S:List Clu} (h:CluA gs S):∀ i,i <= gs.length ->
  (∀ k,k < (jn (outS S gs.length) gs i).length ↔ ∃ hk:k < S.length,hd S[k] < (i:Int)) /\ ∀ k,k < (jn (outS S gs.length) gs i).length -> (jn (outS S gs.length) gs i)[k]?.getD [] = pk (outS S gs.length) gs k i:=by
 have hinc:∀ a b (ha:a < b) (hb:b < S.length),hd S[a] < hd S[b]:=fun a b ha hb=>List.pairwise_iff_getElem.1 h.inc a b (by omega) hb ha
 intro i
 induction i with
 | zero=>
  intro _
  refine ⟨fun k=>⟨fun hk=>by simp [jn] at hk,fun ⟨hk,h2⟩=>?_⟩,fun k hk=>by simp [jn] at hk⟩
  exfalso
  have hx:=List.getElem_mem hk
  have hne:=h.ne _ hx
  have:hd S[k] ∈ S[k].1:=by
   unfold hd
   cases e:S[k].1 with
   | nil=>exact absurd e hne
   | cons a l=>simp
  have:=h.mem hx this
  omega
 | succ i ih=>
  intro hi
  obtain ⟨ih1,ih2⟩:=ih (by omega)
  obtain ⟨k0,hk0,hmem⟩:=h.some (show i < gs.length by omega)
  have ho:=h.out hk0 hmem
  have hlow:=h.low _ (List.getElem_mem hk0) _ hmem
  have hat:∀ k (hk:k < S.length),hd S[k] = (i:Int) -> k = k0:=fun k hk e=>by
   have hne:=h.ne _ (List.getElem_mem hk)
   have:hd S[k] ∈ S[k].1:=by
    unfold hd
    cases e:S[k].1 with
    | nil=>exact absurd e hne
    | cons a l=>simp
   rw [e] at this
   exact h.one hk hk0 this hmem
  simp only [jn]
  rw [ho,Int.toNat_natCast]
  generalize hJ:jn (outS S gs.length) gs i = J at *
  have hle:k0 <= J.length:=by
   apply Nat.le_of_not_lt
   intro hlt
   have:=(ih1 J.length).2 ⟨by omega,by have:=hinc J.length k0 hlt hk0;omega⟩
   omega
  by_cases he:k0 = J.length
  ·have hnot:¬ hd S[k0] < (i:Int):=fun hl=>by have:=(ih1 k0).2 ⟨hk0,hl⟩;omega
   have heq:hd S[k0] = (i:Int):=by omega
   have hnil:pk (outS S gs.length) gs k0 i = []:=by
    unfold pk
    have:pkI (outS S gs.length) k0 i = []:=by
     unfold pkI
     rw [List.filter_eq_nil_iff]
     intro g hg hgo
     have hgi:=List.mem_range.1 hg
     obtain ⟨k1,hk1,hm1⟩:=h.some (show g < gs.length by omega)
     have:=h.out hk1 hm1
     rw [this] at hgo
     have e0:(k1:Int) = (k0:Int):=by simpa using hgo
     have e1:k1 = k0:=by omega
     subst e1
     have:=h.low _ (List.getElem_mem hk1) _ hm1
     omega
    rw [this];rfl
   unfold jStep
   rw [if_pos he]
   have e3:(J ++ [[]])[k0]?.getD [] = ([]:List (List Int)):=by rw [he];simp
   rw [e3,List.nil_append]
   refine ⟨fun k=>?_,fun k hk=>?_⟩
   ·rw [List.length_set,List.length_append,List.length_singleton]
    constructor
    ·intro hk
     by_cases hkk:k < J.length
     ·obtain ⟨a,b⟩:=(ih1 k).1 hkk;exact ⟨a,by omega⟩
     ·have:k = k0:=by omega
      subst this;exact ⟨hk0,by omega⟩
    ·rintro ⟨a,b⟩
     by_cases hh:hd S[k] < (i:Int)
     ·have:=(ih1 k).2 ⟨a,hh⟩;omega
     ·have:=hat k a (by omega);omega
   ·rw [List.length_set,List.length_append,List.length_singleton] at hk
    rw [pk_succ,ho]
    by_cases hkk:k = k0
    ·subst hkk
     rw [List.getElem?_set_self (by simp;omega),if_pos rfl,hnil];rfl
    ·rw [List.getElem?_set_ne (by omega),List.getElem?_append_left (by omega),ih2 k (by omega),if_neg (by omega),List.append_nil]
  ·have hlt:k0 < J.length:=by omega
   obtain ⟨_,hb0⟩:=(ih1 k0).1 hlt
   unfold jStep
   rw [if_neg he]
   refine ⟨fun k=>?_,fun k hk=>?_⟩
   ·rw [List.length_set]
    constructor
    ·intro hk;obtain ⟨a,b⟩:=(ih1 k).1 hk;exact ⟨a,by omega⟩
    ·rintro ⟨a,b⟩
     by_cases hh:hd S[k] < (i:Int)
     ·exact (ih1 k).2 ⟨a,hh⟩
     ·have e:=hat k a (by omega)
      subst e;omega
   ·rw [List.length_set] at hk
    rw [pk_succ,ho]
    by_cases hkk:k = k0
    ·subst hkk
     rw [List.getElem?_set_self hlt,if_pos rfl,ih2 k hlt];rfl
    ·rw [List.getElem?_set_ne (by omega),ih2 k hk,if_neg (by omega),List.append_nil]
end Ear
namespace Ear

def cX (vs:List (List Int)) (i c:Nat):Int:=(vs[i]?.getD [])[c]?.getD 0
def colQ (vs:List (List Int)) (c:Nat):Nat -> Int
 | 0=>0
 | t + 1=>colQ vs c t + cX vs t c * cX vs t c
theorem colS_x (vs:List (List Int)) (c t:Nat):colS vs c (t + 1) = colS vs c t + cX vs t c:=rfl
theorem cX_left {a b:List (List Int)} {t c:Nat} (h:t < a.length):cX (a ++ b) t c = cX a t c:=by unfold cX;rw [List.getElem?_append_left h]
theorem cX_right {a b:List (List Int)} {t c:Nat}:cX (a ++ b) (a.length + t) c = cX b t c:=by
 unfold cX;rw [List.getElem?_append_right (Nat.le_add_right _ _),Nat.add_sub_cancel_left]
theorem col_left {a b:List (List Int)} {c:Nat}:∀ t,t <= a.length -> colS (a ++ b) c t = colS a c t /\ colQ (a ++ b) c t = colQ a c t:=by
 intro t
 induction t with
 | zero=>intro _;exact ⟨rfl,rfl⟩
 | succ t ih=>
  intro h
  obtain ⟨h1,h2⟩:=ih (by omega)
  rw [colS_x,colS_x,h1,colQ,colQ,h2,cX_left (by omega)]
  exact ⟨rfl,rfl⟩
theorem col_right {a b:List (List Int)} {c:Nat}:∀ t,colS (a ++ b) c (a.length + t) = colS a c a.length + colS b c t /\ colQ (a ++ b) c (a.length + t) = colQ a c a.length + colQ b c t:=by
 intro t
 induction t with
 | zero=>
  obtain ⟨h1,h2⟩:=col_left (a:=a) (b:=b) (c:=c) a.length (Nat.le_refl _)
  rw [Nat.add_zero,h1,h2]
  exact ⟨by simp [colS],by simp [colQ]⟩
 | succ t ih=>
  obtain ⟨h1,h2⟩:=ih
  rw [<- Nat.add_assoc,colS_x,colS_x,h1,colQ,colQ,h2,cX_right]
  omega
end Ear
namespace Ear
open Go.Proofs.YtcjicjfbippmnaaGreat (Vcs)

theorem colT_cons (x:List Int) (l:List (List Int)) (c:Nat):colS (x :: l) c (x :: l).length = x[c]?.getD 0 + colS l c l.length:=by
 have h:=(col_right (a:=[x]) (b:=l) (c:=c) l.length).1
 have e:colS [x] c [x].length = x[c]?.getD 0:=by simp [colS]
 rw [e] at h
 rw [<- h,List.length_cons,List.length_singleton,Nat.add_comm];rfl
theorem colT_perm {a b:List (List Int)} (h:a.Perm b) (c:Nat):colS a c a.length = colS b c b.length:=by
 induction h with
 | nil=>rfl
 | cons x _ ih=>rw [colT_cons,colT_cons,ih]
 | swap x y l=>rw [colT_cons,colT_cons,colT_cons,colT_cons];omega
 | trans _ _ i1 i2=>exact i1.trans i2
theorem gapQ_perm {a a' b b':List (List Int)} (ha:a.Perm a') (hb:b.Perm b') (hl:len0 a = len0 a'):gapQ a b = gapQ a' b':=by
 have hg:∀ c,gD a b c = gD a' b' c:=fun c=>by unfold gD;rw [colT_perm ha,colT_perm hb,ha.length_eq,hb.length_eq]
 have hi:∀ k,gI a b k = gI a' b' k:=by
  intro k
  induction k with
  | zero=>rfl
  | succ k ih=>simp only [gI,ih,hg]
 unfold gapQ
 rw [hi,hl,ha.length_eq,hb.length_eq]
theorem jn_len {gs:List (List (List Int))} {S:List Clu} (h:CluA gs S):(jn (outS S gs.length) gs gs.length).length = S.length:=by
 obtain ⟨h1,_⟩:=jn_ok h gs.length (Nat.le_refl _)
 have key:∀ k,k < (jn (outS S gs.length) gs gs.length).length ↔ k < S.length:=fun k=>by
  rw [h1 k]
  constructor
  ·rintro ⟨a,_⟩;exact a
  ·intro a
   refine ⟨a,?_⟩
   have hx:=List.getElem_mem a
   have hne:=h.ne _ hx
   have:hd S[k] ∈ S[k].1:=by
    unfold hd
    cases e:S[k].1 with
    | nil=>exact absurd e hne
    | cons a l=>simp
   exact (h.mem hx this).2
 have a1:=key (jn (outS S gs.length) gs gs.length).length
 have a2:=key S.length
 omega
theorem jn_at {gs:List (List (List Int))} {S:List Clu} (h:CluA gs S) {k:Nat} (hk:k < S.length):((jn (outS S gs.length) gs gs.length)[k]?.getD []).Perm S[k].2:=by
 obtain ⟨_,h2⟩:=jn_ok h gs.length (Nat.le_refl _)
 rw [h2 k (by rw [jn_len h];exact hk),h.vec _ (List.getElem_mem hk)]
 have e:S[k].1.flatMap (fun g=>gs[g.toNat]?.getD []) = (S[k].1.map Int.toNat).flatMap (fun g=>gs[g]?.getD []):=by rw [List.flatMap_map]
 rw [e]
 refine List.Perm.flatMap_right _ ?_
 have hn1:(pkI (outS S gs.length) k gs.length).Nodup:=List.Pairwise.filter _ List.nodup_range
 have hnS:S[k].1.Nodup:=by
  have hn:=h.nodup
  have key:∀ (S:List Clu),(S.flatMap (·.1)).Nodup -> ∀ k (hk:k < S.length),S[k].1.Nodup:=by
   intro S
   induction S with
   | nil=>intro _ k hk;simp at hk
   | cons x S ih=>
    intro hn k hk
    rw [List.flatMap_cons,List.nodup_append] at hn
    cases k with
    | zero=>simpa using hn.1
    | succ k=>simpa using ih hn.2.1 k (by simpa using hk)
  exact key S hn k hk
 have hn2:(S[k].1.map Int.toNat).Nodup:=by
  unfold List.Nodup
  rw [List.pairwise_map,List.pairwise_iff_getElem]
  intro i j hi hj hij e
  have m1:=h.mem (List.getElem_mem hk) (List.getElem_mem hi)
  have m2:=h.mem (List.getElem_mem hk) (List.getElem_mem hj)
  exact (List.pairwise_iff_getElem.1 hnS) i j hi hj hij (by omega)
 rw [List.perm_ext_iff_of_nodup hn1 hn2]
 intro g
 unfold pkI
 rw [List.mem_filter,List.mem_range,List.mem_map]
 constructor
 ·rintro ⟨hg,ho⟩
  obtain ⟨k1,hk1,hm1⟩:=h.some hg
  rw [h.out hk1 hm1] at ho
  have e0:(k1:Int) = (k:Int):=by simpa using ho
  have e1:k1 = k:=by omega
  subst e1
  exact ⟨_,hm1,by simp⟩
 ·rintro ⟨z,hz,rfl⟩
  have hm:=h.mem (List.getElem_mem hk) hz
  have hz':((z.toNat:Nat):Int) ∈ S[k].1:=by rw [Int.toNat_of_nonneg hm.1];exact hz
  refine ⟨by omega,?_⟩
  rw [h.out hk hz']
  simp
theorem jn_label {gs:List (List (List Int))} {S:List Clu} (h:CluA gs S) {i:Nat} (hi:i < gs.length) : 0 <= (outS S gs.length)[i]?.getD 0 /\ (outS S gs.length)[i]?.getD 0 <= ((jn (outS S gs.length) gs i).length:Int):=by
 obtain ⟨h1,_⟩:=jn_ok h i (by omega)
 obtain ⟨k0,hk0,hmem⟩:=h.some hi
 rw [h.out hk0 hmem]
 refine ⟨by omega,?_⟩
 have hle:k0 <= (jn (outS S gs.length) gs i).length:=by
  apply Nat.le_of_not_lt
  intro hlt
  have hlow:=h.low _ (List.getElem_mem hk0) _ hmem
  have hinc:=List.pairwise_iff_getElem.1 h.inc (jn (outS S gs.length) gs i).length k0 (by omega) hk0 hlt
  have:=(h1 (jn (outS S gs.length) gs i).length).2 ⟨by omega,by omega⟩
  omega
 omega
theorem vcs_len0 {d:Nat} {vs:List (List Int)} (h:Vcs d vs) (hp : 0 < vs.length):len0 vs = d:=by
 cases vs with
 | nil=>simp at hp
 | cons x l=>exact (h x (by simp)).1
theorem apart {gs:List (List (List Int))} {most:Int} {lim:Rat} (hg:grpR gs = 0) (hm : 1 <= most) :
  ((jn (outS (clu most lim gs.length (startS gs)) gs.length) gs gs.length).length:Int) <= most /\
  ∀ a b,a < b -> b < (jn (outS (clu most lim gs.length (startS gs)) gs.length) gs gs.length).length ->
   grpR [(jn (outS (clu most lim gs.length (startS gs)) gs.length) gs gs.length)[a]?.getD [],(jn (outS (clu most lim gs.length (startS gs)) gs.length) gs gs.length)[b]?.getD []] = 0 /\
   lim < gapQ ((jn (outS (clu most lim gs.length (startS gs)) gs.length) gs gs.length)[a]?.getD []) ((jn (outS (clu most lim gs.length (startS gs)) gs.length) gs gs.length)[b]?.getD []):=by
 have hA:CluA gs (clu most lim gs.length (startS gs)):=CluA.clu _ _ (CluA.start gs)
 have hI:CluI (len0 gs.flatten) gs.length (clu most lim gs.length (startS gs)):=by
  have key:∀ (f:Nat) (S:List Clu),CluI (len0 gs.flatten) gs.length S -> CluI (len0 gs.flatten) gs.length (clu most lim f S):=by
   intro f
   induction f with
   | zero=>intro S h;exact h
   | succ f ih=>
    intro S h
    unfold clu
    split
    ·exact h
    ·rename_i h1
     split
     ·exact h
     ·refine ih _ ?_
      obtain ⟨a,b,q,hs,hab,hb,-,-⟩:=scanS_some (G:=cG S) (n:=S.length) (by omega)
      have e:near S = some (a,b,q):=hs
      rw [e]
      show CluI _ _ (joinS S ((a:Int)).toNat ((b:Int)).toNat)
      rw [Int.toNat_natCast,Int.toNat_natCast]
      exact h.join hab hb
  exact key _ _ (startS_ok hg)
 have hE:=clu_end (most:=most) (lim:=lim) gs.length (startS gs) (by rw [startS_len];omega)
 have hL:=jn_len hA
 have hP:=fun k (hk:k < (clu most lim gs.length (startS gs)).length)=>jn_at hA hk
 have h64:=(grp_all hg).2.2.1
 have h1k:∀ g ∈ gs,0 < g.length /\ Vcs (len0 gs.flatten) g:=(grp_all hg).2.2.2
 have hvd:∀ x ∈ gs.flatten,okV (len0 gs.flatten) x = true:=by
  unfold grpR at hg
  split at hg
  ·cases hg
  ·split at hg
   ·rename_i hok
    unfold grpOk at hok
    rw [Bool.and_eq_true] at hok
    exact List.all_eq_true.1 hok.2
   ·cases hg
 generalize clu most lim gs.length (startS gs) = S at *
 generalize jn (outS S gs.length) gs gs.length = J at *
 refine ⟨?_,fun a b hab hb=>?_⟩
 ·rcases hE with h | h
  ·omega
  ·unfold stopS at h
   rw [Bool.and_eq_true,decide_eq_true_eq] at h
   rw [hL];exact h.1
 ·rw [hL] at hb
  have ha:a < S.length:=by omega
  have pa:=hP a ha
  have pb:=hP b hb
  have va:=hI.vcs _ (List.getElem_mem ha)
  have vb:=hI.vcs _ (List.getElem_mem hb)
  have na:=hI.pos _ (List.getElem_mem ha)
  have nb:=hI.pos _ (List.getElem_mem hb)
  have hla:=hI.len (List.getElem_mem ha)
  generalize J[a]?.getD [] = ja at *
  generalize J[b]?.getD [] = jb at *
  have va':Vcs (len0 gs.flatten) ja:=fun x hx=>va x (pa.mem_iff.1 hx)
  have vb':Vcs (len0 gs.flatten) jb:=fun x hx=>vb x (pb.mem_iff.1 hx)
  have na' : 0 < ja.length:=by rw [pa.length_eq];exact na
  have nb' : 0 < jb.length:=by rw [pb.length_eq];exact nb
  have e0:len0 ja = len0 gs.flatten:=vcs_len0 va' na'
  have e1:len0 S[a].2 = len0 gs.flatten:=vcs_len0 va na
  have e2:len0 jb = len0 gs.flatten:=vcs_len0 vb' nb'
  refine ⟨?_,?_⟩
  ·have htot:ja.length + jb.length <= 10000:=by
    rw [pa.length_eq,pb.length_eq]
    have ht:=hI.tot
    have key:∀ (l:List Clu) (i j:Nat) (hij:i < j) (hj:j < l.length),(l[i]'(by omega)).2.length + l[j].2.length <= (l.map fun x=>x.2.length).sum:=by
     intro l
     induction l with
     | nil=>intro i j hij hj;simp at hj
     | cons x l ih=>
      intro i j hij hj
      cases j with
      | zero=>omega
      | succ j=>
       simp only [List.length_cons] at hj
       cases i with
       | zero=>
        simp only [List.getElem_cons_zero,List.getElem_cons_succ,List.map_cons,List.sum_cons]
        have:=sum_le_of_mem (fun x:Clu=>x.2.length) l (List.getElem_mem (show j < l.length by omega))
        omega
       | succ i=>
        simp only [List.getElem_cons_succ,List.map_cons,List.sum_cons]
        have:=ih i j (by omega) (by omega)
        omega
    exact Nat.le_trans (key S a b hab hb) ht
   have hok:grpOk [ja,jb] = true:=by
    have hne:gs.flatten ≠ []:=by
     intro e
     have hv0:∃ x,x ∈ ja:=⟨ja[0],List.getElem_mem na'⟩
     obtain ⟨x,hx⟩:=hv0
     have hxs:=pa.mem_iff.1 hx
     rw [hA.vec _ (List.getElem_mem ha)] at hxs
     obtain ⟨g,_,hg2⟩:=List.mem_flatMap.1 hxs
     by_cases hgl:g.toNat < gs.length
     ·rw [List.getElem?_eq_getElem hgl,Option.getD_some] at hg2
      have:x ∈ gs.flatten:=List.mem_flatten.2 ⟨_,List.getElem_mem hgl,hg2⟩
      rw [e] at this;simp at this
     ·rw [List.getElem?_eq_none (by omega)] at hg2;simp at hg2
    have hd1 : 1 <= len0 gs.flatten:=by
     have hx:=hvd (gs.flatten[0]'(List.length_pos_iff.2 hne)) (List.getElem_mem _)
     have:=okV_iff.1 hx
     omega
    have ok:∀ (vs:List (List Int)),Vcs (len0 gs.flatten) vs -> ∀ x ∈ vs,okV (len0 gs.flatten) x = true:=fun vs hv x hx=>by
     have:=hv x hx
     exact okV_iff.2 ⟨this.1,by omega,by omega,this.2⟩
    rw [grp2]
    refine ⟨by intro e;rw [e] at na';simp at na',by intro e;rw [e] at nb';simp at nb',by rw [e2,e0],?_,?_⟩
    ·rw [e0];exact ok ja va'
    ·rw [e0];exact ok jb vb'
   unfold grpR
   rw [if_neg (by simp;omega),if_pos hok]
  ·rw [gapQ_perm pa pb (by rw [e0,e1])]
   rcases hE with h | h
   ·omega
   ·unfold stopS at h
    rw [Bool.and_eq_true,decide_eq_true_eq,decide_eq_true_eq] at h
    obtain ⟨a',b',q,hs,hab',hb',hq,hmin⟩:=scanS_some (G:=cG S) (n:=S.length) (by omega)
    have e:near S = some (a',b',q):=hs
    rw [e] at h
    have h3:=hmin a b hab hb
    have e4:cG S a b = gapQ S[a].2 S[b].2:=by unfold cG;rw [List.getElem?_eq_getElem ha,List.getElem?_eq_getElem hb];rfl
    rw [e4] at h3
    exact Rat.not_le.1 (fun hle=>absurd (Rat.le_trans h3 hle) (Rat.not_le.2 h.2))
end Ear
namespace Go.Proofs.YtcjicjfbippmnaaGreat
open Go.RowKit Ear

theorem fq_mk {a b:Int} (hb : 0 < b):fq (decide (a < 0) != decide (b < 0)) a.natAbs b.natAbs = (a:Rat) * ((b:Int):Rat)⁻¹:=by
 have hb0:¬ b < 0:=by omega
 rw [decide_eq_false hb0,Bool.bne_false,fq_d (by omega)]
 have e1:sg (decide (a < 0)) a.natAbs = a:=by
  unfold sg
  by_cases h:a < 0
  ·rw [decide_eq_true h];simp;omega
  ·rw [decide_eq_false h];simp;omega
 rw [e1,Rat.mkRat_eq_div,Rat.div_def]
 have e2:((b.natAbs:Nat):Int) = b:=by omega
 congr 2
 rw [<- e2];rfl
theorem sz_mk {a b:Int} (h1 : -9223372036854775808 <= a) (h2:a <= 9223372036854775807) (h3 : 0 < b) (h4:b <= 9223372036854775807):Sz ((a:Rat) * ((b:Int):Rat)⁻¹) 2:=by
 rw [<- fq_mk h3]
 exact Sz.fq (by omega) (nd_len_le (by simp;omega)) (nd_len_le (by simp;omega))
theorem gM_sz {va vb:List (List Int)} (ha:∀ x ∈ va,allR (-1048576) 1048576 x = true) (hb:∀ x ∈ vb,allR (-1048576) 1048576 x = true) (h1 : 0 < va.length) (h2:va.length <= 10000) (h3 : 0 < vb.length) (h4:vb.length <= 10000) (c:Nat):Sz (gM va vb c) 5:=by
 have b1:=colS_bd ha c va.length
 have b2:=colS_bd hb c vb.length
 unfold gM
 refine (Sz.add (k:=2) (l:=2) (sz_mk (by omega) (by omega) (by omega) (by omega)) ?_)
 exact (sz_mk (by omega) (by omega) (by omega) (by omega)).neg
theorem gR_sz {va vb:List (List Int)} (ha:∀ x ∈ va,allR (-1048576) 1048576 x = true) (hb:∀ x ∈ vb,allR (-1048576) 1048576 x = true) (h1 : 0 < va.length) (h2:va.length <= 10000) (h3 : 0 < vb.length) (h4:vb.length <= 10000) (c:Nat):Sz (gR va vb c) (2 + 11 * c):=by
 induction c with
 | zero=>exact Sz.i64 (by omega) (by omega)
 | succ c ih=>
  have hm:=gM_sz ha hb h1 h2 h3 h4 c
  refine (Sz.add ih (hm.mul hm)).mono ?_
  omega

end Go.Proofs.YtcjicjfbippmnaaGreat
