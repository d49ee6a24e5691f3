/- TopLearned -/
import Derived.Test.YtlgdlenoohkipaaGreatMTearn25
set_option maxRecDepth 100000
set_option maxHeartbeats 32000000
namespace Go.Proofs.YtlgdlenoohkipaaGreat
open Go.RowKit Ear

theorem ZT (q:Rat):Yu q < 0 ↔ q < 0:=by
 have h : 0 <= q.num ↔ 0 <= q:=Rat.num_nonneg;have h2:q.num < 0 ↔ q < 0:=by rw [<- Int.not_le,<- Rat.not_le];exact not_congr h
 rw [<- h2];unfold Yu;by_cases h3:q.num < 0
 ·rw [if_pos h3];exact ⟨fun _=>h3,fun _=>by decide⟩
 ·rw [if_neg h3];refine ⟨fun h4=>?_,fun h4=>absurd h4 h3⟩;split at h4 <;> omega
theorem Zk (q:Rat) : 0 < Yu q ↔ 0 < q:=by
 have h : 0 < q.num ↔ 0 < q:=by
  have h1 : 0 <= q.num ↔ 0 <= q:=Rat.num_nonneg;have h2:q.num = 0 ↔ q = 0:=Rat.num_eq_zero;constructor
  ·intro h;have:=h1.1 (by omega);rcases Rat.le_iff_lt_or_eq.1 this with h3 | h3
   ·exact h3
   ·exact absurd (h2.2 h3.symm) (by omega)
  ·intro h;have h3:=h1.2 (Rat.le_of_lt h);rcases Int.lt_or_eq_of_le h3 with h4 | h4
   ·exact h4
   ·exact absurd (h2.1 h4.symm) (fun e=>by rw [e] at h;exact absurd h (Rat.lt_irrefl))
 rw [<- h];unfold Yu;by_cases h3:q.num < 0
 ·rw [if_pos h3];exact ⟨fun h4=>by omega,fun h4=>by omega⟩
 ·rw [if_neg h3];by_cases h4:q.num = 0
  ·rw [if_pos h4];omega
  ·rw [if_neg h4];omega
def AllC (p:Value -> Prop) (w:World) (g:Nat):Prop:=∃ cs e,w.heap[g]? = some (.cells cs e (0,0)) /\ ∀ u ∈ cs,p u
section
variable {p:Value -> Prop} {w w':World} {g:Nat}
theorem AllC.block (h:AllC p w g) (hb:w'.heap[g]? = w.heap[g]?):AllC p w' g:=by
 obtain ⟨cs,e,h1,h2⟩:=h;exact ⟨cs,e,hb.trans h1,h2⟩
theorem AllC.cell (h:AllC p w g) {off:Nat} {v:Value} (hv:w.cell? ⟨g,off,none⟩ = some v):p v:=by
 obtain ⟨cs,e,h1,h2⟩:=h;rw [cell_of_row w g off cs e _ h1] at hv;exact h2 v (Array.mem_of_getElem? hv)
theorem AllC.set (h:AllC p w g) (j:Nat) {v:Value} (hv:p v):AllC p (w.setCell ⟨g,j,none⟩ v) g:=by
 obtain ⟨cs,e,h1,h2⟩:=h;refine ⟨_,e,JT h1 j v,fun u hu=>?_⟩;rcases Array.mem_or_eq_of_mem_setIfInBounds hu with h | h
 ·exact h2 u h
 ·rw [h];exact hv
theorem AllC.setCells:∀ (vs:List Value) (o:Nat) (w:World),AllC p w g -> (∀ u ∈ vs,p u) -> AllC p (w.setCells g o vs) g
 | [],_,_,h,_=>h
 | v :: r,o,_,h,hv=>AllC.setCells r (o + 1) _ (h.set o (hv v (List.mem_cons_self ..))) (fun u hu=>hv u (List.mem_cons_of_mem _ hu))
end
theorem ZdO {P:Program} {p:Value -> Prop} (w:World) (base:Nat) (t ty e:TypeId) (i:TypeInfo) (z:Value) (size bytes:Nat) (ht:P.underlying t = some (.slice e)) (hi:P.info? e = some i) (hz:i.zero = some z)
  (hsize:i.size = size) (hby:i.bytes = bytes) (hzs:z.cells.size = size) (hsz : 0 < size)
  (v:Value) (n:Nat) (xs:List Value) (hown:w.ownsRow base e size v n xs)
  (a:Addr) (m c:Nat) (news:List Value) (hl:news.length = m * size) (hnews:∀ j u,news[j]? = some u -> w.cell? (a.add j) = some u) (h1:∀ u ∈ news,u.oneCell' = true)
  (h63:n + m <= maxLen) (hbytes:(n + m) * bytes <= 140737488355328) (hm : 0 < m)
  (hp:∀ g,v.ownBlock = some g -> AllC p w g) (hzp:∀ u ∈ z.cells,p u) (hnp:∀ u ∈ news,p u) (hxp:∀ u ∈ xs,p u)
  {v':Value} {w':World} (hr:(Builtin.append_ #[t,t] ty #[v,.slice (some a) m c]).run P w = .ok v' w'):∀ g,v'.ownBlock = some g -> AllC p w' g:=by
 subst hsize;subst hby;have hsmall:n + m <= 9223372036854775807:=by simp only [maxLen] at h63;omega
 have zer:∀ k,∀ u ∈ Builtin.zeroCells z.cells k,p u:=fun k u hu=>by
  unfold Builtin.zeroCells at hu;obtain ⟨j,hj,rfl⟩:=Array.getElem_of_mem hu;simp only [Array.getElem_map,Array.getElem_range];have hlt:j % z.cells.size < z.cells.size:=Nat.mod_lt _ (by omega);rw [getElem!_pos z.cells _ hlt];exact hzp _ (Array.getElem_mem hlt)
 have news9:∀ (W:World) (k:Nat),∀ g,(Value.slice (some ⟨W.heap.size,0,none⟩) (n + m) k).ownBlock = some g -> AllC p (W.alloc (.cells (xs.toArray ++ news.toArray ++ Builtin.zeroCells z.cells (k - (n + m))) e)) g:=fun W k g hg=>by
  simp [Value.ownBlock] at hg;subst hg;refine ⟨_,_,heap_alloc_new W _,fun u hu=>?_⟩;simp only [Array.mem_append,List.mem_toArray] at hu;rcases hu with (hu | hu) | hu
  ·exact hxp u hu
  ·exact hnp u hu
  ·exact zer _ u hu
 rcases hown.2 with ⟨rfl,rfl⟩ | ⟨g,cap,cur,rfl,hbg,hg,hnc,hcm,hcs,htake⟩
 ·have hx:xs = []:=List.eq_nil_of_length_eq_zero (by simpa using hown.1);subst hx;have hr':=run_append_nil (P:=P) w t ty e i z ht hi hz a m c news hl hnews (by omega) (by omega) (by have hb:=hbytes;simp only [Nat.zero_add] at hb;omega);rw [hr] at hr';injection hr' with e1 e2
  subst e1 e2;have:=news9 w.drew (grownCap w m 0 e);simp only [Nat.zero_add,Array.empty_append] at this;exact this
 ·by_cases hroom:n + m <= cap
  ·have hfit:n * i.size + news.length <= cur.size:=by rw [hl,hcs,<- Nat.add_mul];exact Nat.mul_le_mul_right _ hroom
   have hr':=run_append_room_cells (P:=P) w t ty e i ht hi g 0 n cap a m c news hl hnews h1 hroom (fun j hj=>by
    rw [Nat.zero_add,cell_of_row w g _ cur e (0,0) hg,Array.getElem?_eq_getElem (by omega)];rfl) (fun j _=>by simp [World.frozen?,hg])
   rw [hr] at hr';injection hr' with e1 e2
   subst e1 e2;intro g' hg';simp [Value.ownBlock] at hg';subst hg';exact AllC.setCells _ _ _ (hp _ rfl) hnp
  ·have holds:∀ j u,xs[j]? = some u -> w.cell? ((⟨g,0,none⟩:Addr).add j) = some u:=hown.cells (g:=g) rfl;have hr':=run_append_grow (P:=P) w t ty e i z ht hi hz ⟨g,0,none⟩ n cap xs hown.1 holds a m c news hl hnews (by omega) (by omega) (growslice_fits (by omega) hbytes);rw [hr] at hr';injection hr' with e1 e2
   subst e1 e2;exact news9 w.drew (grownCap w (n + m) cap e)
end Go.Proofs.YtlgdlenoohkipaaGreat
namespace Ear
end Ear
namespace Go.Proofs.YtlgdlenoohkipaaGreat
open Go.RowKit Ear

def Za (v:Value):Prop:=∀ n,v ≠ .int .u32 n
def KU (w w':World):Prop:=∀ A l,Lies w A (ucs l) -> Lies w' A (ucs l)
theorem KU.trans {a b c:World} (h:KU a b) (k:KU b c):KU a c:=fun A l x=>k A l (h A l x)
theorem KU.below {w w':World} (hb:Below w.heap.size w w'):KU w w':=fun _ _ h=>h.below hb
theorem KU.set {w:World} {a:Addr} {v0:Value} (h0:w.cell? a = some v0) (hn:Za v0) (u:Value):KU w (w.setCell a u):=fun A l h hl=>by
 obtain ⟨b,off,e,hb,hc⟩:=h hl;refine ⟨b,off,e,by simpa [World.setCell] using hb,fun k x hx=>?_⟩;rw [World.cell?_setCell_other _ _ _ _ ?_]
 ·exact hc k x hx
 ·rintro rfl;rw [hc k x hx] at h0;injection h0 with h0
  subst h0;simp only [List.getElem?_map] at hx;cases hq:l[k]? with
  | none=>rw [hq] at hx;cases hx
  | some y=>rw [hq] at hx;injection hx with hx;exact hn y hx.symm
theorem KU.all {w w':World} {g:Nat} (ha:AllC Za w g) (hg:w.grownBy w' (some g)):KU w w':=fun A l h hl=>by
 obtain ⟨b,off,e,hb,hc⟩:=h hl;have hne:b ≠ g:=by
  rintro rfl;have hl' : 0 < l.length:=by simpa using hl
  have:=hc 0 (.int .u32 l[0]) (by simp [gE hl']);exact (ha.cell this) _ rfl
 exact ⟨b,off,e,Nat.lt_of_lt_of_le hb hg.size,fun k x hx=>(World.cell?_of_block (a:=⟨b,off + k,none⟩) (hg.block b hb (by intro e;injection e with e;exact hne e))).trans (hc k x hx)⟩
theorem Dg.ku {w w':World} {A:Option Addr} {c:Nat} {l:List Int} (h:Dg w A c l) (k:KU w w'):Dg w' A c l:=⟨k A l h.lies,h.dig,h.cap,h.nil⟩
theorem Fq.ku {w w':World} {x:Fr} {q:Rat} (h:Fq w x q) (k:KU w w'):Fq w' x q:=⟨⟨h.ok.n.ku k,h.ok.d.ku k⟩,h.neg,h.num,h.dn⟩
end Go.Proofs.YtlgdlenoohkipaaGreat
