/- TalkBetter -/
import Derived.WideKeyEntry
import Derived.WalkSpells
import Derived.WalkLawsBesides
import Derived.BigQuiet
import Derived.Deep.RegionHeld3
import Derived.Deep.DeepCutAuto
import Derived.StillTailTactics
import Derived.Lib.Hide
import Derived.Deep.Slices
import Derived.Deep.AppendLies
import Derived.Laws.CopyOwn
import Derived.Deep.DrawnRows
import Derived.Shelf.Abstract
import Derived.Test.YtcjicjfbippmnaaGreatRows
import Init.Data.Int.DivMod.Lemmas
set_option maxRecDepth 100000
set_option maxHeartbeats 32000000
namespace Go
open Go.ChangeMaps (setBlock heap_setBlock_same heap_setBlock_other)
open Go.Maps (Keyed)
open Go.RowKit
set_option linter.unusedSectionVars false

def JG {κ ν : Type} [DecidableEq κ]:List (κ × ν) -> κ -> Option ν
 | [],_=>none
 | p :: m,k=>if p.1 = k then some p.2 else JG m k
def Yd {κ ν : Type} [DecidableEq κ]:List (κ × ν) -> κ -> ν -> List (κ × ν)
 | [],k,v=>[(k,v)]
 | p :: m,k,v=>if p.1 = k then (k,v) :: m else p :: Yd m k v
section
variable {κ ν : Type} [DecidableEq κ]
theorem Xh {m:List (κ × ν)} {k : κ} {v : ν} (h:JG m k = some v):(k,v) ∈ m:=by
 induction m with
 | nil=>simp [JG] at h
 | cons p m ih=>
  unfold JG at h;split at h
  ·rename_i e;simp at h;subst h;subst e;exact List.mem_cons_self ..
  ·exact List.mem_cons_of_mem _ (ih h)
theorem XZ {m:List (κ × ν)} {k : κ}:JG m k = none ↔ ∀ p ∈ m,p.1 ≠ k:=by
 induction m with
 | nil=>simp [JG]
 | cons p m ih=>
  unfold JG;split
  ·rename_i e;simp [e]
  ·rename_i e;rw [ih];simp [e]
theorem JP (m:List (κ × ν)) (k : κ) (v : ν):JG (Yd m k v) k = some v:=by
 induction m with
 | nil=>simp [Yd,JG]
 | cons p m ih=>
  unfold Yd;split
  ·simp [JG]
  ·rename_i e;simp [JG,e,ih]
theorem JZ (m:List (κ × ν)) {k k' : κ} (v : ν) (hne:k' ≠ k):JG (Yd m k v) k' = JG m k':=by
 induction m with
 | nil=>simp [Yd,JG,Ne.symm hne]
 | cons p m ih=>
  unfold Yd;split
  ·rename_i e;simp [JG,e,Ne.symm hne]
  ·simp only [JG,ih]
theorem ZT (m:List (κ × ν)) (k : κ) (v : ν):(Yd m k v).length <= m.length + 1:=by
 induction m with
 | nil=>simp [Yd]
 | cons p m ih=>unfold Yd;split <;> simp;omega
theorem Yi {m:List (κ × ν)} {k : κ} {v : ν} {p : κ × ν} (h:p ∈ Yd m k v):p = (k,v) ∨ p ∈ m:=by
 induction m with
 | nil=>simp [Yd] at h;exact .inl h
 | cons q m ih=>
  unfold Yd at h;split at h
  ·rcases List.mem_cons.1 h with h | h
   ·exact .inl h
   ·exact .inr (List.mem_cons_of_mem _ h)
  ·rcases List.mem_cons.1 h with h | h
   ·exact .inr (h ▸ List.mem_cons_self ..)
   ·rcases ih h with h | h
    ·exact .inl h
    ·exact .inr (List.mem_cons_of_mem _ h)
theorem Ux {m:List (κ × ν)} {k : κ} (v : ν) (h:JG m k = none):Yd m k v = m ++ [(k,v)]:=by
 induction m with
 | nil=>rfl
 | cons p m ih=>
  unfold JG at h;split at h
  ·cases h
  ·rename_i e;simp [Yd,e,ih h]
theorem Ze0 {m:List (κ × ν)} {k : κ} (v : ν):(Yd m k v).map (·.1) = if (JG m k).isSome then m.map (·.1) else m.map (·.1) ++ [k]:=by
 induction m with
 | nil=>rfl
 | cons p m ih=>
  unfold Yd JG;split
  ·rename_i e;simp [e]
  ·simp only [List.map_cons,ih];split <;> rfl
theorem Zar {m:List (κ × ν)} {j:Nat} {k : κ} {x : ν} (v : ν) (hn:(m.map (·.1)).Nodup) (h:m[j]? = some (k,x)):Yd m k v = m.set j (k,v) /\ JG m k = some x:=by
 induction m generalizing j with
 | nil=>simp at h
 | cons p m ih=>
  cases j with
  | zero=>simp at h;subst h;simp [Yd,JG]
  | succ j=>
   simp only [List.map_cons,List.nodup_cons] at hn;simp only [List.getElem?_cons_succ] at h;have hne:p.1 ≠ k:=fun e=>hn.1 (List.mem_map.2 ⟨(k,x),List.mem_of_getElem? h,e.symm⟩);obtain ⟨h1,h2⟩:=ih hn.2 h;simp [Yd,JG,hne,h1,h2]
end
section
variable {κ ν : Type} [DecidableEq κ] {P:Program} {K:TypeId} {ek : κ -> Value} {ev : ν -> Value} {w:World} {b:Nat} {m:List (κ × ν)}

structure MapIs (P:Program) (K:TypeId) (ek : κ -> Value) (ev : ν -> Value) (w:World) (b:Nat) (m:List (κ × ν)):Prop where
 block:∃ es clock,w.heap[b]? = some (.map es clock) /\ MapKept.Stamped es clock /\ es.toList.map (fun e=>(e.key,e.val)) = m.map (fun p=>(ek p.1,ev p.2))
 keys:∀ p ∈ m,∃ l,keyOf P K (ek p.1) = some l
def Inj (ek : κ -> Value):Prop:=∀ a b,ek a = ek b -> a = b
theorem MapIs.lt (h:MapIs P K ek ev w b m):b < w.heap.size:=by
 obtain ⟨es,c,hb,_⟩:=h.block;exact (Array.getElem?_eq_some_iff.1 hb).1
theorem MapIs.same {w':World} (h:MapIs P K ek ev w b m) (hb:w'.heap[b]? = w.heap[b]?):MapIs P K ek ev w' b m:=by
 obtain ⟨es,c,h1,h2⟩:=h.block;exact ⟨⟨es,c,hb.trans h1,h2⟩,h.keys⟩
theorem MapIs.below {w':World} (h:MapIs P K ek ev w b m) (hb:Below w.heap.size w w'):MapIs P K ek ev w' b m:=h.same (hb.block b h.lt)
theorem MapIs.grown {w':World} {row:Option Nat} (h:MapIs P K ek ev w b m) (hg:w.grownBy w' row) (hne:row ≠ some b):MapIs P K ek ev w' b m:=h.same (hg.block b h.lt (fun e=>hne e.symm))
theorem MapIs.made (P:Program) (K:TypeId) (ek : κ -> Value) (ev : ν -> Value) (w:World):MapIs P K ek ev (w.alloc (.map #[] 0)) w.heap.size []:=
 ⟨⟨#[],0,(MapKept.heap_alloc w _).1,MapKept.stamped_empty 0,rfl⟩,by simp⟩
theorem Yx {es:Array MapEntry} (hm:es.toList.map (fun e=>(e.key,e.val)) = m.map (fun p=>(ek p.1,ev p.2))) {j:Nat} {e0:MapEntry} (h:es.toList[j]? = some e0):∃ p,m[j]? = some p /\ e0.key = ek p.1 /\ e0.val = ev p.2:=by
 have:=congrArg (fun l=>l[j]?) hm;simp only [List.getElem?_map,h,Option.map_some] at this;cases hp:m[j]? with
 | none=>rw [hp] at this;simp at this
 | some p=>rw [hp] at this;simp at this;exact ⟨p,rfl,this.1,this.2⟩
theorem MapIs.nodup (h:MapIs P K ek ev w b m):(m.map (·.1)).Nodup:=by
 obtain ⟨es,c,h1,h2,h3⟩:=h.block;have hk:es.toList.map (·.key) = m.map (fun p=>ek p.1):=by
  have:=congrArg (List.map Prod.fst) h3;simpa [List.map_map,Function.comp_def] using this
 have hn:=h2.2.2;rw [hk] at hn;rw [List.Nodup,List.pairwise_map] at hn ⊢;exact hn.imp fun hne e=>hne (by rw [e])
theorem MapIs.size (h:MapIs P K ek ev w b m):∃ es clock,w.heap[b]? = some (.map es clock) /\ es.size = m.length:=by
 obtain ⟨es,c,h1,h2,h3⟩:=h.block;refine ⟨es,c,h1,?_⟩;have:=congrArg List.length h3;simpa using this
theorem Zt (hk:∀ p ∈ m,∃ l,keyOf P K (ek p.1) = some l) {es:Array MapEntry} (hm:es.toList.map (fun e=>(e.key,e.val)) = m.map (fun p=>(ek p.1,ev p.2))):∀ e ∈ es.toList,∃ l,keyOf P K e.key = some l:=fun e he=>by
 obtain ⟨j,hj⟩:=List.mem_iff_getElem?.1 he;obtain ⟨p,hp,h1,_⟩:=Yx hm hj;rw [h1];exact hk p (List.mem_of_getElem? hp)
theorem MapIs.lookup {t e:TypeId} (h:MapIs P K ek ev w b m) (KY:Keyed P K) (inj:Inj ek) (ht:P.underlying t = some (.map K e)) {z:Value} (hz:(zeroValue e).run P w = .ok z w) (key : κ) {l:Lit} (hk:keyOf P K (ek key) = some l) :
  (Instr.lookup t (.map (some b)) (ek key) false).run P w = .ok (((JG m key).map ev).getD z) w:=by
 obtain ⟨es,c,h1,h2,h3⟩:=h.block;rcases KY.find w hk es.toList (Zt h.keys h3) with ⟨f1,f2⟩ | ⟨j,e0,f1,f2,f3⟩
 ·have hn:JG m key = none:=XZ.2 fun p hp e=>by
   obtain ⟨j,hj⟩:=List.mem_iff_getElem?.1 hp;have:=congrArg (fun l=>l[j]?) h3;simp only [List.getElem?_map,hj,Option.map_some] at this;cases he:es.toList[j]? with
   | none=>rw [he] at this;simp at this
   | some x=>rw [he] at this;simp at this;exact f2 x (List.mem_of_getElem? he) (by rw [this.1,e])
  rw [hn];simp [Instr.lookup,run_underlying ht,MapKept.run_getObj_map h1,KY.check w _ hk,f1,hz,Result.andThen]
 ·obtain ⟨p,hp,q1,q2⟩:=Yx h3 f2;have ep:p.1 = key:=inj _ _ (q1.symm.trans f3);have hg:=(Zar p.2 h.nodup (show m[j]? = some (key,p.2) by rw [hp,<- ep])).2;rw [hg];simp [Instr.lookup,run_underlying ht,MapKept.run_getObj_map h1,KY.check w _ hk,f1,q2,Result.andThen]
theorem Zan {es:Array MapEntry} {key : κ} {val : ν} {clock:Nat} (hm:es.toList.map (fun e=>(e.key,e.val)) = m.map (fun p=>(ek p.1,ev p.2))) (hn:JG m key = none) :
  (es.push ⟨ek key,ev val,clock⟩).toList.map (fun e=>(e.key,e.val)) = (Yd m key val).map (fun p=>(ek p.1,ev p.2)):=by
 rw [Ux val hn];simp [hm]
theorem QL {es:Array MapEntry} {key : κ} {val : ν} {j:Nat} {e0:MapEntry} {x : ν} (hm:es.toList.map (fun e=>(e.key,e.val)) = m.map (fun p=>(ek p.1,ev p.2))) (hj:es.toList[j]? = some e0) (hp:m[j]? = some (key,x)) (hnd:(m.map (·.1)).Nodup) (f:MapEntry -> MapEntry) (hf1:(f e0).key = ek key) (hf2:(f e0).val = ev val) :
  (es.modify j f).toList.map (fun e=>(e.key,e.val)) = (Yd m key val).map (fun p=>(ek p.1,ev p.2)):=by
 rw [(Zar val hnd hp).1,Array.toList_modify,ChangeMaps.modify_eq_set _ _ _ _ hj,List.map_set,List.map_set,hm,hf1,hf2]
theorem Vu {key : κ} {val : ν} (hk:∀ p ∈ m,∃ l,keyOf P K (ek p.1) = some l) {l:Lit} (hkey:keyOf P K (ek key) = some l):∀ p ∈ Yd m key val,∃ l,keyOf P K (ek p.1) = some l:=fun p hp=>by
 rcases Yi hp with rfl | h
 ·exact ⟨l,hkey⟩
 ·exact hk p h
theorem JK {es es':Array MapEntry} {c c':Nat} (hb:w.heap[b]? = some (.map es c)):w.grownBy (setBlock w b (.map es' c')) (some b):=
 ⟨rfl,rfl,rfl,by simp [setBlock],fun i _ hi=>heap_setBlock_other hb _ (fun e=>hi (by rw [e]))⟩
theorem MapIs.update {t e:TypeId} (h:MapIs P K ek ev w b m) (KY:Keyed P K) (inj:Inj ek) (ht:P.underlying t = some (.map K e)) (key : κ) (val : ν) {l:Lit} (hk:keyOf P K (ek key) = some l) :
  ∃ w',(Instr.mapUpdate t (.map (some b)) (ek key) (ev val)).run P w = .ok () w' /\ MapIs P K ek ev w' b (Yd m key val) /\ w.grownBy w' (some b):=by
 obtain ⟨es,c,h1,h2,h3⟩:=h.block;rcases KY.find w hk es.toList (Zt h.keys h3) with ⟨f1,f2⟩ | ⟨j,e0,f1,f2,f3⟩
 ·have hn:JG m key = none:=XZ.2 fun p hp e=>by
   obtain ⟨j,hj⟩:=List.mem_iff_getElem?.1 hp;have:=congrArg (fun l=>l[j]?) h3;simp only [List.getElem?_map,hj,Option.map_some] at this;cases he:es.toList[j]? with
   | none=>rw [he] at this;simp at this
   | some x=>rw [he] at this;simp at this;exact f2 x (List.mem_of_getElem? he) (by rw [this.1,e])
  refine ⟨setBlock w b (.map (es.push ⟨ek key,ev val,c⟩) (c + 1)),by simp [Instr.mapUpdate,run_underlying ht,MapKept.run_getObj_map h1,KY.check w false hk,f1,MapKept.run_setObj_map _ h1,Result.andThen,setBlock],⟨⟨_,_,heap_setBlock_same h1 _,MapKept.stamped_push h2 f2,Zan h3 hn⟩,Vu h.keys hk⟩,JK h1⟩
 ·obtain ⟨p,hp,q1,q2⟩:=Yx h3 f2;have ep:p.1 = key:=inj _ _ (q1.symm.trans f3);have hp':m[j]? = some (key,p.2):=by rw [hp,<- ep]
  have hj:es[j]? = some e0:=by simpa using f2
  refine ⟨setBlock w b (.map (es.modify j fun e=>{ e with key:=ek key,val:=ev val }) c),by simp [Instr.mapUpdate,run_underlying ht,MapKept.run_getObj_map h1,KY.check w false hk,f1,hj,f3,KY.stays w hk,MapKept.run_setObj_map _ h1,Result.andThen,setBlock],⟨⟨_,_,heap_setBlock_same h1 _,MapKept.stamped_modify h2 j _ (fun _ _=>rfl) (fun x _ hx=>by rw [hj] at hx;cases hx;exact f3.symm),QL h3 f2 hp' h.nodup _ rfl rfl⟩,Vu h.keys hk⟩,JK h1⟩
end
end Go
namespace Go
open Go.ChangeMaps (setBlock heap_setBlock_same heap_setBlock_other)
open Go.Maps (Keyed)
open Go.RowKit
set_option linter.unusedSectionVars false
section
variable {κ ν : Type} [DecidableEq κ] {P:Program} {K:TypeId} {ek : κ -> Value} {ev : ν -> Value} {w:World} {b r:Nat} {m:List (κ × ν)} {idx:List Nat}

structure MapIt (P:Program) (K:TypeId) (ek : κ -> Value) (ev : ν -> Value) (w:World) (b r:Nat) (m:List (κ × ν)) (idx:List Nat):Prop where
 st:∃ es clock since seen c0,w.heap[b]? = some (.map es clock) /\ MapKept.Stamped es clock /\ es.toList.map (fun e=>(e.key,e.val)) = m.map (fun p=>(ek p.1,ev p.2)) /\
  w.heap[r]? = some (.mapIter (some b) since seen c0) /\ (∀ x ∈ es.toList,x.born < since) /\ since <= c0 /\ since <= clock /\ seen.toList.map some = idx.map (fun i=>es.toList[i]?.map (·.born))
 nodup:idx.Nodup
 lt:∀ i ∈ idx,i < m.length
 keys:∀ p ∈ m,∃ l,keyOf P K (ek p.1) = some l
def ZU (w:World) (b r:Nat):Nat:=match w.heap[b]?,w.heap[r]? with
 | some (.map es _),some (.mapIter _ _ seen _)=>es.size - seen.size
 | _,_=>0
def ZO {α:Type} (m:List α) (d : α) (idx:List Nat):List α:=idx.map fun i=>m[i]?.getD d
theorem MapIt.left_eq (h:MapIt P K ek ev w b r m idx):ZU w b r = m.length - idx.length:=by
 obtain ⟨es,c,s,seen,c0,h1,h2,h3,h4,h5,h6,hc,h7⟩:=h.st;unfold ZU;rw [h1,h4];have e1:=congrArg List.length h3;have e2:=congrArg List.length h7;simp at e1 e2;simp only;omega
theorem Vm:∀ (n:Nat) (l:List Nat),l.Nodup -> (∀ i ∈ l,i < n) -> l.length <= n
 | 0,l,_,h=>by
  cases l with
  | nil=>simp
  | cons x l=>exact absurd (h x (List.mem_cons_self ..)) (Nat.not_lt_zero _)
 | n + 1,l,hn,h=>by
  by_cases hm:n ∈ l
  ·have h1:=Vm n (l.erase n) (hn.erase n) (fun i hi=>by
    have h2:=h i (List.mem_of_mem_erase hi);have h3:i ≠ n:=fun e=>by subst e;exact (List.Nodup.not_mem_erase hn) hi
    omega)
   rw [List.length_erase_of_mem hm] at h1;omega
  ·have h1:=Vm n l hn (fun i hi=>by
    have h2:=h i hi;have h3:i ≠ n:=fun e=>hm (e ▸ hi);omega)
   omega
theorem MapIt.len_le (h:MapIt P K ek ev w b r m idx):idx.length <= m.length:=Vm _ _ h.nodup h.lt
theorem MapIt.ltb (h:MapIt P K ek ev w b r m idx):b < w.heap.size /\ r < w.heap.size:=by
 obtain ⟨es,c,s,seen,c0,h1,h2,h3,h4,_⟩:=h.st;exact ⟨(Array.getElem?_eq_some_iff.1 h1).1,(Array.getElem?_eq_some_iff.1 h4).1⟩
theorem MapIt.same {w':World} (h:MapIt P K ek ev w b r m idx) (hb:w'.heap[b]? = w.heap[b]?) (hr:w'.heap[r]? = w.heap[r]?):MapIt P K ek ev w' b r m idx:=by
 obtain ⟨es,c,s,seen,c0,h1,h2,h3,h4,h5⟩:=h.st;exact ⟨⟨es,c,s,seen,c0,hb.trans h1,h2,h3,hr.trans h4,h5⟩,h.nodup,h.lt,h.keys⟩
theorem MapIt.below {w':World} (h:MapIt P K ek ev w b r m idx) (hb:Below w.heap.size w w'):MapIt P K ek ev w' b r m idx:=h.same (hb.block b h.ltb.1) (hb.block r h.ltb.2)
theorem MapIs.range {t e:TypeId} (h:MapIs P K ek ev w b m) (ht:P.underlying t = some (.map K e)) :
  ∃ o,(Instr.range t (.map (some b))).run P w = .ok (.pointer (some ⟨w.heap.size,0,none⟩)) (w.alloc o) /\ MapIt P K ek ev (w.alloc o) b w.heap.size m []:=by
 obtain ⟨es,c,h1,h2,h3⟩:=h.block;have hlt:=h.lt;refine ⟨_,run_range_map w t K e b es c ht h1,⟨es,c,c,#[],c,?_,h2,h3,?_,h2.1,Nat.le_refl _,Nat.le_refl _,rfl⟩,by simp,by simp,h.keys⟩
 ·rw [(MapKept.heap_alloc w _).2 b hlt];exact h1
 ·exact (MapKept.heap_alloc w _).1
theorem Zg5 {n:Nat} {idx:List Nat} (hn:idx.Nodup) (hl:∀ i ∈ idx,i < n) (ha:∀ i,i < n -> i ∈ idx):idx.Perm (List.range n):=by
 rw [List.perm_ext_iff_of_nodup hn List.nodup_range];exact fun i=>⟨fun h=>List.mem_range.2 (hl i h),fun h=>ha i (List.mem_range.1 h)⟩
theorem Zfw {α:Type} {m:List α} {d : α} {idx:List Nat} (h:idx.Perm (List.range m.length)):(ZO m d idx).Perm m:=by
 refine (h.map _).trans ?_;have e:(List.range m.length).map (fun i=>m[i]?.getD d) = m:=by
  apply List.ext_getElem (by simp);intro i h1 h2;simp [List.getElem?_eq_getElem h2]
 rw [e]
theorem MapIt.next (h:MapIt P K ek ev w b r m idx) (d : κ × ν) (ty:TypeId) :
  ((ZO m d idx).Perm m /\ (Instr.next (.pointer (some ⟨r,0,none⟩)) false ty).run P w = .ok (.tuple #[.bool false]) w) ∨
  ∃ i w',i < m.length /\ i ∉ idx /\ (Instr.next (.pointer (some ⟨r,0,none⟩)) false ty).run P w = .ok (.tuple #[.bool true,ek (m[i]?.getD d).1,ev (m[i]?.getD d).2]) w' /\ MapIt P K ek ev w' b r m (idx ++ [i]) /\
   (Instr.entry (.pointer (some ⟨r,0,none⟩))).run P w' = .ok (.tuple #[ek (m[i]?.getD d).1,ev (m[i]?.getD d).2]) w' /\ w.grownBy w' (some r) /\ w'.heap.size = w.heap.size:=by
 obtain ⟨es,c,s,seen,c0,h1,h2,h3,h4,h5,h6,hc,h7⟩:=h.st;have hsz:es.toList.length = m.length:=by have:=congrArg List.length h3;simpa using this
 have hseen:∀ x,x ∈ seen.toList -> ∃ i ∈ idx,es.toList[i]?.map (·.born) = some x:=fun x hx=>by
  have:some x ∈ idx.map (fun i=>es.toList[i]?.map (·.born)):=by rw [<- h7];exact List.mem_map_of_mem hx
  obtain ⟨i,hi,e⟩:=List.mem_map.1 this;exact ⟨i,hi,e⟩
 have hnb:∀ (i j:Nat) (x:Nat),es.toList[i]?.map (fun e:MapEntry=>e.born) = some x -> es.toList[j]?.map (fun e:MapEntry=>e.born) = some x -> i = j:=fun i j x hi hj=>by
  have hn:=h2.2.1;rw [<- List.getElem?_map] at hi hj;obtain ⟨l1,e1⟩:=List.getElem?_eq_some_iff.1 hi;obtain ⟨l2,e2⟩:=List.getElem?_eq_some_iff.1 hj;rw [List.Nodup,List.pairwise_iff_getElem] at hn;rcases Nat.lt_trichotomy i j with h | h | h
  ·exact absurd (e1.trans e2.symm) (hn i j l1 l2 h)
  ·exact h
  ·exact absurd (e2.trans e1.symm) (hn j i l2 l1 h)
 have hbr:b ≠ r:=fun e=>by rw [e,h4] at h1;cases h1
 rcases run_next_at w ty r b s c0 seen es c h4 h1 h5 h6 with ⟨f1,f2⟩ | ⟨e0,f1,w1,f2,f3⟩
 ·refine .inl ⟨Zfw (Zg5 h.nodup h.lt fun i hi=>?_),f2⟩;have hi':i < es.toList.length:=by omega
  have hin:seen.contains es.toList[i].born = true:=by
   apply Decidable.byContradiction;intro hne;have hm:es.toList[i] ∈ (leftOf es seen).toList:=by
    unfold leftOf;rw [Array.toList_filter,List.mem_filter];exact ⟨List.getElem_mem hi',by simpa using hne⟩
   have:(leftOf es seen).toList = []:=by
    apply List.eq_nil_of_length_eq_zero;simpa using f1
   rw [this] at hm;cases hm
  have hmem:es.toList[i].born ∈ seen.toList:=by
   simpa using hin
  obtain ⟨j,hj,ej⟩:=hseen _ hmem;have:=hnb i j _ (by rw [List.getElem?_eq_getElem hi'];rfl) ej;rw [this];exact hj
 ·unfold leftOf at f1;rw [Array.toList_filter,List.mem_filter] at f1;obtain ⟨g1,g2⟩:=f1;obtain ⟨i,hi⟩:=List.mem_iff_getElem?.1 g1;obtain ⟨p,hp,q1,q2⟩:=Yx h3 hi;have hlt:i < m.length:=(List.getElem?_eq_some_iff.1 hp).1;have hr1:w1.heap[r]? = some (.mapIter (some b) s seen c0):=by rcases f2 with rfl | rfl <;> exact h4
  have hb1:w1.heap[b]? = some (.map es c):=by rcases f2 with rfl | rfl <;> exact h1
  have hni:i ∉ idx:=fun hin=>by
   have:some e0.born ∈ seen.toList.map some:=(by rw [h7];exact List.mem_map.2 ⟨i,hin,by rw [hi];rfl⟩);obtain ⟨x,hx,e⟩:=List.mem_map.1 this;cases e;have hc:seen.contains e0.born = true:=(by simpa using hx);rw [hc] at g2;simp at g2
  have hrs:r < w1.heap.size:=(Array.getElem?_eq_some_iff.1 hr1).1;have hr2:(setBlock w1 r (.mapIter (some b) s (seen.push e0.born) c)).heap[r]? = some (.mapIter (some b) s (seen.push e0.born) c):=by simp [setBlock,hrs]
  have hb2:(setBlock w1 r (.mapIter (some b) s (seen.push e0.born) c)).heap[b]? = some (.map es c):=by
   have:(setBlock w1 r (.mapIter (some b) s (seen.push e0.born) c)).heap[b]? = w1.heap[b]?:=(by simp [setBlock,Ne.symm hbr]);rw [this];exact hb1
  have hgb:w.grownBy (setBlock w1 r (.mapIter (some b) s (seen.push e0.born) c)) (some r):=by
   rcases f2 with rfl | rfl
   ·exact ⟨rfl,rfl,rfl,by simp [setBlock],fun k _ hk=>by have:k ≠ r:=fun e=>hk (by rw [e]);simp [setBlock,Ne.symm this]⟩
   ·exact ⟨rfl,rfl,rfl,by simp [setBlock],fun k _ hk=>by have:k ≠ r:=fun e=>hk (by rw [e]);simp [setBlock,Ne.symm this];rfl⟩
  have hsw:(setBlock w1 r (.mapIter (some b) s (seen.push e0.born) c)).heap.size = w.heap.size:=by rcases f2 with rfl | rfl <;> simp [setBlock]
  refine .inr ⟨i,_,hlt,hni,?_,⟨⟨es,c,s,seen.push e0.born,c,hb2,h2,h3,hr2,h5,hc,hc,?_⟩,?_,?_,h.keys⟩,?_,hgb,hsw⟩
  ·rw [f3,hp,q1,q2];rfl
  ·rw [Array.toList_push,List.map_append,List.map_append,h7];refine congrArg _ ?_;show [some e0.born] = [Option.map (fun e:MapEntry=>e.born) es.toList[i]?];rw [hi];rfl
  ·exact List.nodup_append.2 ⟨h.nodup,by simp,fun a ha c hc=>by rw [List.mem_singleton] at hc;subst hc;exact fun e=>hni (e ▸ ha)⟩
  ·intro j hj;rcases List.mem_append.1 hj with hj | hj
   ·exact h.lt j hj
   ·rw [List.mem_singleton] at hj;subst hj;exact hlt
  ·have:=run_entry_at (P:=P) _ r b s seen es c e0 hr2 hb2 g1 h2.2.1;rw [this,hp,q1,q2];rfl
end
end Go
namespace Go
open Go.ChangeMaps (setBlock heap_setBlock_same heap_setBlock_other)
open Go.Maps (Keyed)
open Go.RowKit
set_option linter.unusedSectionVars false
section
variable {κ ν : Type} [DecidableEq κ] {P:Program} {K:TypeId} {ek : κ -> Value} {ev : ν -> Value} {w:World} {b:Nat} {m:List (κ × ν)}
theorem Zc {t e:TypeId} (KY:Keyed P K) (ht:P.underlying t = some (.map K e)) {u:World} {es:Array MapEntry} {clock:Nat} (hb:u.heap[b]? = some (.map es clock)) (hs:MapKept.Stamped es clock) {j:Nat} {e0:MapEntry} (hj:es.toList[j]? = some e0) {l:Lit} (hk:keyOf P K e0.key = some l) (hkeys:∀ e ∈ es.toList,∃ l,keyOf P K e.key = some l) :
  (Instr.mapEntry t (.map (some b)) e0.key).run P u = .ok (.tuple #[e0.val,goInt e0.born]) (setBlock u b (.map es clock)) /\
  ∀ v,(Instr.entryStore t (.map (some b)) (goInt e0.born) v).run P u = .ok () (setBlock u b (.map (es.modify j fun x=>{ x with val:=v }) clock)):=by
 have hn:=hs.2.2;rcases KY.find u hk es.toList hkeys with ⟨f1,f2⟩ | ⟨j',e1,f1,f2,f3⟩
 ·exact absurd rfl (f2 e0 (List.mem_of_getElem? hj))
 ·have hjj:j' = j:=by
   rw [List.Nodup,List.pairwise_map,List.pairwise_iff_getElem] at hn;obtain ⟨l1,e1'⟩:=List.getElem?_eq_some_iff.1 hj;obtain ⟨l2,e2'⟩:=List.getElem?_eq_some_iff.1 f2;rcases Nat.lt_trichotomy j' j with h | h | h
   ·exact absurd (by rw [e1',e2',f3]) (hn j' j l2 l1 h)
   ·exact h
   ·exact absurd (by rw [e1',e2',f3]) (hn j j' l1 l2 h)
  subst hjj;rw [hj] at f2;cases f2;have hj2:es[j']? = some e0:=by simpa using hj
  have sm:es.modify j' (fun e=>{ e with key:=e0.key }) = es:=by
   apply Array.ext';rw [Array.toList_modify,ChangeMaps.modify_eq_set _ _ _ _ hj];exact WideElems.set_self _ _ _ hj
  refine ⟨by simp [Instr.mapEntry,run_underlying ht,MapKept.run_getObj_map hb,KY.check u false hk,f1,hj2,KY.stays u hk,sm,MapKept.run_setObj_map _ hb,Result.andThen,setBlock],fun v=>?_⟩;have hidx:es.findIdx? (fun e=>((e.born:Nat):Int) == ((e0.born:Nat):Int)) = some j':=by
   rw [WideElems.findIdx_arr];exact WideElems.findIdx_born hs.2.1 hj
  simp [Instr.entryStore,MapKept.run_getObj_map hb,asInt,asIntOf,goInt,hidx,MapKept.run_setObj_map _ hb,Result.andThen,setBlock]
theorem MapIs.entry2 {t e:TypeId} (h:MapIs P K ek ev w b m) (KY:Keyed P K) (inj:Inj ek) (ht:P.underlying t = some (.map K e)) {z : ν} (hz:∀ u,(zeroValue e).run P u = .ok (ev z) u) (key : κ) {l:Lit} (hk:keyOf P K (ek key) = some l) :
  ∃ (st:Nat) (o1:Obj),(∃ es c,o1 = .map es c) /\ (∀ u:World,(u.heap[b]? = w.heap[b]? ∨ u.heap[b]? = some o1) -> (Instr.lookup t (.map (some b)) (ek key) false).run P u = .ok (ev ((JG m key).getD z)) u /\
    (Instr.mapEntry t (.map (some b)) (ek key)).run P u = .ok (.tuple #[ev ((JG m key).getD z),goInt st]) (setBlock u b o1)) /\
   ∀ (u:World) (val : ν),u.heap[b]? = some o1 -> ∃ o2,(∃ es c,o2 = .map es c) /\ (Instr.entryStore t (.map (some b)) (goInt st) (ev val)).run P u = .ok () (setBlock u b o2) /\ ∀ u':World,u'.heap[b]? = some o2 -> MapIs P K ek ev u' b (Yd m key val):=by
 have look:∀ (u:World) (m':List (κ × ν)),MapIs P K ek ev u b m' -> (Instr.lookup t (.map (some b)) (ek key) false).run P u = .ok (ev ((JG m' key).getD z)) u:=fun u m' hu=>by
  have:=hu.lookup KY inj ht (hz u) key hk;rw [this];cases JG m' key <;> rfl
 obtain ⟨es,clock,h1,h2,h3⟩:=h.block;rcases KY.find w hk es.toList (Zt h.keys h3) with ⟨f1,f2⟩ | ⟨j,e0,f1,f2,f3⟩
 ·have hn:JG m key = none:=XZ.2 fun p hp e=>by
   obtain ⟨j,hj⟩:=List.mem_iff_getElem?.1 hp;have:=congrArg (fun l=>l[j]?) h3;simp only [List.getElem?_map,hj,Option.map_some] at this;cases he:es.toList[j]? with
   | none=>rw [he] at this;simp at this
   | some x=>rw [he] at this;simp at this;exact f2 x (List.mem_of_getElem? he) (by rw [this.1,e])
  have hst1:=MapKept.stamped_push (val:=ev z) h2 f2;have hp1:=Zan (ek:=ek) (ev:=ev) (key:=key) (val:=z) (clock:=clock) h3 hn;have hks1:∀ p ∈ Yd m key z,∃ l,keyOf P K (ek p.1) = some l:=Vu h.keys hk;have hlast:(es.push ⟨ek key,ev z,clock⟩).toList[es.toList.length]? = some ⟨ek key,ev z,clock⟩:=by simp
  refine ⟨clock,.map (es.push ⟨ek key,ev z,clock⟩) (clock + 1),⟨_,_,rfl⟩,fun u hu=>?_,fun u val hu=>?_⟩
  ·rcases hu with hu | hu
   ·refine ⟨look u m (h.same hu),?_⟩;rw [hn];have hb:=hu.trans h1;rcases KY.find u hk es.toList (Zt h.keys h3) with ⟨g1,_⟩ | ⟨j,e0,_,g2,g3⟩
    ·simp [Instr.mapEntry,run_underlying ht,MapKept.run_getObj_map hb,KY.check u false hk,g1,hz,MapKept.run_setObj_map _ hb,Result.andThen,setBlock]
    ·exact absurd g3 (f2 e0 (List.mem_of_getElem? g2))
   ·have hm1:MapIs P K ek ev u b (Yd m key z):=⟨⟨_,_,hu,hst1,hp1⟩,hks1⟩;refine ⟨?_,?_⟩
    ·rw [look u _ hm1,JP,hn];rfl
    ·rw [hn];exact (Zc KY ht hu hst1 hlast hk (Zt hks1 hp1)).1
  ·refine ⟨_,⟨_,_,rfl⟩,(Zc KY ht hu hst1 hlast hk (Zt hks1 hp1)).2 (ev val),fun u' hu'=>⟨⟨_,_,hu',?_,?_⟩,Vu h.keys hk⟩⟩
   ·exact MapKept.stamped_modify hst1 _ _ (fun _ _=>rfl) (fun _ _ _=>rfl)
   ·have e:(es.push ⟨ek key,ev z,clock⟩).modify es.toList.length (fun e=>{ e with val:=ev val }) = es.push ⟨ek key,ev val,clock⟩:=by
     apply Array.ext';rw [Array.toList_modify,Array.toList_push,Array.toList_push,WideElems.modify_last]
    rw [e];exact Zan h3 hn
 ·obtain ⟨p,hp,q1,q2⟩:=Yx h3 f2;have ep:p.1 = key:=inj _ _ (q1.symm.trans f3);have hp':m[j]? = some (key,p.2):=by rw [hp,<- ep]
  have hg:=(Zar p.2 h.nodup hp').2;have hfk:keyOf P K e0.key = some l:=by rw [f3];exact hk
  have hold:∀ u:World,(u.heap[b]? = w.heap[b]? ∨ u.heap[b]? = some (.map es clock)) -> u.heap[b]? = w.heap[b]?:=fun u hu=>by
   rcases hu with hu | hu
   ·exact hu
   ·rw [hu,h1]
  refine ⟨e0.born,.map es clock,⟨_,_,rfl⟩,fun u hu=>?_,fun u val hu=>?_⟩
  ·have hu':=hold u hu;refine ⟨look u m (h.same hu'),?_⟩;have:=(Zc KY ht (hu'.trans h1) h2 f2 hfk (Zt h.keys h3)).1;rw [f3,q2] at this;rw [this,hg];rfl
  ·have:=(Zc KY ht hu h2 f2 hfk (Zt h.keys h3)).2 (ev val);refine ⟨_,⟨_,_,rfl⟩,this,fun u' hu'=>⟨⟨_,_,hu',MapKept.stamped_modify h2 j _ (fun _ _=>rfl) (fun _ _ _=>rfl),QL h3 f2 hp' h.nodup _ f3 rfl⟩,Vu h.keys hk⟩⟩
end
end Go
namespace Ear
end Ear
namespace Go.Proofs.YtcjicjfbippmnaaGreat
open Go.RowKit
theorem _root_.zH {p:Prop} (h:p):Hid p:=Lib.hid h
abbrev _root_.gT (b:Act) (k:Nat):Value:=b.tmps.getD k undef
theorem _root_.zA {α:Type _} (l:List α) (i:Nat) (a : α):l.toArray.setIfInBounds i a = (l.set i a).toArray:=List.setIfInBounds_toArray l i a
theorem _root_.zB {α:Type _} {x : α} {xs:List α} {a : α}:(x :: xs).set 0 a = a :: xs:=rfl
theorem _root_.zC {α:Type _} {x : α} {xs:List α} {i:Nat} {a : α}:(x :: xs).set (i + 1) a = x :: xs.set i a:=rfl
theorem _root_.bR {b:Nat} {w:World}:Below b w w:=Below.refl _ _
theorem _root_.nR {n:Nat}:n <= n:=Nat.le_refl _
theorem _root_.cR {w:World} {g:Nat} {cs:Array Value} {t:TypeId} {fr:Nat × Nat} (j:Nat) (h:w.heap[g]? = some (.cells cs t fr)):w.cell? ⟨g,j,none⟩ = cs[j]?:=cell_of_row _ _ j _ _ _ h
theorem _root_.aE {α:Type _} {i:Nat} {b : α} {xs:Array α} (h:xs[i]? = some b):∃ h:i < xs.size,xs[i] = b:=Array.getElem?_eq_some_iff.1 h
theorem _root_.tR {a b c:Nat}:a <= b -> b <= c -> a <= c:=Nat.le_trans
theorem _root_.yM {α:Type _} {l:List α} {n:Nat} (h:n < l.length):l[n] ∈ l:=List.getElem_mem h
theorem _root_.dF {p:Prop} [Decidable p]:¬p -> decide p = false:=decide_eq_false
theorem _root_.gE {α:Type _} {l:List α} {i:Nat} (h:i < l.length):l[i]? = some l[i]:=List.getElem?_eq_getElem h

def Lies (w:World) (A:Option Addr) (xs:List Value):Prop:=
 0 < xs.length -> ∃ b off,A = some ⟨b,off,none⟩ /\ b < w.heap.size /\ ∀ k u,xs[k]? = some u -> w.cell? ⟨b,off + k,none⟩ = some u

abbrev ics (l:List Int):List Value:=l.map (Value.int .i64)

theorem Lies.nil (w:World) (A:Option Addr):Lies w A []:=fun h=>absurd h (by simp)

theorem Lies.keep {w w':World} {A:Option Addr} {xs:List Value} (h:Lies w A xs) (hs:w.heap.size <= w'.heap.size)
  (hk:∀ p:Addr,p.block < w.heap.size -> w'.cell? p = w.cell? p):Lies w' A xs:=fun h0=>by
 obtain ⟨b,off,e,hb,hc⟩:=h h0;exact ⟨b,off,e,by omega,fun k u hu=>(hk _ hb).trans (hc k u hu)⟩
theorem Lies.below {w w':World} {A:Option Addr} {xs:List Value} (h:Lies w A xs) (hb:Below w.heap.size w w'):Lies w' A xs:=
 h.keep hb.size fun _ hp=>hb.cell hp
theorem Lies.alloc {w:World} {A:Option Addr} {xs:List Value} (h:Lies w A xs) (o:Obj):Lies (w.alloc o) A xs:=
 h.keep (by simp) fun p hp=>World.cell?_alloc_lt w o p hp
theorem Lies.drewN {w:World} {A:Option Addr} {xs:List Value} (h:Lies w A xs) (n:Nat):Lies (w.drewN n) A xs:=h
theorem Lies.at_ {w:World} {A:Option Addr} {l:List Int} (h:Lies w A (ics l)) {k:Nat} (hk:k < l.length) :
  ∃ b off,A = some ⟨b,off,none⟩ /\ b < w.heap.size /\ w.cell? ⟨b,off + k,none⟩ = some (.int .i64 (l[k]?.getD 0)):=by
 obtain ⟨b,off,e,hb,hc⟩:=h (by simp;omega);refine ⟨b,off,e,hb,hc k _ ?_⟩;simp [List.getElem?_eq_getElem hk]
theorem Lies.of_own {w:World} {base:Nat} {e:TypeId} {size n c:Nat} {A:Option Addr} {xs:List Value} (h:w.ownsRow base e size (.slice A n c) n xs):Lies w A xs:=fun h0=>by
 have hn : 0 < n:=by
  have:=h.1;rcases Nat.eq_zero_or_pos n with h1 | h1
  ·subst h1;simp at this;subst this;simp at h0
  ·exact h1
 obtain ⟨g,cap,hv,_,hlt⟩:=h.form hn;have hA:A = some ⟨g,0,none⟩:=by injection hv
 subst hA;refine ⟨g,0,rfl,hlt,fun k u hu=>?_⟩;have:=h.cells (g:=g) rfl k u hu
 rwa [Addr.add_lit] at this

theorem J8 {a w:World} {g:Nat} (h:a.grownBy w (some g)) {p:Addr} (hp:p.block = g ∨ a.heap.size <= p.block) (u:Value):a.grownBy (w.setCell p u) (some g):=
 ⟨h.os,h.tape,h.output,by simpa [World.setCell] using h.size,fun i hi hne=>(Below.heap_setCell w p u i (by
  rintro rfl;rcases hp with hp | hp
  ·exact hne (by rw [hp])
  ·omega)).trans (h.block i hi hne)⟩
theorem Below.of_only {a w:World} {B g:Nat} (h:a.grownBy w (some g)) (hB:B <= a.heap.size) (hg:B <= g):Below B a w:=
 ⟨h.os,h.tape,h.output,h.size,fun k hk=>h.block k (by omega) (fun e=>by injection e;omega)⟩
theorem Jw {w:World} {b b':Nat} {e:TypeId} {size n:Nat} {v:Value} {xs:List Value} (h:w.ownsRow b e size v n xs) (hb:b' <= b):w.ownsRow b' e size v n xs:=by
 obtain ⟨h1,h2⟩:=h;refine ⟨h1,?_⟩;rcases h2 with h2 | ⟨g,cap,cur,hv,hg,rest⟩
 ·exact .inl h2
 ·exact .inr ⟨g,cap,cur,hv,by omega,rest⟩
theorem JT {w:World} {base:Nat} {e:TypeId} {size n:Nat} {v:Value} {xs:List Value} (h:w.ownsRow base e size v n xs) {p:Addr} (hp:p.block < base) (u:Value):(w.setCell p u).ownsRow base e size v n xs:=
 ownsRow_setCell_below h hp u
open Ear
theorem JS {k:IntKind} {a b:Int} (h:a = b):Ending.returned (.int k a) = .returned (.int k b):=by rw [h]

end Go.Proofs.YtcjicjfbippmnaaGreat
namespace Ear

def inR (lo hi x:Int):Bool:=decide (lo <= x) && decide (x <= hi)
theorem Zdb {lo hi x:Int}:inR lo hi x = true ↔ lo <= x /\ x <= hi:=by simp [inR]
def Xx (lo hi:Int) (l:List Int):Bool:=l.all (inR lo hi)
theorem Zd {lo hi:Int} {l:List Int} (h:Xx lo hi l = true) {x:Int} (hx:x ∈ l):lo <= x /\ x <= hi:=
 Zdb.1 (List.all_eq_true.1 h x hx)
theorem Zf1 {lo hi:Int} {l:List Int} (h:∀ x ∈ l,lo <= x /\ x <= hi):Xx lo hi l = true:=
 List.all_eq_true.2 fun x hx=>Zdb.2 (h x hx)
theorem ZaI {lo hi:Int} {l:List Int} (h:Xx lo hi l = true) {k:Nat} (hk:k < l.length):lo <= l[k] /\ l[k] <= hi:=Zd h (List.getElem_mem hk)
end Ear
namespace Go.Proofs.YtcjicjfbippmnaaGreat
open Go.RowKit Ear

theorem ZaH {p:Int -> Bool} {l:List Int} {k:Nat} (hk:k < l.length) (h:(l.take k).all p = true) (hx:p l[k] = true):(l.take (k + 1)).all p = true:=by
 rw [List.take_succ_eq_append_getElem hk,List.all_append,h];simp [hx]
theorem Un {p:Int -> Bool} {l:List Int} {k:Nat} (hk:k < l.length) (hx:p l[k] = false):l.all p = false:=by
 rw [List.all_eq_false];exact ⟨l[k],yM hk,by simp [hx]⟩
theorem Jn {a b:Bool} (h:a = b):Ending.returned (.bool a) = .returned (.bool b):=by rw [h]
structure Pred (g:FuncId) (p:Int -> Bool):Prop where
 enter:∀ (args:Array Value) (w:World),(callFunc g args).run Tryz.prog w = .ok (.enter g args) w
 gives:∀ (x:Int) (w:World),Calls Tryz.prog g #[.int .i64 x] w fun e w'=>e = .returned (.bool (p x)) /\ w = w'

theorem VH {p:Int -> Bool} {l:List Int} {k:Nat} (hk:k < l.length) (h:(l.take k).any p = false) (hx:p l[k] = false):(l.take (k + 1)).any p = false:=by
 rw [List.take_succ_eq_append_getElem hk,List.any_append,h];simp [hx]
theorem Qe {p:Int -> Bool} {l:List Int} {k:Nat} (hk:k < l.length) (hx:p l[k] = true):l.any p = true:=by
 rw [List.any_eq_true];exact ⟨l[k],yM hk,hx⟩
def Zf8 (p:Int -> Bool) (l:List Int) (w:World) (e:Ending) (w':World):Prop:=∃ r:Int,e = .returned (.int .i64 r) /\ w = w' /\ decide (0 <= r) = l.any p

theorem Zd9 (g:FuncId) (p:Int -> Bool) (hp:Pred g p) (A:Option Addr) (c:Nat) (l:List Int) (w:World) (h:Lies w A (ics l)) (hn:l.length <= 9223372036854775807) :
  Calls Tryz.prog 164 #[.slice A l.length c,.func (.func g) #[] #[]] w (Zf8 p l w):=by
 have heg:=hp.enter;go_enter Tryz.func164,Tryz.ntmps164;go_wp2;go_loop [5,8] (fun _ i=>∃ k:Nat,k <= l.length /\ i = .int .i64 k /\ (l.take k).any p = false) (fun _ i=>l.length - (intOf i).toNat)
 case atStart=>exact ⟨0,Nat.zero_le _,rfl,rfl⟩
 case round=>
  obtain ⟨k,hk,rfl,hp'⟩:=hrel;have HP:=zH hp';clear hp';by_cases hlt:k < l.length
  ·obtain ⟨bk,off,rfl,hb,hc⟩:=h.at_ hlt;go_wp2_with fail;refine (hp.gives _ _).mono ?_;rintro e w' ⟨rfl,rfl⟩;cases hpx:p l[k] with
   | true=>
    have HX:=zH hpx;clear hpx;go_wp2_with fail;go_ret;exact ⟨k,rfl,rfl,by rw [Qe hlt HX.out];simp⟩
   | false=>
    have HX:=zH hpx;clear hpx;go_wp2_with fail;exact ⟨⟨k + 1,by omega,by go_num,VH hlt HP.out HX.out⟩,by simp [intOf];omega⟩
  ·go_wp2;go_ret;exact ⟨-1,rfl,rfl,by have hh:=HP.out;rw [List.take_of_length_le (by omega)] at hh;rw [hh];rfl⟩

theorem Yo (g:FuncId) (p:Int -> Bool) (hp:Pred g p) (A:Option Addr) (c:Nat) (l:List Int) (w:World) (h:Lies w A (ics l)) (hn:l.length <= 9223372036854775807) :
  Calls Tryz.prog 112 #[.slice A l.length c,.func (.func g) #[] #[]] w fun e w'=>e = .returned (.bool (l.any p)) /\ w = w':=by
 go_enter Tryz.func112,Tryz.ntmps112;go_wp2_with fail;refine (Zd9 g p hp A c l _ h hn).mono ?_;rintro e w' ⟨r,rfl,rfl,hr⟩;have HR:=zH hr;clear hr;go_wp2_with fail;go_ret;exact ⟨Jn HR.out,rfl⟩

theorem Ya (lo hi:Int) (l:List Int):l.any (fun x=>!inR lo hi x) = !Xx lo hi l:=by
 unfold Xx;rw [List.all_eq_not_any_not];simp only [Bool.not_not]

end Go.Proofs.YtcjicjfbippmnaaGreat
