/- TalkLearns -/
import Derived.Test.YtcjicjfbippmnaaGreatMTLear14
import Derived.WideKeyEntry
set_option maxRecDepth 100000
set_option maxHeartbeats 32000000
namespace Go
open Go.ChangeMaps (setBlock heap_setBlock_same heap_setBlock_other)
open Go.Maps (Keyed)
open Go.RowKit
set_option linter.unusedSectionVars false

def J7 {κ ν : Type} [DecidableEq κ]:List (κ × ν) -> κ -> Option ν
 | [],_=>none
 | p :: m,k=>if p.1 = k then some p.2 else J7 m k
def Y0 {κ ν : Type} [DecidableEq κ]:List (κ × ν) -> κ -> ν -> List (κ × ν)
 | [],k,v=>[(k,v)]
 | p :: m,k,v=>if p.1 = k then (k,v) :: m else p :: Y0 m k v
section
variable {κ ν : Type} [DecidableEq κ]
theorem Uu {m:List (κ × ν)} {k : κ} {v : ν} (h:J7 m k = some v):(k,v) ∈ m:=by
 induction m with
 | nil=>simp [J7] at h
 | cons p m ih=>
  unfold J7 at h;split at h
  ·rename_i e;simp at h;subst h;subst e;exact List.mem_cons_self ..
  ·exact List.mem_cons_of_mem _ (ih h)
theorem Zl {m:List (κ × ν)} {k : κ}:J7 m k = none ↔ ∀ p ∈ m,p.1 ≠ k:=by
 induction m with
 | nil=>simp [J7]
 | cons p m ih=>
  unfold J7;split
  ·rename_i e;simp [e]
  ·rename_i e;rw [ih];simp [e]
theorem Y6 (m:List (κ × ν)) (k : κ) (v : ν):J7 (Y0 m k v) k = some v:=by
 induction m with
 | nil=>simp [Y0,J7]
 | cons p m ih=>
  unfold Y0;split
  ·simp [J7]
  ·rename_i e;simp [J7,e,ih]
theorem ZO (m:List (κ × ν)) {k k' : κ} (v : ν) (hne:k' ≠ k):J7 (Y0 m k v) k' = J7 m k':=by
 induction m with
 | nil=>simp [Y0,J7,Ne.symm hne]
 | cons p m ih=>
  unfold Y0;split
  ·rename_i e;simp [J7,e,Ne.symm hne]
  ·simp only [J7,ih]
theorem ZN (m:List (κ × ν)) (k : κ) (v : ν):(Y0 m k v).length <= m.length + 1:=by
 induction m with
 | nil=>simp [Y0]
 | cons p m ih=>unfold Y0;split <;> simp;omega
theorem Zz {m:List (κ × ν)} {k : κ} {v : ν} {p : κ × ν} (h:p ∈ Y0 m k v):p = (k,v) ∨ p ∈ m:=by
 induction m with
 | nil=>simp [Y0] at h;exact .inl h
 | cons q m ih=>
  unfold Y0 at h;split at h
  ·rcases List.mem_cons.1 h with h | h
   ·exact .inl h
   ·exact .inr (List.mem_cons_of_mem _ h)
  ·rcases List.mem_cons.1 h with h | h
   ·exact .inr (h ▸ List.mem_cons_self ..)
   ·rcases ih h with h | h
    ·exact .inl h
    ·exact .inr (List.mem_cons_of_mem _ h)
theorem ZcI {m:List (κ × ν)} {k : κ} (v : ν) (h:J7 m k = none):Y0 m k v = m ++ [(k,v)]:=by
 induction m with
 | nil=>rfl
 | cons p m ih=>
  unfold J7 at h;split at h
  ·cases h
  ·rename_i e;simp [Y0,e,ih h]
theorem Zeg {m:List (κ × ν)} {k : κ} (v : ν):(Y0 m k v).map (·.1) = if (J7 m k).isSome then m.map (·.1) else m.map (·.1) ++ [k]:=by
 induction m with
 | nil=>rfl
 | cons p m ih=>
  unfold Y0 J7;split
  ·rename_i e;simp [e]
  ·simp only [List.map_cons,ih];split <;> rfl
theorem Zay {m:List (κ × ν)} {j:Nat} {k : κ} {x : ν} (v : ν) (hn:(m.map (·.1)).Nodup) (h:m[j]? = some (k,x)):Y0 m k v = m.set j (k,v) /\ J7 m k = some x:=by
 induction m generalizing j with
 | nil=>simp at h
 | cons p m ih=>
  cases j with
  | zero=>simp at h;subst h;simp [Y0,J7]
  | succ j=>
   simp only [List.map_cons,List.nodup_cons] at hn;simp only [List.getElem?_cons_succ] at h;have hne:p.1 ≠ k:=fun e=>hn.1 (List.mem_map.2 ⟨(k,x),List.mem_of_getElem? h,e.symm⟩);obtain ⟨h1,h2⟩:=ih hn.2 h;simp [Y0,J7,hne,h1,h2]
end
section
variable {κ ν : Type} [DecidableEq κ] {P:Program} {K:TypeId} {ek : κ -> Value} {ev : ν -> Value} {w:World} {b:Nat} {m:List (κ × ν)}

structure MapIs (P:Program) (K:TypeId) (ek : κ -> Value) (ev : ν -> Value) (w:World) (b:Nat) (m:List (κ × ν)):Prop where
 block:∃ es clock,w.heap[b]? = some (.map es clock) /\ MapKept.Stamped es clock /\ es.toList.map (fun e=>(e.key,e.val)) = m.map (fun p=>(ek p.1,ev p.2))
 keys:∀ p ∈ m,∃ l,keyOf P K (ek p.1) = some l
def Inj (ek : κ -> Value):Prop:=∀ a b,ek a = ek b -> a = b
theorem MapIs.lt (h:MapIs P K ek ev w b m):b < w.heap.size:=by
 obtain ⟨es,c,hb,_⟩:=h.block;exact (Array.getElem?_eq_some_iff.1 hb).1
theorem MapIs.same {w':World} (h:MapIs P K ek ev w b m) (hb:w'.heap[b]? = w.heap[b]?):MapIs P K ek ev w' b m:=by
 obtain ⟨es,c,h1,h2⟩:=h.block;exact ⟨⟨es,c,hb.trans h1,h2⟩,h.keys⟩
theorem MapIs.below {w':World} (h:MapIs P K ek ev w b m) (hb:Below w.heap.size w w'):MapIs P K ek ev w' b m:=h.same (hb.block b h.lt)
theorem MapIs.grown {w':World} {row:Option Nat} (h:MapIs P K ek ev w b m) (hg:w.grownBy w' row) (hne:row ≠ some b):MapIs P K ek ev w' b m:=h.same (hg.block b h.lt (fun e=>hne e.symm))
theorem MapIs.made (P:Program) (K:TypeId) (ek : κ -> Value) (ev : ν -> Value) (w:World):MapIs P K ek ev (w.alloc (.map #[] 0)) w.heap.size []:=
 ⟨⟨#[],0,(MapKept.heap_alloc w _).1,MapKept.stamped_empty 0,rfl⟩,by simp⟩
theorem Yr {es:Array MapEntry} (hm:es.toList.map (fun e=>(e.key,e.val)) = m.map (fun p=>(ek p.1,ev p.2))) {j:Nat} {e0:MapEntry} (h:es.toList[j]? = some e0):∃ p,m[j]? = some p /\ e0.key = ek p.1 /\ e0.val = ev p.2:=by
 have:=congrArg (fun l=>l[j]?) hm;simp only [List.getElem?_map,h,Option.map_some] at this;cases hp:m[j]? with
 | none=>rw [hp] at this;simp at this
 | some p=>rw [hp] at this;simp at this;exact ⟨p,rfl,this.1,this.2⟩
theorem MapIs.nodup (h:MapIs P K ek ev w b m):(m.map (·.1)).Nodup:=by
 obtain ⟨es,c,h1,h2,h3⟩:=h.block;have hk:es.toList.map (·.key) = m.map (fun p=>ek p.1):=by
  have:=congrArg (List.map Prod.fst) h3;simpa [List.map_map,Function.comp_def] using this
 have hn:=h2.2.2;rw [hk] at hn;rw [List.Nodup,List.pairwise_map] at hn ⊢;exact hn.imp fun hne e=>hne (by rw [e])
theorem MapIs.size (h:MapIs P K ek ev w b m):∃ es clock,w.heap[b]? = some (.map es clock) /\ es.size = m.length:=by
 obtain ⟨es,c,h1,h2,h3⟩:=h.block;refine ⟨es,c,h1,?_⟩;have:=congrArg List.length h3;simpa using this
theorem Zm (hk:∀ p ∈ m,∃ l,keyOf P K (ek p.1) = some l) {es:Array MapEntry} (hm:es.toList.map (fun e=>(e.key,e.val)) = m.map (fun p=>(ek p.1,ev p.2))):∀ e ∈ es.toList,∃ l,keyOf P K e.key = some l:=fun e he=>by
 obtain ⟨j,hj⟩:=List.mem_iff_getElem?.1 he;obtain ⟨p,hp,h1,_⟩:=Yr hm hj;rw [h1];exact hk p (List.mem_of_getElem? hp)
theorem MapIs.lookup {t e:TypeId} (h:MapIs P K ek ev w b m) (KY:Keyed P K) (inj:Inj ek) (ht:P.underlying t = some (.map K e)) {z:Value} (hz:(zeroValue e).run P w = .ok z w) (key : κ) {l:Lit} (hk:keyOf P K (ek key) = some l) :
  (Instr.lookup t (.map (some b)) (ek key) false).run P w = .ok (((J7 m key).map ev).getD z) w:=by
 obtain ⟨es,c,h1,h2,h3⟩:=h.block;rcases KY.find w hk es.toList (Zm h.keys h3) with ⟨f1,f2⟩ | ⟨j,e0,f1,f2,f3⟩
 ·have hn:J7 m key = none:=Zl.2 fun p hp e=>by
   obtain ⟨j,hj⟩:=List.mem_iff_getElem?.1 hp;have:=congrArg (fun l=>l[j]?) h3;simp only [List.getElem?_map,hj,Option.map_some] at this;cases he:es.toList[j]? with
   | none=>rw [he] at this;simp at this
   | some x=>rw [he] at this;simp at this;exact f2 x (List.mem_of_getElem? he) (by rw [this.1,e])
  rw [hn];simp [Instr.lookup,run_underlying ht,MapKept.run_getObj_map h1,KY.check w _ hk,f1,hz,Result.andThen]
 ·obtain ⟨p,hp,q1,q2⟩:=Yr h3 f2;have ep:p.1 = key:=inj _ _ (q1.symm.trans f3);have hg:=(Zay p.2 h.nodup (show m[j]? = some (key,p.2) by rw [hp,<- ep])).2;rw [hg];simp [Instr.lookup,run_underlying ht,MapKept.run_getObj_map h1,KY.check w _ hk,f1,q2,Result.andThen]
theorem Zau {es:Array MapEntry} {key : κ} {val : ν} {clock:Nat} (hm:es.toList.map (fun e=>(e.key,e.val)) = m.map (fun p=>(ek p.1,ev p.2))) (hn:J7 m key = none) :
  (es.push ⟨ek key,ev val,clock⟩).toList.map (fun e=>(e.key,e.val)) = (Y0 m key val).map (fun p=>(ek p.1,ev p.2)):=by
 rw [ZcI val hn];simp [hm]
theorem QV {es:Array MapEntry} {key : κ} {val : ν} {j:Nat} {e0:MapEntry} {x : ν} (hm:es.toList.map (fun e=>(e.key,e.val)) = m.map (fun p=>(ek p.1,ev p.2))) (hj:es.toList[j]? = some e0) (hp:m[j]? = some (key,x)) (hnd:(m.map (·.1)).Nodup) (f:MapEntry -> MapEntry) (hf1:(f e0).key = ek key) (hf2:(f e0).val = ev val) :
  (es.modify j f).toList.map (fun e=>(e.key,e.val)) = (Y0 m key val).map (fun p=>(ek p.1,ev p.2)):=by
 rw [(Zay val hnd hp).1,Array.toList_modify,ChangeMaps.modify_eq_set _ _ _ _ hj,List.map_set,List.map_set,hm,hf1,hf2]
theorem Vp {key : κ} {val : ν} (hk:∀ p ∈ m,∃ l,keyOf P K (ek p.1) = some l) {l:Lit} (hkey:keyOf P K (ek key) = some l):∀ p ∈ Y0 m key val,∃ l,keyOf P K (ek p.1) = some l:=fun p hp=>by
 rcases Zz hp with rfl | h
 ·exact ⟨l,hkey⟩
 ·exact hk p h
theorem JW {es es':Array MapEntry} {c c':Nat} (hb:w.heap[b]? = some (.map es c)):w.grownBy (setBlock w b (.map es' c')) (some b):=
 ⟨rfl,rfl,rfl,by simp [setBlock],fun i _ hi=>heap_setBlock_other hb _ (fun e=>hi (by rw [e]))⟩
theorem MapIs.update {t e:TypeId} (h:MapIs P K ek ev w b m) (KY:Keyed P K) (inj:Inj ek) (ht:P.underlying t = some (.map K e)) (key : κ) (val : ν) {l:Lit} (hk:keyOf P K (ek key) = some l) :
  ∃ w',(Instr.mapUpdate t (.map (some b)) (ek key) (ev val)).run P w = .ok () w' /\ MapIs P K ek ev w' b (Y0 m key val) /\ w.grownBy w' (some b):=by
 obtain ⟨es,c,h1,h2,h3⟩:=h.block;rcases KY.find w hk es.toList (Zm h.keys h3) with ⟨f1,f2⟩ | ⟨j,e0,f1,f2,f3⟩
 ·have hn:J7 m key = none:=Zl.2 fun p hp e=>by
   obtain ⟨j,hj⟩:=List.mem_iff_getElem?.1 hp;have:=congrArg (fun l=>l[j]?) h3;simp only [List.getElem?_map,hj,Option.map_some] at this;cases he:es.toList[j]? with
   | none=>rw [he] at this;simp at this
   | some x=>rw [he] at this;simp at this;exact f2 x (List.mem_of_getElem? he) (by rw [this.1,e])
  refine ⟨setBlock w b (.map (es.push ⟨ek key,ev val,c⟩) (c + 1)),by simp [Instr.mapUpdate,run_underlying ht,MapKept.run_getObj_map h1,KY.check w false hk,f1,MapKept.run_setObj_map _ h1,Result.andThen,setBlock],⟨⟨_,_,heap_setBlock_same h1 _,MapKept.stamped_push h2 f2,Zau h3 hn⟩,Vp h.keys hk⟩,JW h1⟩
 ·obtain ⟨p,hp,q1,q2⟩:=Yr h3 f2;have ep:p.1 = key:=inj _ _ (q1.symm.trans f3);have hp':m[j]? = some (key,p.2):=by rw [hp,<- ep]
  have hj:es[j]? = some e0:=by simpa using f2
  refine ⟨setBlock w b (.map (es.modify j fun e=>{ e with key:=ek key,val:=ev val }) c),by simp [Instr.mapUpdate,run_underlying ht,MapKept.run_getObj_map h1,KY.check w false hk,f1,hj,f3,KY.stays w hk,MapKept.run_setObj_map _ h1,Result.andThen,setBlock],⟨⟨_,_,heap_setBlock_same h1 _,MapKept.stamped_modify h2 j _ (fun _ _=>rfl) (fun x _ hx=>by rw [hj] at hx;cases hx;exact f3.symm),QV h3 f2 hp' h.nodup _ rfl rfl⟩,Vp h.keys hk⟩,JW h1⟩
end
end Go
namespace Go.Proofs.YtcjicjfbippmnaaGreat
open Go.RowKit Ear

def kx (l:List Int) (j i:Nat):Int:=if i < j then l[i]?.getD 0 + 1 else 0
def kcs (l:List Int) (j:Nat):Array Value:=#[.int .i64 (kx l j 0),.int .i64 (kx l j 1),.int .i64 (kx l j 2),.int .i64 (kx l j 3)]
theorem Zhd {l:List Int} {j:Nat} (hj:j < 4):(kcs l j).setIfInBounds j (.int .i64 (l[j]?.getD 0 + 1)) = kcs l (j + 1):=by
 rcases (show j = 0 ∨ j = 1 ∨ j = 2 ∨ j = 3 by omega) with rfl | rfl | rfl | rfl <;> simp [kcs,kx]
theorem Zf2 (l:List Int):kcs l 0 = #[.int .i64 0,.int .i64 0,.int .i64 0,.int .i64 0]:=by simp [kcs,kx]
abbrev K4:=Int × Int × Int × Int
def ek (k:K4):Value:=.agg #[.int .i64 k.1,.int .i64 k.2.1,.int .i64 k.2.2.1,.int .i64 k.2.2.2]
theorem ZgI:Inj ek:=fun a b h=>by
 obtain ⟨a0,a1,a2,a3⟩:=a;obtain ⟨b0,b1,b2,b3⟩:=b;simp [ek] at h;obtain ⟨rfl,rfl,rfl,rfl⟩:=h;rfl
def kOf (l:List Int):K4:=(kx l l.length 0,kx l l.length 1,kx l l.length 2,kx l l.length 3)
theorem JF {t:TypeId} {w:World} {k:Nat} {cs:Array Value} (h:w.heap[k]? = some (.cells cs t (0,0))) (j:Nat) (v:Value):(w.setCell ⟨k,j,none⟩ v).heap[k]? = some (.cells (cs.setIfInBounds j v) t (0,0)):=by
 simp [World.setCell,Array.getElem?_modify,h]
theorem Zbn (A:Option Addr) (c:Nat) (l:List Int) (w:World) (h:Lies w A (ics l)) (hl:l.length <= 4) (hb:Hid (∀ x ∈ l,0 <= x /\ x <= 1000000)) :
  Calls Tryz.prog 157 #[.slice A l.length c] w fun e w'=>e = .returned (ek (kOf l)) /\ Below w.heap.size w w':=by
 obtain ⟨W,hW⟩:∃ W:World,W = (w.alloc (.cells #[.int .i64 0,.int .i64 0,.int .i64 0,.int .i64 0] 203)).alloc (.cells #[.int .i64 0,.int .i64 0,.int .i64 0,.int .i64 0] 203):=⟨_,rfl⟩;have HB0:Hid (Below w.heap.size w W):=zH (by rw [hW];exact (bR.alloc nR _).alloc (by simp) _);have HK:Hid (W.heap[w.heap.size + 1]? = some (.cells (kcs l 0) 203 (0,0))):=zH (by rw [hW,Zf2];have:=heap_alloc_new (w.alloc (.cells #[.int .i64 0,.int .i64 0,.int .i64 0,.int .i64 0] 203)) (.cells #[.int .i64 0,.int .i64 0,.int .i64 0,.int .i64 0] 203);simpa using this);have HR:Hid (W.heap[w.heap.size]? = some (.cells #[.int .i64 0,.int .i64 0,.int .i64 0,.int .i64 0] 203 (0,0))):=zH (by rw [hW];exact (Below.heap_alloc _ _ _ (by simp)).trans (heap_alloc_new w _));have H:=zH h;clear h;go_enter Tryz.func157,Tryz.ntmps157;go_wp2_with fail;rw [<- hW];clear hW;go_loopw [8] (fun i wr=>∃ j:Nat,j <= l.length /\ i = .int .i64 j /\ Hid (wr.heap[w.heap.size + 1]? = some (.cells (kcs l j) 203 (0,0))) /\ Hid (wr.heap[w.heap.size]? = some (.cells #[.int .i64 0,.int .i64 0,.int .i64 0,.int .i64 0] 203 (0,0))) /\ Hid (Below w.heap.size w wr)) (fun i _=>l.length - (intOf i).toNat)
 case atStart=>exact ⟨0,by omega,rfl,HK,HR,HB0⟩
 case round=>
  obtain ⟨j,hj,rfl,HKr,HRr,HBr⟩:=hrel;clear HK HR HB0;by_cases hlt:j < l.length
  ·obtain ⟨bx,ox,rfl,hbx,hcx⟩:=(H.out.below HBr.out).at_ hlt;have hx:=hb.out _ (yM hlt);have HS:=zH (Zhd (l:=l) (j:=j) (by omega));have e1:l[j]?.getD 0 = l[j]:=(by rw [gE hlt];rfl);rw [e1] at HS hcx;clear e1;generalize l[j] = x at *
   have q1:∃ u,wr.cell? ⟨w.heap.size + 1,j,none⟩ = some u:=by
    rw [cell_of_row wr _ j _ _ _ HKr.out];have hs:j < (kcs l j).size:=(by simp [kcs];omega);exact ⟨_,Array.getElem?_eq_getElem hs⟩
   obtain ⟨u,q1⟩:=q1;have q2:wr.frozen? ⟨w.heap.size + 1,j,none⟩ = false:=Jp HKr.out j;have hj4:j < 4:=(by omega);go_wp2_with fail;refine ⟨⟨j + 1,by omega,by go_num,zH ?_,zH ?_,zH ?_⟩,by simp [intOf];omega⟩
   ·rw [JF HKr.out,HS.out]
   ·exact (Below.heap_setCell _ _ _ _ (by simp)).trans HRr.out
   ·exact HBr.out.setCell (by simp) _
  ·obtain rfl:j = l.length:=by omega
   have k0:=cell_of_row wr _ 0 _ _ _ HKr.out;have k1:=cell_of_row wr _ 1 _ _ _ HKr.out;have k2:=cell_of_row wr _ 2 _ _ _ HKr.out;have k3:=cell_of_row wr _ 3 _ _ _ HKr.out;have r0:=cell_of_row wr _ 0 _ _ _ HRr.out;have r1:=cell_of_row wr _ 1 _ _ _ HRr.out;have r2:=cell_of_row wr _ 2 _ _ _ HRr.out;have r3:=cell_of_row wr _ 3 _ _ _ HRr.out;have f0:wr.frozen? ⟨w.heap.size,0,none⟩ = false:=Jp HRr.out 0;have f1:wr.frozen? ⟨w.heap.size,1,none⟩ = false:=Jp HRr.out 1;have f2:wr.frozen? ⟨w.heap.size,2,none⟩ = false:=Jp HRr.out 2;have f3:wr.frozen? ⟨w.heap.size,3,none⟩ = false:=Jp HRr.out 3;simp [kcs] at k0 k1 k2 k3 r0 r1 r2 r3;go_wp2_with fail;have R4:=JF (JF (JF (JF HRr.out 0 (.int .i64 (kx l l.length 0))) 1 (.int .i64 (kx l l.length 1))) 2 (.int .i64 (kx l l.length 2))) 3 (.int .i64 (kx l l.length 3));have g0:=cR 0 R4;have g1:=cR 1 R4;have g2:=cR 2 R4;have g3:=cR 3 R4;simp at g0 g1 g2 g3;refine bodyPost_ret (v:=ek (kOf l)) (by simp [results,Tryz.results157,go_sem,g0,g1,g2,g3,ek,kOf]) rfl ?_;exact ⟨rfl,(((HBr.out.setCell nR _).setCell nR _).setCell nR _).setCell nR _⟩
end Go.Proofs.YtcjicjfbippmnaaGreat
namespace Go
open Go.ChangeMaps (setBlock heap_setBlock_same heap_setBlock_other)
open Go.Maps (Keyed)
open Go.RowKit
set_option linter.unusedSectionVars false
section
variable {κ ν : Type} [DecidableEq κ] {P:Program} {K:TypeId} {ek : κ -> Value} {ev : ν -> Value} {w:World} {b r:Nat} {m:List (κ × ν)} {idx:List Nat}

structure MapIt (P:Program) (K:TypeId) (ek : κ -> Value) (ev : ν -> Value) (w:World) (b r:Nat) (m:List (κ × ν)) (idx:List Nat):Prop where
 st:∃ es clock since seen c0,w.heap[b]? = some (.map es clock) /\ MapKept.Stamped es clock /\ es.toList.map (fun e=>(e.key,e.val)) = m.map (fun p=>(ek p.1,ev p.2)) /\
  w.heap[r]? = some (.mapIter (some b) since seen c0) /\ (∀ x ∈ es.toList,x.born < since) /\ since <= c0 /\ since <= clock /\ seen.toList.map some = idx.map (fun i=>es.toList[i]?.map (·.born))
 nodup:idx.Nodup
 lt:∀ i ∈ idx,i < m.length
 keys:∀ p ∈ m,∃ l,keyOf P K (ek p.1) = some l
def Zbm (w:World) (b r:Nat):Nat:=match w.heap[b]?,w.heap[r]? with
 | some (.map es _),some (.mapIter _ _ seen _)=>es.size - seen.size
 | _,_=>0
def Zf7 {α:Type} (m:List α) (d : α) (idx:List Nat):List α:=idx.map fun i=>m[i]?.getD d
theorem MapIt.left_eq (h:MapIt P K ek ev w b r m idx):Zbm w b r = m.length - idx.length:=by
 obtain ⟨es,c,s,seen,c0,h1,h2,h3,h4,h5,h6,hc,h7⟩:=h.st;unfold Zbm;rw [h1,h4];have e1:=congrArg List.length h3;have e2:=congrArg List.length h7;simp at e1 e2;simp only;omega
theorem UO:∀ (n:Nat) (l:List Nat),l.Nodup -> (∀ i ∈ l,i < n) -> l.length <= n
 | 0,l,_,h=>by
  cases l with
  | nil=>simp
  | cons x l=>exact absurd (h x (List.mem_cons_self ..)) (Nat.not_lt_zero _)
 | n + 1,l,hn,h=>by
  by_cases hm:n ∈ l
  ·have h1:=UO n (l.erase n) (hn.erase n) (fun i hi=>by
    have h2:=h i (List.mem_of_mem_erase hi);have h3:i ≠ n:=fun e=>by subst e;exact (List.Nodup.not_mem_erase hn) hi
    omega)
   rw [List.length_erase_of_mem hm] at h1;omega
  ·have h1:=UO n l hn (fun i hi=>by
    have h2:=h i hi;have h3:i ≠ n:=fun e=>hm (e ▸ hi);omega)
   omega
theorem MapIt.len_le (h:MapIt P K ek ev w b r m idx):idx.length <= m.length:=UO _ _ h.nodup h.lt
theorem MapIt.same {w':World} (h:MapIt P K ek ev w b r m idx) (hb:w'.heap[b]? = w.heap[b]?) (hr:w'.heap[r]? = w.heap[r]?):MapIt P K ek ev w' b r m idx:=by
 obtain ⟨es,c,s,seen,c0,h1,h2,h3,h4,h5⟩:=h.st;exact ⟨⟨es,c,s,seen,c0,hb.trans h1,h2,h3,hr.trans h4,h5⟩,h.nodup,h.lt,h.keys⟩
theorem MapIs.range {t e:TypeId} (h:MapIs P K ek ev w b m) (ht:P.underlying t = some (.map K e)) :
  ∃ o,(Instr.range t (.map (some b))).run P w = .ok (.pointer (some ⟨w.heap.size,0,none⟩)) (w.alloc o) /\ MapIt P K ek ev (w.alloc o) b w.heap.size m []:=by
 obtain ⟨es,c,h1,h2,h3⟩:=h.block;have hlt:=h.lt;refine ⟨_,run_range_map w t K e b es c ht h1,⟨es,c,c,#[],c,?_,h2,h3,?_,h2.1,Nat.le_refl _,Nat.le_refl _,rfl⟩,by simp,by simp,h.keys⟩
 ·rw [(MapKept.heap_alloc w _).2 b hlt];exact h1
 ·exact (MapKept.heap_alloc w _).1
theorem Zf3 {n:Nat} {idx:List Nat} (hn:idx.Nodup) (hl:∀ i ∈ idx,i < n) (ha:∀ i,i < n -> i ∈ idx):idx.Perm (List.range n):=by
 rw [List.perm_ext_iff_of_nodup hn List.nodup_range];exact fun i=>⟨fun h=>List.mem_range.2 (hl i h),fun h=>ha i (List.mem_range.1 h)⟩
theorem ZeI {α:Type} {m:List α} {d : α} {idx:List Nat} (h:idx.Perm (List.range m.length)):(Zf7 m d idx).Perm m:=by
 refine (h.map _).trans ?_;have e:(List.range m.length).map (fun i=>m[i]?.getD d) = m:=by
  apply List.ext_getElem (by simp);intro i h1 h2;simp [List.getElem?_eq_getElem h2]
 rw [e]
theorem MapIt.next (h:MapIt P K ek ev w b r m idx) (d : κ × ν) (ty:TypeId) :
  ((Zf7 m d idx).Perm m /\ (Instr.next (.pointer (some ⟨r,0,none⟩)) false ty).run P w = .ok (.tuple #[.bool false]) w) ∨
  ∃ i w',i < m.length /\ i ∉ idx /\ (Instr.next (.pointer (some ⟨r,0,none⟩)) false ty).run P w = .ok (.tuple #[.bool true,ek (m[i]?.getD d).1,ev (m[i]?.getD d).2]) w' /\ MapIt P K ek ev w' b r m (idx ++ [i]) /\
   (Instr.entry (.pointer (some ⟨r,0,none⟩))).run P w' = .ok (.tuple #[ek (m[i]?.getD d).1,ev (m[i]?.getD d).2]) w' /\ w.grownBy w' (some r) /\ w'.heap.size = w.heap.size:=by
 obtain ⟨es,c,s,seen,c0,h1,h2,h3,h4,h5,h6,hc,h7⟩:=h.st;have hsz:es.toList.length = m.length:=by have:=congrArg List.length h3;simpa using this
 have hseen:∀ x,x ∈ seen.toList -> ∃ i ∈ idx,es.toList[i]?.map (·.born) = some x:=fun x hx=>by
  have:some x ∈ idx.map (fun i=>es.toList[i]?.map (·.born)):=by rw [<- h7];exact List.mem_map_of_mem hx
  obtain ⟨i,hi,e⟩:=List.mem_map.1 this;exact ⟨i,hi,e⟩
 have hnb:∀ (i j:Nat) (x:Nat),es.toList[i]?.map (fun e:MapEntry=>e.born) = some x -> es.toList[j]?.map (fun e:MapEntry=>e.born) = some x -> i = j:=fun i j x hi hj=>by
  have hn:=h2.2.1;rw [<- List.getElem?_map] at hi hj;obtain ⟨l1,e1⟩:=List.getElem?_eq_some_iff.1 hi;obtain ⟨l2,e2⟩:=List.getElem?_eq_some_iff.1 hj;rw [List.Nodup,List.pairwise_iff_getElem] at hn;rcases Nat.lt_trichotomy i j with h | h | h
  ·exact absurd (e1.trans e2.symm) (hn i j l1 l2 h)
  ·exact h
  ·exact absurd (e2.trans e1.symm) (hn j i l2 l1 h)
 have hbr:b ≠ r:=fun e=>by rw [e,h4] at h1;cases h1
 rcases run_next_at w ty r b s c0 seen es c h4 h1 h5 h6 with ⟨f1,f2⟩ | ⟨e0,f1,w1,f2,f3⟩
 ·refine .inl ⟨ZeI (Zf3 h.nodup h.lt fun i hi=>?_),f2⟩;have hi':i < es.toList.length:=by omega
  have hin:seen.contains es.toList[i].born = true:=by
   apply Decidable.byContradiction;intro hne;have hm:es.toList[i] ∈ (leftOf es seen).toList:=by
    unfold leftOf;rw [Array.toList_filter,List.mem_filter];exact ⟨List.getElem_mem hi',by simpa using hne⟩
   have:(leftOf es seen).toList = []:=by
    apply List.eq_nil_of_length_eq_zero;simpa using f1
   rw [this] at hm;cases hm
  have hmem:es.toList[i].born ∈ seen.toList:=by
   simpa using hin
  obtain ⟨j,hj,ej⟩:=hseen _ hmem;have:=hnb i j _ (by rw [List.getElem?_eq_getElem hi'];rfl) ej;rw [this];exact hj
 ·unfold leftOf at f1;rw [Array.toList_filter,List.mem_filter] at f1;obtain ⟨g1,g2⟩:=f1;obtain ⟨i,hi⟩:=List.mem_iff_getElem?.1 g1;obtain ⟨p,hp,q1,q2⟩:=Yr h3 hi;have hlt:i < m.length:=(List.getElem?_eq_some_iff.1 hp).1;have hr1:w1.heap[r]? = some (.mapIter (some b) s seen c0):=by rcases f2 with rfl | rfl <;> exact h4
  have hb1:w1.heap[b]? = some (.map es c):=by rcases f2 with rfl | rfl <;> exact h1
  have hni:i ∉ idx:=fun hin=>by
   have:some e0.born ∈ seen.toList.map some:=(by rw [h7];exact List.mem_map.2 ⟨i,hin,by rw [hi];rfl⟩);obtain ⟨x,hx,e⟩:=List.mem_map.1 this;cases e;have hc:seen.contains e0.born = true:=(by simpa using hx);rw [hc] at g2;simp at g2
  have hrs:r < w1.heap.size:=(Array.getElem?_eq_some_iff.1 hr1).1;have hr2:(setBlock w1 r (.mapIter (some b) s (seen.push e0.born) c)).heap[r]? = some (.mapIter (some b) s (seen.push e0.born) c):=by simp [setBlock,hrs]
  have hb2:(setBlock w1 r (.mapIter (some b) s (seen.push e0.born) c)).heap[b]? = some (.map es c):=by
   have:(setBlock w1 r (.mapIter (some b) s (seen.push e0.born) c)).heap[b]? = w1.heap[b]?:=(by simp [setBlock,Ne.symm hbr]);rw [this];exact hb1
  have hgb:w.grownBy (setBlock w1 r (.mapIter (some b) s (seen.push e0.born) c)) (some r):=by
   rcases f2 with rfl | rfl
   ·exact ⟨rfl,rfl,rfl,by simp [setBlock],fun k _ hk=>by have:k ≠ r:=fun e=>hk (by rw [e]);simp [setBlock,Ne.symm this]⟩
   ·exact ⟨rfl,rfl,rfl,by simp [setBlock],fun k _ hk=>by have:k ≠ r:=fun e=>hk (by rw [e]);simp [setBlock,Ne.symm this];rfl⟩
  have hsw:(setBlock w1 r (.mapIter (some b) s (seen.push e0.born) c)).heap.size = w.heap.size:=by rcases f2 with rfl | rfl <;> simp [setBlock]
  refine .inr ⟨i,_,hlt,hni,?_,⟨⟨es,c,s,seen.push e0.born,c,hb2,h2,h3,hr2,h5,hc,hc,?_⟩,?_,?_,h.keys⟩,?_,hgb,hsw⟩
  ·rw [f3,hp,q1,q2];rfl
  ·rw [Array.toList_push,List.map_append,List.map_append,h7];refine congrArg _ ?_;show [some e0.born] = [Option.map (fun e:MapEntry=>e.born) es.toList[i]?];rw [hi];rfl
  ·exact List.nodup_append.2 ⟨h.nodup,by simp,fun a ha c hc=>by rw [List.mem_singleton] at hc;subst hc;exact fun e=>hni (e ▸ ha)⟩
  ·intro j hj;rcases List.mem_append.1 hj with hj | hj
   ·exact h.lt j hj
   ·rw [List.mem_singleton] at hj;subst hj;exact hlt
  ·have:=run_entry_at (P:=P) _ r b s seen es c e0 hr2 hb2 g1 h2.2.1;rw [this,hp,q1,q2];rfl
end
end Go
namespace Go
open Go.ChangeMaps (setBlock heap_setBlock_same heap_setBlock_other)
open Go.Maps (Keyed)
open Go.RowKit
set_option linter.unusedSectionVars false
section
variable {κ ν : Type} [DecidableEq κ] {P:Program} {K:TypeId} {ek : κ -> Value} {ev : ν -> Value} {w:World} {b:Nat} {m:List (κ × ν)}
theorem Y7 {t e:TypeId} (KY:Keyed P K) (ht:P.underlying t = some (.map K e)) {u:World} {es:Array MapEntry} {clock:Nat} (hb:u.heap[b]? = some (.map es clock)) (hs:MapKept.Stamped es clock) {j:Nat} {e0:MapEntry} (hj:es.toList[j]? = some e0) {l:Lit} (hk:keyOf P K e0.key = some l) (hkeys:∀ e ∈ es.toList,∃ l,keyOf P K e.key = some l) :
  (Instr.mapEntry t (.map (some b)) e0.key).run P u = .ok (.tuple #[e0.val,goInt e0.born]) (setBlock u b (.map es clock)) /\
  ∀ v,(Instr.entryStore t (.map (some b)) (goInt e0.born) v).run P u = .ok () (setBlock u b (.map (es.modify j fun x=>{ x with val:=v }) clock)):=by
 have hn:=hs.2.2;rcases KY.find u hk es.toList hkeys with ⟨f1,f2⟩ | ⟨j',e1,f1,f2,f3⟩
 ·exact absurd rfl (f2 e0 (List.mem_of_getElem? hj))
 ·have hjj:j' = j:=by
   rw [List.Nodup,List.pairwise_map,List.pairwise_iff_getElem] at hn;obtain ⟨l1,e1'⟩:=List.getElem?_eq_some_iff.1 hj;obtain ⟨l2,e2'⟩:=List.getElem?_eq_some_iff.1 f2;rcases Nat.lt_trichotomy j' j with h | h | h
   ·exact absurd (by rw [e1',e2',f3]) (hn j' j l2 l1 h)
   ·exact h
   ·exact absurd (by rw [e1',e2',f3]) (hn j j' l1 l2 h)
  subst hjj;rw [hj] at f2;cases f2;have hj2:es[j']? = some e0:=by simpa using hj
  have sm:es.modify j' (fun e=>{ e with key:=e0.key }) = es:=by
   apply Array.ext';rw [Array.toList_modify,ChangeMaps.modify_eq_set _ _ _ _ hj];exact WideElems.set_self _ _ _ hj
  refine ⟨by simp [Instr.mapEntry,run_underlying ht,MapKept.run_getObj_map hb,KY.check u false hk,f1,hj2,KY.stays u hk,sm,MapKept.run_setObj_map _ hb,Result.andThen,setBlock],fun v=>?_⟩;have hidx:es.findIdx? (fun e=>((e.born:Nat):Int) == ((e0.born:Nat):Int)) = some j':=by
   rw [WideElems.findIdx_arr];exact WideElems.findIdx_born hs.2.1 hj
  simp [Instr.entryStore,MapKept.run_getObj_map hb,asInt,asIntOf,goInt,hidx,MapKept.run_setObj_map _ hb,Result.andThen,setBlock]
theorem MapIs.entry2 {t e:TypeId} (h:MapIs P K ek ev w b m) (KY:Keyed P K) (inj:Inj ek) (ht:P.underlying t = some (.map K e)) {z : ν} (hz:∀ u,(zeroValue e).run P u = .ok (ev z) u) (key : κ) {l:Lit} (hk:keyOf P K (ek key) = some l) :
  ∃ (st:Nat) (o1:Obj),(∃ es c,o1 = .map es c) /\ (∀ u:World,(u.heap[b]? = w.heap[b]? ∨ u.heap[b]? = some o1) -> (Instr.lookup t (.map (some b)) (ek key) false).run P u = .ok (ev ((J7 m key).getD z)) u /\
    (Instr.mapEntry t (.map (some b)) (ek key)).run P u = .ok (.tuple #[ev ((J7 m key).getD z),goInt st]) (setBlock u b o1)) /\
   ∀ (u:World) (val : ν),u.heap[b]? = some o1 -> ∃ o2,(∃ es c,o2 = .map es c) /\ (Instr.entryStore t (.map (some b)) (goInt st) (ev val)).run P u = .ok () (setBlock u b o2) /\ ∀ u':World,u'.heap[b]? = some o2 -> MapIs P K ek ev u' b (Y0 m key val):=by
 have look:∀ (u:World) (m':List (κ × ν)),MapIs P K ek ev u b m' -> (Instr.lookup t (.map (some b)) (ek key) false).run P u = .ok (ev ((J7 m' key).getD z)) u:=fun u m' hu=>by
  have:=hu.lookup KY inj ht (hz u) key hk;rw [this];cases J7 m' key <;> rfl
 obtain ⟨es,clock,h1,h2,h3⟩:=h.block;rcases KY.find w hk es.toList (Zm h.keys h3) with ⟨f1,f2⟩ | ⟨j,e0,f1,f2,f3⟩
 ·have hn:J7 m key = none:=Zl.2 fun p hp e=>by
   obtain ⟨j,hj⟩:=List.mem_iff_getElem?.1 hp;have:=congrArg (fun l=>l[j]?) h3;simp only [List.getElem?_map,hj,Option.map_some] at this;cases he:es.toList[j]? with
   | none=>rw [he] at this;simp at this
   | some x=>rw [he] at this;simp at this;exact f2 x (List.mem_of_getElem? he) (by rw [this.1,e])
  have hst1:=MapKept.stamped_push (val:=ev z) h2 f2;have hp1:=Zau (ek:=ek) (ev:=ev) (key:=key) (val:=z) (clock:=clock) h3 hn;have hks1:∀ p ∈ Y0 m key z,∃ l,keyOf P K (ek p.1) = some l:=Vp h.keys hk;have hlast:(es.push ⟨ek key,ev z,clock⟩).toList[es.toList.length]? = some ⟨ek key,ev z,clock⟩:=by simp
  refine ⟨clock,.map (es.push ⟨ek key,ev z,clock⟩) (clock + 1),⟨_,_,rfl⟩,fun u hu=>?_,fun u val hu=>?_⟩
  ·rcases hu with hu | hu
   ·refine ⟨look u m (h.same hu),?_⟩;rw [hn];have hb:=hu.trans h1;rcases KY.find u hk es.toList (Zm h.keys h3) with ⟨g1,_⟩ | ⟨j,e0,_,g2,g3⟩
    ·simp [Instr.mapEntry,run_underlying ht,MapKept.run_getObj_map hb,KY.check u false hk,g1,hz,MapKept.run_setObj_map _ hb,Result.andThen,setBlock]
    ·exact absurd g3 (f2 e0 (List.mem_of_getElem? g2))
   ·have hm1:MapIs P K ek ev u b (Y0 m key z):=⟨⟨_,_,hu,hst1,hp1⟩,hks1⟩;refine ⟨?_,?_⟩
    ·rw [look u _ hm1,Y6,hn];rfl
    ·rw [hn];exact (Y7 KY ht hu hst1 hlast hk (Zm hks1 hp1)).1
  ·refine ⟨_,⟨_,_,rfl⟩,(Y7 KY ht hu hst1 hlast hk (Zm hks1 hp1)).2 (ev val),fun u' hu'=>⟨⟨_,_,hu',?_,?_⟩,Vp h.keys hk⟩⟩
   ·exact MapKept.stamped_modify hst1 _ _ (fun _ _=>rfl) (fun _ _ _=>rfl)
   ·have e:(es.push ⟨ek key,ev z,clock⟩).modify es.toList.length (fun e=>{ e with val:=ev val }) = es.push ⟨ek key,ev val,clock⟩:=by
     apply Array.ext';rw [Array.toList_modify,Array.toList_push,Array.toList_push,WideElems.modify_last]
    rw [e];exact Zau h3 hn
 ·obtain ⟨p,hp,q1,q2⟩:=Yr h3 f2;have ep:p.1 = key:=inj _ _ (q1.symm.trans f3);have hp':m[j]? = some (key,p.2):=by rw [hp,<- ep]
  have hg:=(Zay p.2 h.nodup hp').2;have hfk:keyOf P K e0.key = some l:=by rw [f3];exact hk
  have hold:∀ u:World,(u.heap[b]? = w.heap[b]? ∨ u.heap[b]? = some (.map es clock)) -> u.heap[b]? = w.heap[b]?:=fun u hu=>by
   rcases hu with hu | hu
   ·exact hu
   ·rw [hu,h1]
  refine ⟨e0.born,.map es clock,⟨_,_,rfl⟩,fun u hu=>?_,fun u val hu=>?_⟩
  ·have hu':=hold u hu;refine ⟨look u m (h.same hu'),?_⟩;have:=(Y7 KY ht (hu'.trans h1) h2 f2 hfk (Zm h.keys h3)).1;rw [f3,q2] at this;rw [this,hg];rfl
  ·have:=(Y7 KY ht hu h2 f2 hfk (Zm h.keys h3)).2 (ev val);refine ⟨_,⟨_,_,rfl⟩,this,fun u' hu'=>⟨⟨_,_,hu',MapKept.stamped_modify h2 j _ (fun _ _=>rfl) (fun _ _ _=>rfl),QV h3 f2 hp' h.nodup _ f3 rfl⟩,Vp h.keys hk⟩⟩
end
end Go
namespace Go.Proofs.YtcjicjfbippmnaaGreat
open Go.RowKit Ear

structure GLo (w:World) (base:Nat) (A:Option Addr) (c:Nat) (L:List Gm):Prop where
 row:w.ownsRow base 114 2 (.slice A L.length c) L.length (JZ L)
 inn:∀ g ∈ L,InT w g.1
 num:∀ g ∈ L,-9223372036854775808 <= g.2 /\ g.2 <= 9223372036854775807
theorem GLo.tb {w:World} {base c:Nat} {A:Option Addr} {L:List Gm} (h:GLo w base A c L):Tb w A L:=⟨Lies.of_own h.row,fun g hg=>(h.inn g hg).1,h.num⟩
theorem GLo.nil (w:World) (base:Nat):GLo w base none 0 []:=⟨World.ownsRow_nil _ _ _ _,fun x h=>by simp at h,fun x h=>by simp at h⟩
theorem GLo.below {w w':World} {base c:Nat} {A:Option Addr} {L:List Gm} (h:GLo w base A c L) (hb:Below w.heap.size w w'):GLo w' base A c L:=⟨Ja h.row hb,fun x hx=>(h.inn x hx).below hb,h.num⟩
theorem GLo.le {w:World} {base base' c:Nat} {A:Option Addr} {L:List Gm} (h:GLo w base A c L) (hb:base' <= base):GLo w base' A c L:=⟨Jq h.row hb,h.inn,h.num⟩
theorem ZeH (L:List Gm) (g:Gm):JZ (L ++ [g]) = JZ L ++ [Value.slice g.1.1 g.1.2.2.length g.1.2.1,Value.int .i64 g.2]:=by simp [JZ]
theorem GLo.snoc {w w':World} {base base' c c' n:Nat} {A A':Option Addr} {L:List Gm} {g:Gm} (h:GLo w base A c L) (hx:InT w g.1) (hgn : -9223372036854775808 <= g.2 /\ g.2 <= 9223372036854775807) (hg:w.grownBy w' (Value.slice A n c).ownBlock)
  (hr:w'.ownsRow base' 114 2 (.slice A' (L.length + 1) c') (L.length + 1) (JZ L ++ [Value.slice g.1.1 g.1.2.2.length g.1.2.1,Value.int .i64 g.2])):GLo w' base' A' c' (L ++ [g]):=by
 have key:∀ y,InT w y -> InT w' y:=fun y hy=>hy.grown hg (e:=114) (fun k e _=>BT.of_own (v:=.slice A L.length c) h.row (by rw [<- e];cases A <;> rfl)) (by decide);refine ⟨by rw [ZeH];simpa using hr,fun y hy=>?_,fun y hy=>?_⟩
 ·rcases List.mem_append.1 hy with hy | hy
  ·exact key _ (h.inn y hy)
  ·simp at hy;subst hy;exact key _ hx
 ·rcases List.mem_append.1 hy with hy | hy
  ·exact h.num y hy
  ·simp at hy;subst hy;exact hgn
theorem GLo.block {w w':World} {base c:Nat} {A:Option Addr} {L:List Gm} (h:GLo w base A c L) (hs:w.heap.size <= w'.heap.size) (hk:∀ b,BT w b 3 ∨ BT w b 114 /\ base <= b -> w'.heap[b]? = w.heap[b]?):GLo w' base A c L:=by
 refine ⟨?_,fun x hx=>(h.inn x hx).block hs fun b hb=>hk b (.inl hb),h.num⟩;have hrow:=h.row;obtain ⟨q1,q2⟩:=hrow;refine ⟨q1,?_⟩;rcases q2 with e | ⟨g,cap,cur,e,hb,hg,rest⟩
 ·exact .inl e
 ·refine .inr ⟨g,cap,cur,e,hb,(hk g (.inr ⟨⟨_,_,hg⟩,hb⟩)).trans hg,rest⟩
def kws (k:K4):List Int:=[k.1 - 1,k.2.1 - 1,k.2.2.1 - 1,k.2.2.2 - 1]
def gmW (o:Nat) (k:K4):List Int:=(kws k).take o
def kOk (k:K4):Prop:=(0 <= k.1 /\ k.1 <= 1000001) /\ (0 <= k.2.1 /\ k.2.1 <= 1000001) /\ (0 <= k.2.2.1 /\ k.2.2.1 <= 1000001) /\ (0 <= k.2.2.2 /\ k.2.2.2 <= 1000001)
abbrev MI (w:World) (b:Nat) (m:List (K4 × Int)):Prop:=MapIs Tryz.prog 203 ek (Value.int .i64) w b m
theorem UY:(Tryz.prog.info? 114).map (fun i=>(i.zero,i.size,i.bytes)) = some (some (.agg #[.slice none 0 0,.int .i64 0]),2,32):=by kernel_rfl
theorem MI.len {w:World} {b:Nat} {m:List (K4 × Int)} (h:MI w b m) (ty:TypeId):(Builtin.len_ #[198] ty #[.map (some b)]).run Tryz.prog w = .ok (.int .i64 (m.length:Int)) w:=by
 obtain ⟨es,c,h1,h2⟩:=h.size;simp [Builtin.len_,run_underlying Tryz.underlying198,MapKept.run_getObj_map h1,goInt,Result.andThen,h2]
end Go.Proofs.YtcjicjfbippmnaaGreat
