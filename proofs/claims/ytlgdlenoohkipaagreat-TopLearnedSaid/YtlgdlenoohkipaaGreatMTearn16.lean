/- TopLearned -/
import Derived.Test.YtlgdlenoohkipaaGreatMTearn15
import Derived.WideKeyEntry
set_option maxRecDepth 100000
set_option maxHeartbeats 32000000
namespace Go.Proofs.YtlgdlenoohkipaaGreat
open Go.RowKit Ear

theorem XT {o v:Int} {A:Option Addr} {n c:Nat} {kd:Int} {x:Fr} {M:Option Addr} {mn mc:Nat} {W0:World} {b:Nat} (h:W0.heap[b]? = some (.cells (lgv o v A n c kd x M mn mc) 34 (0,0))):∀ u,Below W0.heap.size W0 u -> u.cell? ⟨b,0,none⟩ = some (.int .i64 o) /\ u.cell? ⟨b,1,none⟩ = some (.int .i64 v) /\ u.cell? ⟨b,2,none⟩ = some (.slice A n c) /\ u.cell? ⟨b,3,none⟩ = some (.int .i64 kd) /\ u.cell? ⟨b,4,none⟩ = some (.bool x.neg) /\ u.cell? ⟨b,5,none⟩ = some (.slice x.A x.N.length x.c) /\ u.cell? ⟨b,6,none⟩ = some (.slice x.B x.D.length x.d) /\ u.cell? ⟨b,7,none⟩ = some (.slice M mn mc):=fun u hu=>by
 have hh:=(hu.block _ (aE h).1).trans h;exact ⟨(cR 0 hh).trans rfl,(cR 1 hh).trans rfl,(cR 2 hh).trans rfl,(cR 3 hh).trans rfl,(cR 4 hh).trans rfl,(cR 5 hh).trans rfl,(cR 6 hh).trans rfl,(cR 7 hh).trans rfl⟩
theorem Zdd (o v:Int) (A:Option Addr) (n c:Nat) (kd:Int) (x:Fr) (q:Rat) (M:Option Addr) (mn mc:Nat) (X:Nat -> Fr) (mx:Nat -> Rat) (w:World) (hx:Fv w x q) (fx:Few x 100) (hM:FL w M mn X mx) (hf:∀ k,k < mn -> Few (X k) 100) (ho : 1 <= o /\ o <= 4) (hk:Hid (ZiF kd o q mn mx)) :
  Calls Tryz.prog 130 #[.agg (lgv o v A n c kd x M mn mc)] w (ZaE true w):=by
 obtain ⟨W0,hW0⟩:∃ X:World,X = w.alloc (.cells (lgv o v A n c kd x M mn mc) 34):=⟨_,rfl⟩;have HB0:Hid (Below w.heap.size w W0):=zH (by rw [hW0];exact bR.alloc nR _);have HX0:Hid (W0.heap[w.heap.size]? = some (.cells (lgv o v A n c kd x M mn mc) 34 (0,0))):=zH (by rw [hW0];exact heap_alloc_new w _);have HV:=zH (hx.below HB0.out);have HPB:=zH (XT HX0.out);have HM0:=zH (hM.below HB0.out);have HFX:=zH hf;have HSQ:Hid (Sz q 100):=zH (hx.sz fx (by decide));have C1:=zH (Xl 1 W0 (by omega) (by omega));have S1:Hid (Sz (((1:Int)):Rat) 2):=zH (Sz.i64 (by omega) (by omega));clear hx hM hf;go_enter Tryz.func130,Tryz.ntmps130;go_upto_region 1 with fail;rw [<- hW0];clear hW0;go_wp2_with fail;refine C1.out.mono ?_;rintro e w1 ⟨r1,rfl,hr1,hb1⟩;obtain ⟨W1,hW1⟩:∃ X:World,X = w1.alloc (.cells #[.bool r1.neg,.slice r1.A r1.N.length r1.c,.slice r1.B r1.D.length r1.d] 31):=⟨_,rfl⟩;have HN1:Hid (Below w1.heap.size w1 W1):=zH (by rw [hW1];exact bR.alloc nR _);have HB1:Hid (Below W0.heap.size W0 W1):=zH (hb1.trans (HN1.out.mono hb1.size));have HF1:Hid (Fb W1 w1.heap.size r1):=zH (by rw [hW1];exact Fb.new w1 r1);have HQ1:=zH (hr1.below HN1.out);clear hb1 C1 hr1;go_upto_region 2 with fail;rw [<- hW1];clear hW1;obtain ⟨rb,hrb⟩:∃ rb,rb = w1.heap.size:=⟨_,rfl⟩;rw [<- hrb] at HF1 ⊢;clear hrb;obtain ⟨c0,c1,c2,c3,c4,c5,c6,c7⟩:=HPB.out W1 HB1.out;have HV1:=zH (HV.out.below HB1.out);obtain ⟨s,hs⟩:∃ s,s = Yu q:=⟨_,rfl⟩;have C2:=zH (ZU x q W1 HV1.out (JN fx (by decide)) s (zH hs.symm));have HS:=zH hs;clear hs;go_wp2_with fail;refine C2.out.mono ?_;rintro e w2 ⟨rfl,hb2⟩;have HB2:=zH (HB1.out.trans (hb2.mono HB1.out.size));have HF2:=zH (HF1.out.below hb2);have HQ2:=zH (HQ1.out.below hb2);clear hb2 c0 c1 c2 c3 c4 c5 c6 c7 C2 HF1 HQ1;obtain ⟨c0,c1,c2,c3,c4,c5,c6,c7⟩:=HPB.out w2 HB2.out;have HBW:Hid (Below w.heap.size w w2):=zH (HB0.out.trans (HB2.out.mono HB0.out.size));rcases hk.out with ⟨rfl,h1,rfl⟩ | ⟨rfl,h1,h2,h3,h4,h5⟩ | ⟨rfl,rfl,h1,h2⟩ | ⟨rfl,rfl,h1⟩
 ·have hs1:s = 1:=by rw [HS.out];exact Zel h1
  subst hs1;clear h1 hk HS;go_wp2_with fail;refine bodyPost_ret (v:=.bool true) (by simp [results,Tryz.results130,go_sem]) rfl ?_;exact ⟨rfl,HBW.out⟩
 ·have hs1:s = 0:=by rw [HS.out];exact ZhH h1
  subst hs1;have p1:IntKind.i64.wrap (o + 1) = (mn:Int):=by rw [IntWalk.i64_in _ (by omega)];omega
  have hmn:mn <= 5:=by omega
  have hm0 : 0 < mn:=by omega
  have hm0':(0:Int) < (mn:Int):=by omega
  have C3:=zH (Zft M mn mc X mx w2 (HM0.out.below HB2.out) (by omega) HFX.out h3 h4);have HP0:=zH h5;clear h1 h2 h3 h4 h5 hk HS;go_wp2_with fail;refine C3.out.mono ?_;rintro e w3 ⟨rfl,hb3⟩;have HB3:=zH (HB2.out.trans (hb3.mono HB2.out.size));clear c0 c1 c2 c3 c4 c5 c6 c7 hb3 C3;obtain ⟨c0,c1,c2,c3,c4,c5,c6,c7⟩:=HPB.out w3 HB3.out;obtain ⟨mb,mo,rfl,hmb,v0,v1,v2,hxm⟩:=(HM0.out.below HB3.out) 0 hm0;have C4:=zH (ZU (X 0) (mx 0) w3 hxm (JN (HFX.out 0 hm0) (by decide)) 1 (zH (Zel HP0.out)));clear hxm;generalize X 0 = y at *
  simp only [Nat.zero_mul,Nat.add_zero] at v0 v1 v2;go_wp2_with fail;refine C4.out.mono ?_;rintro e w4 ⟨rfl,hb4⟩;have HB4:=zH (HB3.out.trans (hb4.mono HB3.out.size));clear hb4 C4;go_wp2_with fail;refine bodyPost_ret (v:=.bool true) (by simp [results,Tryz.results130,go_sem]) rfl ?_;exact ⟨rfl,HB0.out.trans (HB4.out.mono HB0.out.size)⟩
 ·have hs1:s = 1:=by rw [HS.out];exact Zel h1
  subst hs1;obtain ⟨z,hz⟩:∃ z,z = Yu (q + -(((1:Int)):Rat)):=⟨_,rfl⟩;have hz0:z < 0:=by
   rw [hz];have h3:(q + -(((1:Int)):Rat)) < 0:=(by simp;grind);have h4:(q + -(((1:Int)):Rat)).num < 0:=by
    apply Classical.byContradiction;intro h4;have h5:=Rat.num_nonneg.1 (show 0 <= (q + -(((1:Int)):Rat)).num by omega);exact absurd h3 (Rat.not_lt.2 h5)
   unfold Yu;rw [if_pos h4];decide
  have hz1:¬ 0 <= z:=by omega
  have C3:=zH (Q3 x r1 q (((1:Int)):Rat) w2 (HV.out.below HB2.out) HQ2.out.fv (JN fx (by decide)) (HQ2.out.few (S1.out.mono (by decide))) z (zH hz.symm));obtain ⟨k0,k1,k2,-,-,-⟩:=HF2.out.facts;clear h1 h2 hk HS hz;go_wp2_with fail;refine C3.out.mono ?_;rintro e w3 ⟨rfl,hb3⟩;have HB3:=zH (HB2.out.trans (hb3.mono HB2.out.size));clear c0 c1 c2 c3 c4 c5 c6 c7 k0 k1 k2 hb3 C3;obtain ⟨c0,c1,c2,c3,c4,c5,c6,c7⟩:=HPB.out w3 HB3.out;go_wp2_with fail;refine bodyPost_ret (v:=.bool true) (by simp [results,Tryz.results130,go_sem]) rfl ?_;exact ⟨rfl,HB0.out.trans (HB3.out.mono HB0.out.size)⟩
 ·have hs1:s = 0:=by rw [HS.out];exact ZhH h1
  subst hs1;clear h1 hk HS;go_wp2_with fail;refine bodyPost_ret (v:=.bool true) (by simp [results,Tryz.results130,go_sem]) rfl ?_;exact ⟨rfl,HBW.out⟩
structure LgM (w:World) (o v:Int) (A:Option Addr) (L:List Gm) (kd:Int) (x:Fr) (q:Rat) (M:Option Addr) (mn:Nat) (X:Nat -> Fr) (mx:Nat -> Rat):Prop where
 tb:Tb w A L
 tab:Xz o v (Je L) = 0
 amt:Fv w x q
 few:Few x 100
 mix:FL w M mn X mx
 fmx:∀ k,k < mn -> Few (X k) 100
 ok:ZiF kd o q mn mx
theorem LgM.below {w w':World} {o v:Int} {A:Option Addr} {L:List Gm} {kd:Int} {x:Fr} {q:Rat} {M:Option Addr} {mn:Nat} {X:Nat -> Fr} {mx:Nat -> Rat} (h:LgM w o v A L kd x q M mn X mx) (hb:Below w.heap.size w w'):LgM w' o v A L kd x q M mn X mx:=
 ⟨h.tb.below hb,h.tab,h.amt.below hb,h.few,h.mix.below hb,h.fmx,h.ok⟩
theorem LgM.ord {w:World} {o v:Int} {A:Option Addr} {L:List Gm} {kd:Int} {x:Fr} {q:Rat} {M:Option Addr} {mn:Nat} {X:Nat -> Fr} {mx:Nat -> Rat} (h:LgM w o v A L kd x q M mn X mx):(1 <= o /\ o <= 4) /\ 1 <= v /\ v <= 2000:=by
 have:=Jx.1 (JK.1 h.tab).2.1;omega
theorem LgM.len {w:World} {o v:Int} {A:Option Addr} {L:List Gm} {kd:Int} {x:Fr} {q:Rat} {M:Option Addr} {mn:Nat} {X:Nat -> Fr} {mx:Nat -> Rat} (h:LgM w o v A L kd x q M mn X mx):L.length <= 20000:=by
 have:=(JK.1 h.tab).1;simpa using this
theorem US (o v:Int) (A:Option Addr) (c:Nat) (L:List Gm) (kd:Int) (x:Fr) (q:Rat) (M:Option Addr) (mn mc:Nat) (X:Nat -> Fr) (mx:Nat -> Rat) (w:World) (h:LgM w o v A L kd x q M mn X mx) :
  Calls Tryz.prog 73 #[.agg (lgv o v A L.length c kd x M mn mc)] w (VU 0 w):=by
 obtain ⟨W0,hW0⟩:∃ X:World,X = w.alloc (.cells (lgv o v A L.length c kd x M mn mc) 34):=⟨_,rfl⟩;have HB0:Hid (Below w.heap.size w W0):=zH (by rw [hW0];exact bR.alloc nR _);have HX0:Hid (W0.heap[w.heap.size]? = some (.cells (lgv o v A L.length c kd x M mn mc) 34 (0,0))):=zH (by rw [hW0];exact heap_alloc_new w _);have HPB:=zH (XT HX0.out);have HLG:=zH (h.below HB0.out);have hL2:=h.len;have HC:=zH (YI o v A c L W0 HLG.out.tb (by omega) 0 (zH h.tab));obtain ⟨c0,c1,c2,c3,c4,c5,c6,c7⟩:=HPB.out W0 bR;clear h;go_enter Tryz.func73,Tryz.ntmps73;go_upto_region 1 with fail;rw [<- hW0];clear hW0;go_wp2_with fail;refine HC.out.mono ?_;rintro e w1 ⟨rfl,hb1⟩;have HB1:=zH hb1;have HV:=zH (Zdd o v A L.length c kd x q M mn mc X mx w1 (HLG.out.amt.below hb1) HLG.out.few (HLG.out.mix.below hb1) HLG.out.fmx HLG.out.ord.1 (zH HLG.out.ok));clear hb1 c0 c1 c2 c3 c4 c5 c6 c7;obtain ⟨c0,c1,c2,c3,c4,c5,c6,c7⟩:=HPB.out w1 HB1.out;go_wp2_with fail;refine HV.out.mono ?_;rintro e w2 ⟨rfl,hb2⟩;have HB2:=zH (HB1.out.trans (hb2.mono HB1.out.size));clear hb2;go_wp2_with fail;refine bodyPost_ret (v:=.int .i64 0) (by simp [results,Tryz.results73,go_sem]) rfl ?_;exact ⟨rfl,HB0.out.trans (HB2.out.mono HB0.out.size)⟩
end Go.Proofs.YtlgdlenoohkipaaGreat
namespace Go
open Go.ChangeMaps (setBlock heap_setBlock_same heap_setBlock_other)
open Go.Maps (Keyed)
open Go.RowKit
set_option linter.unusedSectionVars false

def JB {κ ν : Type} [DecidableEq κ]:List (κ × ν) -> κ -> Option ν
 | [],_=>none
 | p :: m,k=>if p.1 = k then some p.2 else JB m k
def Xr {κ ν : Type} [DecidableEq κ]:List (κ × ν) -> κ -> ν -> List (κ × ν)
 | [],k,v=>[(k,v)]
 | p :: m,k,v=>if p.1 = k then (k,v) :: m else p :: Xr m k v
section
variable {κ ν : Type} [DecidableEq κ]
theorem JS {m:List (κ × ν)} {k : κ} {v : ν} (h:JB m k = some v):(k,v) ∈ m:=by
 induction m with
 | nil=>simp [JB] at h
 | cons p m ih=>
  unfold JB at h;split at h
  ·rename_i e;simp at h;subst h;subst e;exact List.mem_cons_self ..
  ·exact List.mem_cons_of_mem _ (ih h)
theorem XS {m:List (κ × ν)} {k : κ}:JB m k = none ↔ ∀ p ∈ m,p.1 ≠ k:=by
 induction m with
 | nil=>simp [JB]
 | cons p m ih=>
  unfold JB;split
  ·rename_i e;simp [e]
  ·rename_i e;rw [ih];simp [e]
theorem JJ (m:List (κ × ν)) (k : κ) (v : ν):JB (Xr m k v) k = some v:=by
 induction m with
 | nil=>simp [Xr,JB]
 | cons p m ih=>
  unfold Xr;split
  ·simp [JB]
  ·rename_i e;simp [JB,e,ih]
theorem JP (m:List (κ × ν)) {k k' : κ} (v : ν) (hne:k' ≠ k):JB (Xr m k v) k' = JB m k':=by
 induction m with
 | nil=>simp [Xr,JB,Ne.symm hne]
 | cons p m ih=>
  unfold Xr;split
  ·rename_i e;simp [JB,e,Ne.symm hne]
  ·simp only [JB,ih]
theorem XM (m:List (κ × ν)) (k : κ) (v : ν):(Xr m k v).length <= m.length + 1:=by
 induction m with
 | nil=>simp [Xr]
 | cons p m ih=>unfold Xr;split <;> simp;omega
theorem XL {m:List (κ × ν)} {k : κ} {v : ν} {p : κ × ν} (h:p ∈ Xr m k v):p = (k,v) ∨ p ∈ m:=by
 induction m with
 | nil=>simp [Xr] at h;exact .inl h
 | cons q m ih=>
  unfold Xr at h;split at h
  ·rcases List.mem_cons.1 h with h | h
   ·exact .inl h
   ·exact .inr (List.mem_cons_of_mem _ h)
  ·rcases List.mem_cons.1 h with h | h
   ·exact .inr (h ▸ List.mem_cons_self ..)
   ·rcases ih h with h | h
    ·exact .inl h
    ·exact .inr (List.mem_cons_of_mem _ h)
theorem Zac {m:List (κ × ν)} {k : κ} (v : ν) (h:JB m k = none):Xr m k v = m ++ [(k,v)]:=by
 induction m with
 | nil=>rfl
 | cons p m ih=>
  unfold JB at h;split at h
  ·cases h
  ·rename_i e;simp [Xr,e,ih h]
theorem ZeL {m:List (κ × ν)} {k : κ} (v : ν):(Xr m k v).map (·.1) = if (JB m k).isSome then m.map (·.1) else m.map (·.1) ++ [k]:=by
 induction m with
 | nil=>rfl
 | cons p m ih=>
  unfold Xr JB;split
  ·rename_i e;simp [e]
  ·simp only [List.map_cons,ih];split <;> rfl
theorem Zab {m:List (κ × ν)} {j:Nat} {k : κ} {x : ν} (v : ν) (hn:(m.map (·.1)).Nodup) (h:m[j]? = some (k,x)):Xr m k v = m.set j (k,v) /\ JB m k = some x:=by
 induction m generalizing j with
 | nil=>simp at h
 | cons p m ih=>
  cases j with
  | zero=>simp at h;subst h;simp [Xr,JB]
  | succ j=>
   simp only [List.map_cons,List.nodup_cons] at hn;simp only [List.getElem?_cons_succ] at h;have hne:p.1 ≠ k:=fun e=>hn.1 (List.mem_map.2 ⟨(k,x),List.mem_of_getElem? h,e.symm⟩);obtain ⟨h1,h2⟩:=ih hn.2 h;simp [Xr,JB,hne,h1,h2]
end
section
variable {κ ν : Type} [DecidableEq κ] {P:Program} {K:TypeId} {ek : κ -> Value} {ev : ν -> Value} {w:World} {b:Nat} {m:List (κ × ν)}

structure MapIs (P:Program) (K:TypeId) (ek : κ -> Value) (ev : ν -> Value) (w:World) (b:Nat) (m:List (κ × ν)):Prop where
 block:∃ es clock,w.heap[b]? = some (.map es clock) /\ MapKept.Stamped es clock /\ es.toList.map (fun e=>(e.key,e.val)) = m.map (fun p=>(ek p.1,ev p.2))
 keys:∀ p ∈ m,∃ l,keyOf P K (ek p.1) = some l
def Inj (ek : κ -> Value):Prop:=∀ a b,ek a = ek b -> a = b
theorem MapIs.lt (h:MapIs P K ek ev w b m):b < w.heap.size:=by
 obtain ⟨es,c,hb,_⟩:=h.block;exact (Array.getElem?_eq_some_iff.1 hb).1
theorem MapIs.same {w':World} (h:MapIs P K ek ev w b m) (hb:w'.heap[b]? = w.heap[b]?):MapIs P K ek ev w' b m:=by
 obtain ⟨es,c,h1,h2⟩:=h.block;exact ⟨⟨es,c,hb.trans h1,h2⟩,h.keys⟩
theorem MapIs.below {w':World} (h:MapIs P K ek ev w b m) (hb:Below w.heap.size w w'):MapIs P K ek ev w' b m:=h.same (hb.block b h.lt)
theorem MapIs.grown {w':World} {row:Option Nat} (h:MapIs P K ek ev w b m) (hg:w.grownBy w' row) (hne:row ≠ some b):MapIs P K ek ev w' b m:=h.same (hg.block b h.lt (fun e=>hne e.symm))
theorem MapIs.made (P:Program) (K:TypeId) (ek : κ -> Value) (ev : ν -> Value) (w:World):MapIs P K ek ev (w.alloc (.map #[] 0)) w.heap.size []:=
 ⟨⟨#[],0,(MapKept.heap_alloc w _).1,MapKept.stamped_empty 0,rfl⟩,by simp⟩
theorem Yi {es:Array MapEntry} (hm:es.toList.map (fun e=>(e.key,e.val)) = m.map (fun p=>(ek p.1,ev p.2))) {j:Nat} {e0:MapEntry} (h:es.toList[j]? = some e0):∃ p,m[j]? = some p /\ e0.key = ek p.1 /\ e0.val = ev p.2:=by
 have:=congrArg (fun l=>l[j]?) hm;simp only [List.getElem?_map,h,Option.map_some] at this;cases hp:m[j]? with
 | none=>rw [hp] at this;simp at this
 | some p=>rw [hp] at this;simp at this;exact ⟨p,rfl,this.1,this.2⟩
theorem MapIs.nodup (h:MapIs P K ek ev w b m):(m.map (·.1)).Nodup:=by
 obtain ⟨es,c,h1,h2,h3⟩:=h.block;have hk:es.toList.map (·.key) = m.map (fun p=>ek p.1):=by
  have:=congrArg (List.map Prod.fst) h3;simpa [List.map_map,Function.comp_def] using this
 have hn:=h2.2.2;rw [hk] at hn;rw [List.Nodup,List.pairwise_map] at hn ⊢;exact hn.imp fun hne e=>hne (by rw [e])
theorem MapIs.size (h:MapIs P K ek ev w b m):∃ es clock,w.heap[b]? = some (.map es clock) /\ es.size = m.length:=by
 obtain ⟨es,c,h1,h2,h3⟩:=h.block;refine ⟨es,c,h1,?_⟩;have:=congrArg List.length h3;simpa using this
theorem Zb (hk:∀ p ∈ m,∃ l,keyOf P K (ek p.1) = some l) {es:Array MapEntry} (hm:es.toList.map (fun e=>(e.key,e.val)) = m.map (fun p=>(ek p.1,ev p.2))):∀ e ∈ es.toList,∃ l,keyOf P K e.key = some l:=fun e he=>by
 obtain ⟨j,hj⟩:=List.mem_iff_getElem?.1 he;obtain ⟨p,hp,h1,_⟩:=Yi hm hj;rw [h1];exact hk p (List.mem_of_getElem? hp)
theorem MapIs.lookup {t e:TypeId} (h:MapIs P K ek ev w b m) (KY:Keyed P K) (inj:Inj ek) (ht:P.underlying t = some (.map K e)) {z:Value} (hz:(zeroValue e).run P w = .ok z w) (key : κ) {l:Lit} (hk:keyOf P K (ek key) = some l) :
  (Instr.lookup t (.map (some b)) (ek key) false).run P w = .ok (((JB m key).map ev).getD z) w:=by
 obtain ⟨es,c,h1,h2,h3⟩:=h.block;rcases KY.find w hk es.toList (Zb h.keys h3) with ⟨f1,f2⟩ | ⟨j,e0,f1,f2,f3⟩
 ·have hn:JB m key = none:=XS.2 fun p hp e=>by
   obtain ⟨j,hj⟩:=List.mem_iff_getElem?.1 hp;have:=congrArg (fun l=>l[j]?) h3;simp only [List.getElem?_map,hj,Option.map_some] at this;cases he:es.toList[j]? with
   | none=>rw [he] at this;simp at this
   | some x=>rw [he] at this;simp at this;exact f2 x (List.mem_of_getElem? he) (by rw [this.1,e])
  rw [hn];simp [Instr.lookup,run_underlying ht,MapKept.run_getObj_map h1,KY.check w _ hk,f1,hz,Result.andThen]
 ·obtain ⟨p,hp,q1,q2⟩:=Yi h3 f2;have ep:p.1 = key:=inj _ _ (q1.symm.trans f3);have hg:=(Zab p.2 h.nodup (show m[j]? = some (key,p.2) by rw [hp,<- ep])).2;rw [hg];simp [Instr.lookup,run_underlying ht,MapKept.run_getObj_map h1,KY.check w _ hk,f1,q2,Result.andThen]
theorem Q4 {es:Array MapEntry} {key : κ} {val : ν} {clock:Nat} (hm:es.toList.map (fun e=>(e.key,e.val)) = m.map (fun p=>(ek p.1,ev p.2))) (hn:JB m key = none) :
  (es.push ⟨ek key,ev val,clock⟩).toList.map (fun e=>(e.key,e.val)) = (Xr m key val).map (fun p=>(ek p.1,ev p.2)):=by
 rw [Zac val hn];simp [hm]
theorem Qx {es:Array MapEntry} {key : κ} {val : ν} {j:Nat} {e0:MapEntry} {x : ν} (hm:es.toList.map (fun e=>(e.key,e.val)) = m.map (fun p=>(ek p.1,ev p.2))) (hj:es.toList[j]? = some e0) (hp:m[j]? = some (key,x)) (hnd:(m.map (·.1)).Nodup) (f:MapEntry -> MapEntry) (hf1:(f e0).key = ek key) (hf2:(f e0).val = ev val) :
  (es.modify j f).toList.map (fun e=>(e.key,e.val)) = (Xr m key val).map (fun p=>(ek p.1,ev p.2)):=by
 rw [(Zab val hnd hp).1,Array.toList_modify,ChangeMaps.modify_eq_set _ _ _ _ hj,List.map_set,List.map_set,hm,hf1,hf2]
theorem Vg {key : κ} {val : ν} (hk:∀ p ∈ m,∃ l,keyOf P K (ek p.1) = some l) {l:Lit} (hkey:keyOf P K (ek key) = some l):∀ p ∈ Xr m key val,∃ l,keyOf P K (ek p.1) = some l:=fun p hp=>by
 rcases XL hp with rfl | h
 ·exact ⟨l,hkey⟩
 ·exact hk p h
theorem JQ {es es':Array MapEntry} {c c':Nat} (hb:w.heap[b]? = some (.map es c)):w.grownBy (setBlock w b (.map es' c')) (some b):=
 ⟨rfl,rfl,rfl,by simp [setBlock],fun i _ hi=>heap_setBlock_other hb _ (fun e=>hi (by rw [e]))⟩
theorem MapIs.update {t e:TypeId} (h:MapIs P K ek ev w b m) (KY:Keyed P K) (inj:Inj ek) (ht:P.underlying t = some (.map K e)) (key : κ) (val : ν) {l:Lit} (hk:keyOf P K (ek key) = some l) :
  ∃ w',(Instr.mapUpdate t (.map (some b)) (ek key) (ev val)).run P w = .ok () w' /\ MapIs P K ek ev w' b (Xr m key val) /\ w.grownBy w' (some b):=by
 obtain ⟨es,c,h1,h2,h3⟩:=h.block;rcases KY.find w hk es.toList (Zb h.keys h3) with ⟨f1,f2⟩ | ⟨j,e0,f1,f2,f3⟩
 ·have hn:JB m key = none:=XS.2 fun p hp e=>by
   obtain ⟨j,hj⟩:=List.mem_iff_getElem?.1 hp;have:=congrArg (fun l=>l[j]?) h3;simp only [List.getElem?_map,hj,Option.map_some] at this;cases he:es.toList[j]? with
   | none=>rw [he] at this;simp at this
   | some x=>rw [he] at this;simp at this;exact f2 x (List.mem_of_getElem? he) (by rw [this.1,e])
  refine ⟨setBlock w b (.map (es.push ⟨ek key,ev val,c⟩) (c + 1)),by simp [Instr.mapUpdate,run_underlying ht,MapKept.run_getObj_map h1,KY.check w false hk,f1,MapKept.run_setObj_map _ h1,Result.andThen,setBlock],⟨⟨_,_,heap_setBlock_same h1 _,MapKept.stamped_push h2 f2,Q4 h3 hn⟩,Vg h.keys hk⟩,JQ h1⟩
 ·obtain ⟨p,hp,q1,q2⟩:=Yi h3 f2;have ep:p.1 = key:=inj _ _ (q1.symm.trans f3);have hp':m[j]? = some (key,p.2):=by rw [hp,<- ep]
  have hj:es[j]? = some e0:=by simpa using f2
  refine ⟨setBlock w b (.map (es.modify j fun e=>{ e with key:=ek key,val:=ev val }) c),by simp [Instr.mapUpdate,run_underlying ht,MapKept.run_getObj_map h1,KY.check w false hk,f1,hj,f3,KY.stays w hk,MapKept.run_setObj_map _ h1,Result.andThen,setBlock],⟨⟨_,_,heap_setBlock_same h1 _,MapKept.stamped_modify h2 j _ (fun _ _=>rfl) (fun x _ hx=>by rw [hj] at hx;cases hx;exact f3.symm),Qx h3 f2 hp' h.nodup _ rfl rfl⟩,Vg h.keys hk⟩,JQ h1⟩
end
end Go
namespace Go
open Go.ChangeMaps (setBlock heap_setBlock_same heap_setBlock_other)
open Go.Maps (Keyed)
open Go.RowKit
set_option linter.unusedSectionVars false
section
variable {κ ν : Type} [DecidableEq κ] {P:Program} {K:TypeId} {ek : κ -> Value} {ev : ν -> Value} {w:World} {b r:Nat} {m:List (κ × ν)} {idx:List Nat}

structure MapIt (P:Program) (K:TypeId) (ek : κ -> Value) (ev : ν -> Value) (w:World) (b r:Nat) (m:List (κ × ν)) (idx:List Nat):Prop where
 st:∃ es clock since seen c0,w.heap[b]? = some (.map es clock) /\ MapKept.Stamped es clock /\ es.toList.map (fun e=>(e.key,e.val)) = m.map (fun p=>(ek p.1,ev p.2)) /\
  w.heap[r]? = some (.mapIter (some b) since seen c0) /\ (∀ x ∈ es.toList,x.born < since) /\ since <= c0 /\ since <= clock /\ seen.toList.map some = idx.map (fun i=>es.toList[i]?.map (·.born))
 nodup:idx.Nodup
 lt:∀ i ∈ idx,i < m.length
 keys:∀ p ∈ m,∃ l,keyOf P K (ek p.1) = some l
def Zy (w:World) (b r:Nat):Nat:=match w.heap[b]?,w.heap[r]? with
 | some (.map es _),some (.mapIter _ _ seen _)=>es.size - seen.size
 | _,_=>0
def YJ {α:Type} (m:List α) (d : α) (idx:List Nat):List α:=idx.map fun i=>m[i]?.getD d
theorem MapIt.left_eq (h:MapIt P K ek ev w b r m idx):Zy w b r = m.length - idx.length:=by
 obtain ⟨es,c,s,seen,c0,h1,h2,h3,h4,h5,h6,hc,h7⟩:=h.st;unfold Zy;rw [h1,h4];have e1:=congrArg List.length h3;have e2:=congrArg List.length h7;simp at e1 e2;simp only;omega
theorem Z4:∀ (n:Nat) (l:List Nat),l.Nodup -> (∀ i ∈ l,i < n) -> l.length <= n
 | 0,l,_,h=>by
  cases l with
  | nil=>simp
  | cons x l=>exact absurd (h x (List.mem_cons_self ..)) (Nat.not_lt_zero _)
 | n + 1,l,hn,h=>by
  by_cases hm:n ∈ l
  ·have h1:=Z4 n (l.erase n) (hn.erase n) (fun i hi=>by
    have h2:=h i (List.mem_of_mem_erase hi);have h3:i ≠ n:=fun e=>by subst e;exact (List.Nodup.not_mem_erase hn) hi
    omega)
   rw [List.length_erase_of_mem hm] at h1;omega
  ·have h1:=Z4 n l hn (fun i hi=>by
    have h2:=h i hi;have h3:i ≠ n:=fun e=>hm (e ▸ hi);omega)
   omega
theorem MapIt.len_le (h:MapIt P K ek ev w b r m idx):idx.length <= m.length:=Z4 _ _ h.nodup h.lt
theorem MapIt.ltb (h:MapIt P K ek ev w b r m idx):b < w.heap.size /\ r < w.heap.size:=by
 obtain ⟨es,c,s,seen,c0,h1,h2,h3,h4,_⟩:=h.st;exact ⟨(Array.getElem?_eq_some_iff.1 h1).1,(Array.getElem?_eq_some_iff.1 h4).1⟩
theorem MapIt.same {w':World} (h:MapIt P K ek ev w b r m idx) (hb:w'.heap[b]? = w.heap[b]?) (hr:w'.heap[r]? = w.heap[r]?):MapIt P K ek ev w' b r m idx:=by
 obtain ⟨es,c,s,seen,c0,h1,h2,h3,h4,h5⟩:=h.st;exact ⟨⟨es,c,s,seen,c0,hb.trans h1,h2,h3,hr.trans h4,h5⟩,h.nodup,h.lt,h.keys⟩
theorem MapIt.below {w':World} (h:MapIt P K ek ev w b r m idx) (hb:Below w.heap.size w w'):MapIt P K ek ev w' b r m idx:=h.same (hb.block b h.ltb.1) (hb.block r h.ltb.2)
theorem MapIs.range {t e:TypeId} (h:MapIs P K ek ev w b m) (ht:P.underlying t = some (.map K e)) :
  ∃ o,(Instr.range t (.map (some b))).run P w = .ok (.pointer (some ⟨w.heap.size,0,none⟩)) (w.alloc o) /\ MapIt P K ek ev (w.alloc o) b w.heap.size m []:=by
 obtain ⟨es,c,h1,h2,h3⟩:=h.block;have hlt:=h.lt;refine ⟨_,run_range_map w t K e b es c ht h1,⟨es,c,c,#[],c,?_,h2,h3,?_,h2.1,Nat.le_refl _,Nat.le_refl _,rfl⟩,by simp,by simp,h.keys⟩
 ·rw [(MapKept.heap_alloc w _).2 b hlt];exact h1
 ·exact (MapKept.heap_alloc w _).1
theorem ZgE {n:Nat} {idx:List Nat} (hn:idx.Nodup) (hl:∀ i ∈ idx,i < n) (ha:∀ i,i < n -> i ∈ idx):idx.Perm (List.range n):=by
 rw [List.perm_ext_iff_of_nodup hn List.nodup_range];exact fun i=>⟨fun h=>List.mem_range.2 (hl i h),fun h=>ha i (List.mem_range.1 h)⟩
theorem Zfi {α:Type} {m:List α} {d : α} {idx:List Nat} (h:idx.Perm (List.range m.length)):(YJ m d idx).Perm m:=by
 refine (h.map _).trans ?_;have e:(List.range m.length).map (fun i=>m[i]?.getD d) = m:=by
  apply List.ext_getElem (by simp);intro i h1 h2;simp [List.getElem?_eq_getElem h2]
 rw [e]
theorem MapIt.next (h:MapIt P K ek ev w b r m idx) (d : κ × ν) (ty:TypeId) :
  ((YJ m d idx).Perm m /\ (Instr.next (.pointer (some ⟨r,0,none⟩)) false ty).run P w = .ok (.tuple #[.bool false]) w) ∨
  ∃ i w',i < m.length /\ i ∉ idx /\ (Instr.next (.pointer (some ⟨r,0,none⟩)) false ty).run P w = .ok (.tuple #[.bool true,ek (m[i]?.getD d).1,ev (m[i]?.getD d).2]) w' /\ MapIt P K ek ev w' b r m (idx ++ [i]) /\
   (Instr.entry (.pointer (some ⟨r,0,none⟩))).run P w' = .ok (.tuple #[ek (m[i]?.getD d).1,ev (m[i]?.getD d).2]) w' /\ w.grownBy w' (some r) /\ w'.heap.size = w.heap.size:=by
 obtain ⟨es,c,s,seen,c0,h1,h2,h3,h4,h5,h6,hc,h7⟩:=h.st;have hsz:es.toList.length = m.length:=by have:=congrArg List.length h3;simpa using this
 have hseen:∀ x,x ∈ seen.toList -> ∃ i ∈ idx,es.toList[i]?.map (·.born) = some x:=fun x hx=>by
  have:some x ∈ idx.map (fun i=>es.toList[i]?.map (·.born)):=by rw [<- h7];exact List.mem_map_of_mem hx
  obtain ⟨i,hi,e⟩:=List.mem_map.1 this;exact ⟨i,hi,e⟩
 have hnb:∀ (i j:Nat) (x:Nat),es.toList[i]?.map (fun e:MapEntry=>e.born) = some x -> es.toList[j]?.map (fun e:MapEntry=>e.born) = some x -> i = j:=fun i j x hi hj=>by
  have hn:=h2.2.1;rw [<- List.getElem?_map] at hi hj;obtain ⟨l1,e1⟩:=List.getElem?_eq_some_iff.1 hi;obtain ⟨l2,e2⟩:=List.getElem?_eq_some_iff.1 hj;rw [List.Nodup,List.pairwise_iff_getElem] at hn;rcases Nat.lt_trichotomy i j with h | h | h
  ·exact absurd (e1.trans e2.symm) (hn i j l1 l2 h)
  ·exact h
  ·exact absurd (e2.trans e1.symm) (hn j i l2 l1 h)
 have hbr:b ≠ r:=fun e=>by rw [e,h4] at h1;cases h1
 rcases run_next_at w ty r b s c0 seen es c h4 h1 h5 h6 with ⟨f1,f2⟩ | ⟨e0,f1,w1,f2,f3⟩
 ·refine .inl ⟨Zfi (ZgE h.nodup h.lt fun i hi=>?_),f2⟩;have hi':i < es.toList.length:=by omega
  have hin:seen.contains es.toList[i].born = true:=by
   apply Decidable.byContradiction;intro hne;have hm:es.toList[i] ∈ (leftOf es seen).toList:=by
    unfold leftOf;rw [Array.toList_filter,List.mem_filter];exact ⟨List.getElem_mem hi',by simpa using hne⟩
   have:(leftOf es seen).toList = []:=by
    apply List.eq_nil_of_length_eq_zero;simpa using f1
   rw [this] at hm;cases hm
  have hmem:es.toList[i].born ∈ seen.toList:=by
   simpa using hin
  obtain ⟨j,hj,ej⟩:=hseen _ hmem;have:=hnb i j _ (by rw [List.getElem?_eq_getElem hi'];rfl) ej;rw [this];exact hj
 ·unfold leftOf at f1;rw [Array.toList_filter,List.mem_filter] at f1;obtain ⟨g1,g2⟩:=f1;obtain ⟨i,hi⟩:=List.mem_iff_getElem?.1 g1;obtain ⟨p,hp,q1,q2⟩:=Yi h3 hi;have hlt:i < m.length:=(List.getElem?_eq_some_iff.1 hp).1;have hr1:w1.heap[r]? = some (.mapIter (some b) s seen c0):=by rcases f2 with rfl | rfl <;> exact h4
  have hb1:w1.heap[b]? = some (.map es c):=by rcases f2 with rfl | rfl <;> exact h1
  have hni:i ∉ idx:=fun hin=>by
   have:some e0.born ∈ seen.toList.map some:=(by rw [h7];exact List.mem_map.2 ⟨i,hin,by rw [hi];rfl⟩);obtain ⟨x,hx,e⟩:=List.mem_map.1 this;cases e;have hc:seen.contains e0.born = true:=(by simpa using hx);rw [hc] at g2;simp at g2
  have hrs:r < w1.heap.size:=(Array.getElem?_eq_some_iff.1 hr1).1;have hr2:(setBlock w1 r (.mapIter (some b) s (seen.push e0.born) c)).heap[r]? = some (.mapIter (some b) s (seen.push e0.born) c):=by simp [setBlock,hrs]
  have hb2:(setBlock w1 r (.mapIter (some b) s (seen.push e0.born) c)).heap[b]? = some (.map es c):=by
   have:(setBlock w1 r (.mapIter (some b) s (seen.push e0.born) c)).heap[b]? = w1.heap[b]?:=(by simp [setBlock,Ne.symm hbr]);rw [this];exact hb1
  have hgb:w.grownBy (setBlock w1 r (.mapIter (some b) s (seen.push e0.born) c)) (some r):=by
   rcases f2 with rfl | rfl
   ·exact ⟨rfl,rfl,rfl,by simp [setBlock],fun k _ hk=>by have:k ≠ r:=fun e=>hk (by rw [e]);simp [setBlock,Ne.symm this]⟩
   ·exact ⟨rfl,rfl,rfl,by simp [setBlock],fun k _ hk=>by have:k ≠ r:=fun e=>hk (by rw [e]);simp [setBlock,Ne.symm this];rfl⟩
  have hsw:(setBlock w1 r (.mapIter (some b) s (seen.push e0.born) c)).heap.size = w.heap.size:=by rcases f2 with rfl | rfl <;> simp [setBlock]
  refine .inr ⟨i,_,hlt,hni,?_,⟨⟨es,c,s,seen.push e0.born,c,hb2,h2,h3,hr2,h5,hc,hc,?_⟩,?_,?_,h.keys⟩,?_,hgb,hsw⟩
  ·rw [f3,hp,q1,q2];rfl
  ·rw [Array.toList_push,List.map_append,List.map_append,h7];refine congrArg _ ?_;show [some e0.born] = [Option.map (fun e:MapEntry=>e.born) es.toList[i]?];rw [hi];rfl
  ·exact List.nodup_append.2 ⟨h.nodup,by simp,fun a ha c hc=>by rw [List.mem_singleton] at hc;subst hc;exact fun e=>hni (e ▸ ha)⟩
  ·intro j hj;rcases List.mem_append.1 hj with hj | hj
   ·exact h.lt j hj
   ·rw [List.mem_singleton] at hj;subst hj;exact hlt
  ·have:=run_entry_at (P:=P) _ r b s seen es c e0 hr2 hb2 g1 h2.2.1;rw [this,hp,q1,q2];rfl
end
end Go
namespace Go
open Go.ChangeMaps (setBlock heap_setBlock_same heap_setBlock_other)
open Go.Maps (Keyed)
open Go.RowKit
set_option linter.unusedSectionVars false
section
variable {κ ν : Type} [DecidableEq κ] {P:Program} {K:TypeId} {ek : κ -> Value} {ev : ν -> Value} {w:World} {b:Nat} {m:List (κ × ν)}
theorem YW {t e:TypeId} (KY:Keyed P K) (ht:P.underlying t = some (.map K e)) {u:World} {es:Array MapEntry} {clock:Nat} (hb:u.heap[b]? = some (.map es clock)) (hs:MapKept.Stamped es clock) {j:Nat} {e0:MapEntry} (hj:es.toList[j]? = some e0) {l:Lit} (hk:keyOf P K e0.key = some l) (hkeys:∀ e ∈ es.toList,∃ l,keyOf P K e.key = some l) :
  (Instr.mapEntry t (.map (some b)) e0.key).run P u = .ok (.tuple #[e0.val,goInt e0.born]) (setBlock u b (.map es clock)) /\
  ∀ v,(Instr.entryStore t (.map (some b)) (goInt e0.born) v).run P u = .ok () (setBlock u b (.map (es.modify j fun x=>{ x with val:=v }) clock)):=by
 have hn:=hs.2.2;rcases KY.find u hk es.toList hkeys with ⟨f1,f2⟩ | ⟨j',e1,f1,f2,f3⟩
 ·exact absurd rfl (f2 e0 (List.mem_of_getElem? hj))
 ·have hjj:j' = j:=by
   rw [List.Nodup,List.pairwise_map,List.pairwise_iff_getElem] at hn;obtain ⟨l1,e1'⟩:=List.getElem?_eq_some_iff.1 hj;obtain ⟨l2,e2'⟩:=List.getElem?_eq_some_iff.1 f2;rcases Nat.lt_trichotomy j' j with h | h | h
   ·exact absurd (by rw [e1',e2',f3]) (hn j' j l2 l1 h)
   ·exact h
   ·exact absurd (by rw [e1',e2',f3]) (hn j j' l1 l2 h)
  subst hjj;rw [hj] at f2;cases f2;have hj2:es[j']? = some e0:=by simpa using hj
  have sm:es.modify j' (fun e=>{ e with key:=e0.key }) = es:=by
   apply Array.ext';rw [Array.toList_modify,ChangeMaps.modify_eq_set _ _ _ _ hj];exact WideElems.set_self _ _ _ hj
  refine ⟨by simp [Instr.mapEntry,run_underlying ht,MapKept.run_getObj_map hb,KY.check u false hk,f1,hj2,KY.stays u hk,sm,MapKept.run_setObj_map _ hb,Result.andThen,setBlock],fun v=>?_⟩;have hidx:es.findIdx? (fun e=>((e.born:Nat):Int) == ((e0.born:Nat):Int)) = some j':=by
   rw [WideElems.findIdx_arr];exact WideElems.findIdx_born hs.2.1 hj
  simp [Instr.entryStore,MapKept.run_getObj_map hb,asInt,asIntOf,goInt,hidx,MapKept.run_setObj_map _ hb,Result.andThen,setBlock]
theorem MapIs.entry2 {t e:TypeId} (h:MapIs P K ek ev w b m) (KY:Keyed P K) (inj:Inj ek) (ht:P.underlying t = some (.map K e)) {z : ν} (hz:∀ u,(zeroValue e).run P u = .ok (ev z) u) (key : κ) {l:Lit} (hk:keyOf P K (ek key) = some l) :
  ∃ (st:Nat) (o1:Obj),(∃ es c,o1 = .map es c) /\ (∀ u:World,(u.heap[b]? = w.heap[b]? ∨ u.heap[b]? = some o1) -> (Instr.lookup t (.map (some b)) (ek key) false).run P u = .ok (ev ((JB m key).getD z)) u /\
    (Instr.mapEntry t (.map (some b)) (ek key)).run P u = .ok (.tuple #[ev ((JB m key).getD z),goInt st]) (setBlock u b o1)) /\
   ∀ (u:World) (val : ν),u.heap[b]? = some o1 -> ∃ o2,(∃ es c,o2 = .map es c) /\ (Instr.entryStore t (.map (some b)) (goInt st) (ev val)).run P u = .ok () (setBlock u b o2) /\ ∀ u':World,u'.heap[b]? = some o2 -> MapIs P K ek ev u' b (Xr m key val):=by
 have look:∀ (u:World) (m':List (κ × ν)),MapIs P K ek ev u b m' -> (Instr.lookup t (.map (some b)) (ek key) false).run P u = .ok (ev ((JB m' key).getD z)) u:=fun u m' hu=>by
  have:=hu.lookup KY inj ht (hz u) key hk;rw [this];cases JB m' key <;> rfl
 obtain ⟨es,clock,h1,h2,h3⟩:=h.block;rcases KY.find w hk es.toList (Zb h.keys h3) with ⟨f1,f2⟩ | ⟨j,e0,f1,f2,f3⟩
 ·have hn:JB m key = none:=XS.2 fun p hp e=>by
   obtain ⟨j,hj⟩:=List.mem_iff_getElem?.1 hp;have:=congrArg (fun l=>l[j]?) h3;simp only [List.getElem?_map,hj,Option.map_some] at this;cases he:es.toList[j]? with
   | none=>rw [he] at this;simp at this
   | some x=>rw [he] at this;simp at this;exact f2 x (List.mem_of_getElem? he) (by rw [this.1,e])
  have hst1:=MapKept.stamped_push (val:=ev z) h2 f2;have hp1:=Q4 (ek:=ek) (ev:=ev) (key:=key) (val:=z) (clock:=clock) h3 hn;have hks1:∀ p ∈ Xr m key z,∃ l,keyOf P K (ek p.1) = some l:=Vg h.keys hk;have hlast:(es.push ⟨ek key,ev z,clock⟩).toList[es.toList.length]? = some ⟨ek key,ev z,clock⟩:=by simp
  refine ⟨clock,.map (es.push ⟨ek key,ev z,clock⟩) (clock + 1),⟨_,_,rfl⟩,fun u hu=>?_,fun u val hu=>?_⟩
  ·rcases hu with hu | hu
   ·refine ⟨look u m (h.same hu),?_⟩;rw [hn];have hb:=hu.trans h1;rcases KY.find u hk es.toList (Zb h.keys h3) with ⟨g1,_⟩ | ⟨j,e0,_,g2,g3⟩
    ·simp [Instr.mapEntry,run_underlying ht,MapKept.run_getObj_map hb,KY.check u false hk,g1,hz,MapKept.run_setObj_map _ hb,Result.andThen,setBlock]
    ·exact absurd g3 (f2 e0 (List.mem_of_getElem? g2))
   ·have hm1:MapIs P K ek ev u b (Xr m key z):=⟨⟨_,_,hu,hst1,hp1⟩,hks1⟩;refine ⟨?_,?_⟩
    ·rw [look u _ hm1,JJ,hn];rfl
    ·rw [hn];exact (YW KY ht hu hst1 hlast hk (Zb hks1 hp1)).1
  ·refine ⟨_,⟨_,_,rfl⟩,(YW KY ht hu hst1 hlast hk (Zb hks1 hp1)).2 (ev val),fun u' hu'=>⟨⟨_,_,hu',?_,?_⟩,Vg h.keys hk⟩⟩
   ·exact MapKept.stamped_modify hst1 _ _ (fun _ _=>rfl) (fun _ _ _=>rfl)
   ·have e:(es.push ⟨ek key,ev z,clock⟩).modify es.toList.length (fun e=>{ e with val:=ev val }) = es.push ⟨ek key,ev val,clock⟩:=by
     apply Array.ext';rw [Array.toList_modify,Array.toList_push,Array.toList_push,WideElems.modify_last]
    rw [e];exact Q4 h3 hn
 ·obtain ⟨p,hp,q1,q2⟩:=Yi h3 f2;have ep:p.1 = key:=inj _ _ (q1.symm.trans f3);have hp':m[j]? = some (key,p.2):=by rw [hp,<- ep]
  have hg:=(Zab p.2 h.nodup hp').2;have hfk:keyOf P K e0.key = some l:=by rw [f3];exact hk
  have hold:∀ u:World,(u.heap[b]? = w.heap[b]? ∨ u.heap[b]? = some (.map es clock)) -> u.heap[b]? = w.heap[b]?:=fun u hu=>by
   rcases hu with hu | hu
   ·exact hu
   ·rw [hu,h1]
  refine ⟨e0.born,.map es clock,⟨_,_,rfl⟩,fun u hu=>?_,fun u val hu=>?_⟩
  ·have hu':=hold u hu;refine ⟨look u m (h.same hu'),?_⟩;have:=(YW KY ht (hu'.trans h1) h2 f2 hfk (Zb h.keys h3)).1;rw [f3,q2] at this;rw [this,hg];rfl
  ·have:=(YW KY ht hu h2 f2 hfk (Zb h.keys h3)).2 (ev val);refine ⟨_,⟨_,_,rfl⟩,this,fun u' hu'=>⟨⟨_,_,hu',MapKept.stamped_modify h2 j _ (fun _ _=>rfl) (fun _ _ _=>rfl),Qx h3 f2 hp' h.nodup _ f3 rfl⟩,Vg h.keys hk⟩⟩
end
end Go
