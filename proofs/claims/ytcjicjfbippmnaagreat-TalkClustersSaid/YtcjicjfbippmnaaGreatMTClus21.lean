/- TalkClusters -/
import Derived.Test.YtcjicjfbippmnaaGreatMTClus20
set_option maxRecDepth 100000
set_option maxHeartbeats 32000000
namespace Go
open Go.ChangeMaps (setBlock heap_setBlock_same heap_setBlock_other)
open Go.Maps (Keyed)
open Go.RowKit
set_option linter.unusedSectionVars false
section
variable {κ ν : Type} [DecidableEq κ] {P:Program} {K:TypeId} {ek : κ -> Value} {ev : ν -> Value} {w:World} {b:Nat} {m:List (κ × ν)}
theorem YZ {t e:TypeId} (KY:Keyed P K) (ht:P.underlying t = some (.map K e)) {u:World} {es:Array MapEntry} {clock:Nat} (hb:u.heap[b]? = some (.map es clock)) (hs:MapKept.Stamped es clock) {j:Nat} {e0:MapEntry} (hj:es.toList[j]? = some e0) {l:Lit} (hk:keyOf P K e0.key = some l) (hkeys:∀ e ∈ es.toList,∃ l,keyOf P K e.key = some l) :
  (Instr.mapEntry t (.map (some b)) e0.key).run P u = .ok (.tuple #[e0.val,goInt e0.born]) (setBlock u b (.map es clock)) /\
  ∀ v,(Instr.entryStore t (.map (some b)) (goInt e0.born) v).run P u = .ok () (setBlock u b (.map (es.modify j fun x=>{ x with val:=v }) clock)):=by
 have hn:=hs.2.2;rcases KY.find u hk es.toList hkeys with ⟨f1,f2⟩ | ⟨j',e1,f1,f2,f3⟩
 ·exact absurd rfl (f2 e0 (List.mem_of_getElem? hj))
 ·have hjj:j' = j:=by
   rw [List.Nodup,List.pairwise_map,List.pairwise_iff_getElem] at hn;obtain ⟨l1,e1'⟩:=List.getElem?_eq_some_iff.1 hj;obtain ⟨l2,e2'⟩:=List.getElem?_eq_some_iff.1 f2;rcases Nat.lt_trichotomy j' j with h | h | h
   ·exact absurd (by rw [e1',e2',f3]) (hn j' j l2 l1 h)
   ·exact h
   ·exact absurd (by rw [e1',e2',f3]) (hn j j' l1 l2 h)
  subst hjj;rw [hj] at f2;cases f2;have hj2:es[j']? = some e0:=by simpa using hj
  have sm:es.modify j' (fun e=>{ e with key:=e0.key }) = es:=by
   apply Array.ext';rw [Array.toList_modify,ChangeMaps.modify_eq_set _ _ _ _ hj];exact WideElems.set_self _ _ _ hj
  refine ⟨by simp [Instr.mapEntry,run_underlying ht,MapKept.run_getObj_map hb,KY.check u false hk,f1,hj2,KY.stays u hk,sm,MapKept.run_setObj_map _ hb,Result.andThen,setBlock],fun v=>?_⟩;have hidx:es.findIdx? (fun e=>((e.born:Nat):Int) == ((e0.born:Nat):Int)) = some j':=by
   rw [WideElems.findIdx_arr];exact WideElems.findIdx_born hs.2.1 hj
  simp [Instr.entryStore,MapKept.run_getObj_map hb,asInt,asIntOf,goInt,hidx,MapKept.run_setObj_map _ hb,Result.andThen,setBlock]
theorem MapIs.entry2 {t e:TypeId} (h:MapIs P K ek ev w b m) (KY:Keyed P K) (inj:Inj ek) (ht:P.underlying t = some (.map K e)) {z : ν} (hz:∀ u,(zeroValue e).run P u = .ok (ev z) u) (key : κ) {l:Lit} (hk:keyOf P K (ek key) = some l) :
  ∃ (st:Nat) (o1:Obj),(∃ es c,o1 = .map es c) /\ (∀ u:World,(u.heap[b]? = w.heap[b]? ∨ u.heap[b]? = some o1) -> (Instr.lookup t (.map (some b)) (ek key) false).run P u = .ok (ev ((J3 m key).getD z)) u /\
    (Instr.mapEntry t (.map (some b)) (ek key)).run P u = .ok (.tuple #[ev ((J3 m key).getD z),goInt st]) (setBlock u b o1)) /\
   ∀ (u:World) (val : ν),u.heap[b]? = some o1 -> ∃ o2,(∃ es c,o2 = .map es c) /\ (Instr.entryStore t (.map (some b)) (goInt st) (ev val)).run P u = .ok () (setBlock u b o2) /\ ∀ u':World,u'.heap[b]? = some o2 -> MapIs P K ek ev u' b (YW m key val):=by
 have look:∀ (u:World) (m':List (κ × ν)),MapIs P K ek ev u b m' -> (Instr.lookup t (.map (some b)) (ek key) false).run P u = .ok (ev ((J3 m' key).getD z)) u:=fun u m' hu=>by
  have:=hu.lookup KY inj ht (hz u) key hk;rw [this];cases J3 m' key <;> rfl
 obtain ⟨es,clock,h1,h2,h3⟩:=h.block;rcases KY.find w hk es.toList (Zi h.keys h3) with ⟨f1,f2⟩ | ⟨j,e0,f1,f2,f3⟩
 ·have hn:J3 m key = none:=Zg.2 fun p hp e=>by
   obtain ⟨j,hj⟩:=List.mem_iff_getElem?.1 hp;have:=congrArg (fun l=>l[j]?) h3;simp only [List.getElem?_map,hj,Option.map_some] at this;cases he:es.toList[j]? with
   | none=>rw [he] at this;simp at this
   | some x=>rw [he] at this;simp at this;exact f2 x (List.mem_of_getElem? he) (by rw [this.1,e])
  have hst1:=MapKept.stamped_push (val:=ev z) h2 f2;have hp1:=Zaa (ek:=ek) (ev:=ev) (key:=key) (val:=z) (clock:=clock) h3 hn;have hks1:∀ p ∈ YW m key z,∃ l,keyOf P K (ek p.1) = some l:=Ve h.keys hk;have hlast:(es.push ⟨ek key,ev z,clock⟩).toList[es.toList.length]? = some ⟨ek key,ev z,clock⟩:=by simp
  refine ⟨clock,.map (es.push ⟨ek key,ev z,clock⟩) (clock + 1),⟨_,_,rfl⟩,fun u hu=>?_,fun u val hu=>?_⟩
  ·rcases hu with hu | hu
   ·refine ⟨look u m (h.same hu),?_⟩;rw [hn];have hb:=hu.trans h1;rcases KY.find u hk es.toList (Zi h.keys h3) with ⟨g1,_⟩ | ⟨j,e0,_,g2,g3⟩
    ·simp [Instr.mapEntry,run_underlying ht,MapKept.run_getObj_map hb,KY.check u false hk,g1,hz,MapKept.run_setObj_map _ hb,Result.andThen,setBlock]
    ·exact absurd g3 (f2 e0 (List.mem_of_getElem? g2))
   ·have hm1:MapIs P K ek ev u b (YW m key z):=⟨⟨_,_,hu,hst1,hp1⟩,hks1⟩;refine ⟨?_,?_⟩
    ·rw [look u _ hm1,Va,hn];rfl
    ·rw [hn];exact (YZ KY ht hu hst1 hlast hk (Zi hks1 hp1)).1
  ·refine ⟨_,⟨_,_,rfl⟩,(YZ KY ht hu hst1 hlast hk (Zi hks1 hp1)).2 (ev val),fun u' hu'=>⟨⟨_,_,hu',?_,?_⟩,Ve h.keys hk⟩⟩
   ·exact MapKept.stamped_modify hst1 _ _ (fun _ _=>rfl) (fun _ _ _=>rfl)
   ·have e:(es.push ⟨ek key,ev z,clock⟩).modify es.toList.length (fun e=>{ e with val:=ev val }) = es.push ⟨ek key,ev val,clock⟩:=by
     apply Array.ext';rw [Array.toList_modify,Array.toList_push,Array.toList_push,WideElems.modify_last]
    rw [e];exact Zaa h3 hn
 ·obtain ⟨p,hp,q1,q2⟩:=Yj h3 f2;have ep:p.1 = key:=inj _ _ (q1.symm.trans f3);have hp':m[j]? = some (key,p.2):=by rw [hp,<- ep]
  have hg:=(Zac p.2 h.nodup hp').2;have hfk:keyOf P K e0.key = some l:=by rw [f3];exact hk
  have hold:∀ u:World,(u.heap[b]? = w.heap[b]? ∨ u.heap[b]? = some (.map es clock)) -> u.heap[b]? = w.heap[b]?:=fun u hu=>by
   rcases hu with hu | hu
   ·exact hu
   ·rw [hu,h1]
  refine ⟨e0.born,.map es clock,⟨_,_,rfl⟩,fun u hu=>?_,fun u val hu=>?_⟩
  ·have hu':=hold u hu;refine ⟨look u m (h.same hu'),?_⟩;have:=(YZ KY ht (hu'.trans h1) h2 f2 hfk (Zi h.keys h3)).1;rw [f3,q2] at this;rw [this,hg];rfl
  ·have:=(YZ KY ht hu h2 f2 hfk (Zi h.keys h3)).2 (ev val);refine ⟨_,⟨_,_,rfl⟩,this,fun u' hu'=>⟨⟨_,_,hu',MapKept.stamped_modify h2 j _ (fun _ _=>rfl) (fun _ _ _=>rfl),Qu h3 f2 hp' h.nodup _ f3 rfl⟩,Ve h.keys hk⟩⟩
end
end Go
namespace Go.Proofs.YtcjicjfbippmnaaGreat
open Go.RowKit Ear

structure SlM where
 nm:BA
 A:Option Addr
 c:Nat
 vs:List BA
 L:Fr
 S:Fr
def slc (s:SlM):List Value:=[.string s.nm,.slice s.A s.vs.length s.c,.bool s.L.neg,.slice s.L.A s.L.N.length s.L.c,.slice s.L.B s.L.D.length s.L.d,.bool s.S.neg,.slice s.S.A s.S.N.length s.S.c,.slice s.S.B s.S.D.length s.S.d]
abbrev sbs (l:List BA):List Value:=l.map Value.string
structure SlOk (w:World) (s:SlM) (p:PSl):Prop where
 nm:s.nm = p.nm
 vs:s.vs = p.vs
 lies:Lies w s.A (sbs s.vs)
 nil:s.A = none -> s.c = 0
 L:Fv w s.L p.le
 S:Fv w s.S p.su
 fL:Few s.L 90000
 fS:Few s.S 90000
theorem SlOk.below {w w':World} {s:SlM} {p:PSl} (h:SlOk w s p) (hb:Below w.heap.size w w'):SlOk w' s p:=⟨h.nm,h.vs,h.lies.below hb,h.nil,h.L.below hb,h.S.below hb,h.fL,h.fS⟩
def VQ (Ss:List SlM):List Value:=Ss.flatMap slc
theorem Yg (Ss:List SlM):(VQ Ss).length = Ss.length * 8:=by
 induction Ss with
 | nil=>rfl
 | cons x l ih=>simp only [VQ,List.flatMap_cons,List.length_append] at ih ⊢;rw [ih];simp [slc];omega
theorem Q3:∀ (Ss:List SlM) {k:Nat} (hk:k < Ss.length) (j:Nat),j < 8 -> (VQ Ss)[k * 8 + j]? = (slc Ss[k])[j]?
 | s :: l,0,_,j,hj=>by
  simp only [VQ,List.flatMap_cons,Nat.zero_mul,Nat.zero_add,List.getElem_cons_zero];exact List.getElem?_append_left (by simp [slc];exact hj)
 | s :: l,k + 1,hk,j,hj=>by
  have ih:=Q3 l (k:=k) (by simpa using hk) j hj;simp only [VQ,List.flatMap_cons,List.getElem_cons_succ] at ih ⊢;rw [List.getElem?_append_right (by simp [slc];omega),<- ih];congr 1;simp [slc];omega
structure PlM (w:World) (A:Option Addr) (Ss:List SlM) (Ps:List PSl):Prop where
 lies:Lies w A (VQ Ss)
 len:Ss.length = Ps.length
 ok:∀ (k:Nat) (s:SlM) (p:PSl),Ss[k]? = some s -> Ps[k]? = some p -> SlOk w s p
theorem PlM.below {w w':World} {A:Option Addr} {Ss:List SlM} {Ps:List PSl} (h:PlM w A Ss Ps) (hb:Below w.heap.size w w'):PlM w' A Ss Ps:=⟨h.lies.below hb,h.len,fun k s p h1 h2=>(h.ok k s p h1 h2).below hb⟩
theorem PlM.at_ {w:World} {A:Option Addr} {Ss:List SlM} {Ps:List PSl} (h:PlM w A Ss Ps) {k:Nat} (hk:k < Ss.length):∃ b off,A = some ⟨b,off,none⟩ /\ b < w.heap.size /\ ∀ (j:Nat) (v:Value),(slc Ss[k])[j]? = some v -> w.cell? ⟨b,off + k * 8 + j,none⟩ = some v:=by
 obtain ⟨b,off,e,hb,hc⟩:=h.lies (by rw [Yg];omega);refine ⟨b,off,e,hb,fun j v hv=>?_⟩;rw [Nat.add_assoc];refine hc _ _ ?_;have hj:j < 8:=by have:=(List.getElem?_eq_some_iff.1 hv).1;simpa [slc] using this
 rw [Q3 Ss hk j hj];exact hv
abbrev SM (w:World) (b:Nat) (l:List BA):Prop:=MapIs Tryz.prog 9 Value.string Value.bool w b (setM l)
theorem Zce (l:List BA) (k:BA):J3 (setM l) k = if k ∈ l then some true else none:=by
 induction l with
 | nil=>rfl
 | cons x l ih=>
  show (if x = k then some true else J3 (setM l) k) = _;by_cases h:x = k
  ·subst h;simp
  ·rw [if_neg h,ih];by_cases h2:k ∈ l
   ·rw [if_pos h2,if_pos (List.mem_cons_of_mem _ h2)]
   ·rw [if_neg h2,if_neg (fun h3=>by rcases List.mem_cons.1 h3 with h4 | h4;exact h h4.symm;exact h2 h4)]
theorem Zff {l:List BA} {k:BA} (h:k ∉ l):YW (setM l) k true = setM (l ++ [k]):=by
 rw [Zcl _ (by rw [Zce,if_neg h])];simp [setM]
theorem ZaI:Maps.Keyed Tryz.prog 9:=Maps.string_keyed Tryz.underlying9
theorem ZdB:Inj Value.string:=fun a b h=>by injection h
theorem ZdA {s:BA} (h:s.size <= maxLen):∃ l,keyOf Tryz.prog 9 (.string s) = some l:=⟨_,WideMaps.keyOf_string_mk (P:=Tryz.prog) Tryz.underlying9 h⟩
theorem toList_eq {s:BA} {l:List UInt8}:(s.toList == l) = decide (s = ⟨l.toArray⟩):=by
 rw [ByteArray.toList_eq];by_cases h:s = ⟨l.toArray⟩
 ·subst h;simp
 ·rw [dF h,beq_eq_false_iff_ne];intro e;apply h;cases s;simp only at e;subst e;simp
theorem SM.look {w:World} {b:Nat} {l:List BA} (h:SM w b l) (k:BA) (hk:k.size <= maxLen):(Instr.lookup 186 (.map (some b)) (.string k) false).run Tryz.prog w = .ok (.bool (decide (k ∈ l))) w:=by
 obtain ⟨kl,hkl⟩:=ZdA hk;have:=MapIs.lookup (e:=4) (z:=.bool false) h ZaI ZdB Tryz.underlying186 (by kernel_rfl) k hkl;rw [this,Zce];by_cases hm:k ∈ l
 ·simp [hm]
 ·simp [hm]
theorem SM.put {w:World} {b:Nat} {l:List BA} (h:SM w b l) {k:BA} (hk:k.size <= maxLen) (hn:k ∉ l):∃ w',(Instr.mapUpdate 186 (.map (some b)) (.string k) (.bool true)).run Tryz.prog w = .ok () w' /\ SM w' b (l ++ [k]) /\ w.grownBy w' (some b):=by
 obtain ⟨kl,hkl⟩:=ZdA hk;obtain ⟨w',h1,h2,h3⟩:=MapIs.update (e:=4) h ZaI ZdB Tryz.underlying186 k true hkl;rw [Zff hn] at h2;exact ⟨w',h1,h2,h3⟩
end Go.Proofs.YtcjicjfbippmnaaGreat
namespace Ear

def Zau (x y:Int):Int:=if x < y then -1 else if y < x then 1 else 0
def Xd:List Int -> List Int -> Int
 | [],[]=>0
 | [],_ :: _=>-1
 | _ :: _,[]=>1
 | x :: a,y :: b=>if Zau x y ≠ 0 then Zau x y else Xd a b
theorem Vq {x y:Int}:Zau x y = 0 ↔ x = y:=by unfold Zau;split;omega;split <;> omega
theorem YO:∀ {a b:List Int},Xd a b = 0 ↔ a = b
 | [],[]=>by simp [Xd]
 | [],_ :: _=>by simp [Xd]
 | _ :: _,[]=>by simp [Xd]
 | x :: a,y :: b=>by
  unfold Xd;split
  ·rename_i h;constructor
   ·intro e;exact absurd e h
   ·intro e;injection e with e1 _;exact absurd (Vq.2 e1) h
  ·rename_i h;have h':x = y:=Vq.1 (by omega);rw [YO (a:=a) (b:=b),h'];simp
theorem Um:∀ (a b:List Int),Xd a b = -Xd b a
 | [],[]=>rfl
 | [],_ :: _=>rfl
 | _ :: _,[]=>rfl
 | x :: a,y :: b=>by
  unfold Xd;rw [Um a b];have:Zau x y = -Zau y x:=by unfold Zau;split <;> split <;> (try split) <;> omega
  rw [this];split
  ·rename_i h;rw [if_pos (by omega)]
  ·rename_i h;rw [if_neg (by omega)]
theorem Yb:∀ {a b c:List Int},Xd a b < 0 -> Xd b c < 0 -> Xd a c < 0
 | [],[],_=>by simp [Xd]
 | [],_ :: _,[]=>by simp [Xd]
 | [],_ :: _,_ :: _=>by simp [Xd]
 | _ :: _,[],_=>by simp [Xd]
 | _ :: _,_ :: _,[]=>by simp [Xd]
 | x :: a,y :: b,z :: c=>by
  have ih:=@Yb a b c;unfold Xd;intro h1 h2;unfold Zau at *
  grind
theorem UU {a b:List Int} (k:Nat) (h:a.take k = b.take k) (ha:k <= a.length) (hb:k <= b.length):Xd a b = Xd (a.drop k) (b.drop k):=by
 induction k generalizing a b with
 | zero=>simp
 | succ k ih=>
  cases a with
  | nil=>simp at ha
  | cons x a=>
   cases b with
   | nil=>simp at hb
   | cons y b=>
    simp only [List.take_succ_cons,List.cons.injEq] at h;obtain ⟨rfl,h⟩:=h;rw [List.drop_succ_cons,List.drop_succ_cons,<- ih h (by simpa using ha) (by simpa using hb)];simp [Xd,Zau]
theorem ZeH {a b:List Int} {k:Nat} (h:a.take k = b.take k) (ha:k < a.length) (hb:k < b.length) (hne:Zau a[k] b[k] ≠ 0):Xd a b = Zau a[k] b[k]:=by
 rw [UU k h (by omega) (by omega),List.drop_eq_getElem_cons ha,List.drop_eq_getElem_cons hb,Xd,if_pos hne]
theorem Zc8 {a b:List Int} {k:Nat} (h:a.take k = b.take k) (ha:k < a.length) (hb:b.length = k):Xd a b = 1:=by
 rw [UU k h (by omega) (by omega),List.drop_eq_getElem_cons ha,List.drop_eq_nil_of_le («as»:=b) (by omega)];rfl
theorem Zcz {a b:List Int} (h:a = b.take a.length) (hb:a.length <= b.length):Xd a b = if a.length < b.length then -1 else 0:=by
 rw [UU a.length (by simpa using h) (Nat.le_refl _) hb,List.drop_eq_nil_of_le (Nat.le_refl _)];split
 ·rename_i hl;rw [List.drop_eq_getElem_cons hl];rfl
 ·rw [List.drop_eq_nil_of_le (by omega)];rfl
theorem VP {a b:List Int} {k:Nat} (h:a.take k = b.take k) (ha:k < a.length) (hb:k < b.length) (he:a[k] = b[k]):a.take (k + 1) = b.take (k + 1):=by
 rw [List.take_succ_eq_append_getElem ha,List.take_succ_eq_append_getElem hb,h,he]
end Ear
namespace Go.Proofs.YtcjicjfbippmnaaGreat
open Go.RowKit Ear

theorem UN (x:Int) (w:World):Calls Tryz.prog 199 #[.int .i64 x] w fun e w'=>e = .returned (.bool false) /\ w = w':=by
 go_enter Tryz.func199,Tryz.ntmps199;go_wp2_with fail;go_ret;exact ⟨Ju (by simp),rfl⟩
theorem ZcE (x y:Int) (w:World) (r:Int) (hr:Hid (Zau x y = r)):Calls Tryz.prog 182 #[.int .i64 x,.int .i64 y] w fun e w'=>e = .returned (.int .i64 r) /\ w = w':=by
 have hr0:=hr.out;unfold Zau at hr0;clear hr;rcases (show x < y ∨ (¬ x < y /\ y < x) ∨ (¬ x < y /\ ¬ y < x) by omega) with h | ⟨h1,h2⟩ | ⟨h1,h2⟩
 ·rw [if_pos h] at hr0;subst hr0;go_enter Tryz.func182,Tryz.ntmps182;go_wp2_with (go_at_call 199;refine (UN _ _).mono ?_;rintro e w' ⟨rfl,rfl⟩);go_ret;exact ⟨rfl,rfl⟩
 ·rw [if_neg h1,if_pos h2] at hr0;subst hr0;go_enter Tryz.func182,Tryz.ntmps182;go_wp2_with (go_at_call 199;refine (UN _ _).mono ?_;rintro e w' ⟨rfl,rfl⟩);go_ret;exact ⟨rfl,rfl⟩
 ·rw [if_neg h1,if_neg h2] at hr0;subst hr0;go_enter Tryz.func182,Tryz.ntmps182;go_wp2_with (go_at_call 199;refine (UN _ _).mono ?_;rintro e w' ⟨rfl,rfl⟩);go_ret;exact ⟨rfl,rfl⟩
theorem VW (A B:Option Addr) (c d:Nat) (a b:List Int) (w:World) (hA:Lies w A (ics a)) (hB:Lies w B (ics b)) (ha:a.length <= 9223372036854775807) (hb:b.length <= 9223372036854775807) (r:Int) (hr:Hid (Xd a b = r)) :
  Calls Tryz.prog 150 #[.slice A a.length c,.slice B b.length d] w fun e w'=>e = .returned (.int .i64 r) /\ w = w':=by
 go_enter Tryz.func150,Tryz.ntmps150;go_wp2_with fail;go_loop [11] (fun i=>∃ k:Nat,k <= a.length /\ k <= b.length /\ i = .int .i64 k /\ Hid (a.take k = b.take k)) (fun i=>a.length - (intOf i).toNat)
 case atStart=>exact ⟨0,by omega,by omega,rfl,zH (by simp)⟩
 case round=>
  obtain ⟨k,hk,hk2,rfl,HT⟩:=hrel;by_cases hlt:k < a.length
  ·obtain ⟨bx,ox,rfl,hbx,hcx⟩:=hA.at_ hlt;by_cases hlb:k < b.length
   ·obtain ⟨bY,oY,rfl,hby,hcy⟩:=hB.at_ hlb;have HAT:=zH (fun hne=>ZeH (k:=k) HT.out hlt hlb hne);have HSU:=zH (fun he=>VP (k:=k) HT.out hlt hlb he);have e1:a[k]?.getD 0 = a[k]:=(by rw [gE hlt];rfl);have e2:b[k]?.getD 0 = b[k]:=(by rw [gE hlb];rfl);rw [e1] at hcx;rw [e2] at hcy;clear e1 e2;generalize a[k] = x at *
    generalize b[k] = y at *
    obtain ⟨s,hs⟩:∃ s,s = Zau x y:=⟨_,rfl⟩;have HS:=zH hs.symm;by_cases h0:s = 0
    ·have HT2:=zH (HSU.out (Vq.1 (hs.symm.trans h0)));subst h0;clear hs HAT HSU;go_wp2_with (go_at_call 182;refine (ZcE _ _ _ 0 HS).mono ?_;rintro e w' ⟨rfl,rfl⟩);exact ⟨⟨k + 1,by omega,by omega,by go_num,HT2⟩,by simp [intOf];omega⟩
    ·have hz:r = s:=(by rw [<- hr.out,HAT.out (by rw [<- hs];exact h0),<- hs]);subst hz;have q0:(r != 0) = true:=(by simp [h0]);clear hs HAT HSU h0;go_wp2_with (go_at_call 182;refine (ZcE _ _ _ r HS).mono ?_;rintro e w' ⟨rfl,rfl⟩);go_ret;exact ⟨rfl,rfl⟩
   ·obtain rfl:k = b.length:=(by omega);have hz:r = 1:=(by rw [<- hr.out,Zc8 HT.out hlt rfl]);subst hz;go_wp2_with fail;go_ret;exact ⟨rfl,rfl⟩
  ·obtain rfl:k = a.length:=by omega
   have hz:=hr.out;rw [Zcz (by simpa using HT.out) hk2] at hz;clear hr;by_cases hl:a.length < b.length
   ·rw [if_pos hl] at hz;subst hz;go_wp2_with fail;go_ret;exact ⟨rfl,rfl⟩
   ·rw [if_neg hl] at hz;subst hz;go_wp2_with fail;go_ret;exact ⟨rfl,rfl⟩
theorem VI (o v:Int) (w:World) (r:Bool) (hr:Hid ((decide (1 <= o) && decide (o <= 4) && decide (1 <= v) && decide (v <= 2000)) = r)):Calls Tryz.prog 148 #[.int .i64 o,.int .i64 v] w fun e w'=>e = .returned (.bool r) /\ w = w':=by
 have hr0:=hr.out;clear hr;rcases (show ¬ 1 <= o ∨ (1 <= o /\ ¬ o <= 4) ∨ (1 <= o /\ o <= 4 /\ ¬ 1 <= v) ∨ (1 <= o /\ o <= 4 /\ 1 <= v /\ ¬ v <= 2000) ∨ (1 <= o /\ o <= 4 /\ 1 <= v /\ v <= 2000) by omega) with h1 | ⟨h1,h2⟩ | ⟨h1,h2,h3⟩ | ⟨h1,h2,h3,h4⟩ | ⟨h1,h2,h3,h4⟩
 all_goals
  simp only [h1,decide_true,decide_false,Bool.true_and,Bool.false_and] at hr0;try simp only [h2,decide_true,decide_false,Bool.true_and,Bool.false_and] at hr0
  try simp only [h3,decide_true,decide_false,Bool.true_and,Bool.false_and] at hr0
  try simp only [h4,decide_true,decide_false] at hr0
  subst hr0;go_enter Tryz.func148,Tryz.ntmps148;go_wp2_with fail;go_ret;exact ⟨Ju (by simp;try omega),rfl⟩
structure PredD (g:FuncId) (q q2:Value) (p:Int -> Bool) (w:World):Prop where
 enter:∀ (args:Array Value) (w:World),(callFunc g args).run Tryz.prog w = .ok (.enter g args) w
 gives:∀ (x:Int),Calls Tryz.prog g #[.int .i64 x,q,q2] w fun e w'=>e = .returned (.bool (p x)) /\ w = w'

theorem Zf9 (g:FuncId) (q q2:Value) (p:Int -> Bool) (A:Option Addr) (c:Nat) (l:List Int) (w:World) (hp:PredD g q q2 p w) (h:Lies w A (ics l)) (hn:l.length <= 9223372036854775807) :
  Calls Tryz.prog 164 #[.slice A l.length c,.func (.func g) #[] #[q,q2]] w (ZeV p l w):=by
 have heg:=hp.enter;go_enter Tryz.func164,Tryz.ntmps164;go_wp2;go_loop [5,8] (fun _ i=>∃ k:Nat,k <= l.length /\ i = .int .i64 k /\ (l.take k).any p = false) (fun _ i=>l.length - (intOf i).toNat)
 case atStart=>exact ⟨0,Nat.zero_le _,rfl,rfl⟩
 case round=>
  obtain ⟨k,hk,rfl,hp'⟩:=hrel;have HP:=zH hp';clear hp';by_cases hlt:k < l.length
  ·obtain ⟨bk,off,rfl,hb,hc⟩:=h.at_ hlt;go_wp2_with fail;refine (hp.gives _).mono ?_;rintro e w' ⟨rfl,rfl⟩;cases hpx:p l[k] with
   | true=>
    have HX:=zH hpx;clear hpx;go_wp2_with fail;go_ret;exact ⟨k,rfl,rfl,by rw [UW hlt HX.out];simp⟩
   | false=>
    have HX:=zH hpx;clear hpx;go_wp2_with fail;exact ⟨⟨k + 1,by omega,by go_num,Vs hlt HP.out HX.out⟩,by simp [intOf];omega⟩
  ·go_wp2;go_ret;exact ⟨-1,rfl,rfl,by have hh:=HP.out;rw [List.take_of_length_le (by omega)] at hh;rw [hh];rfl⟩

theorem Zb2 (g:FuncId) (q q2:Value) (p:Int -> Bool) (A:Option Addr) (c:Nat) (l:List Int) (w:World) (hp:PredD g q q2 p w) (h:Lies w A (ics l)) (hn:l.length <= 9223372036854775807) :
  Calls Tryz.prog 112 #[.slice A l.length c,.func (.func g) #[] #[q,q2]] w fun e w'=>e = .returned (.bool (l.any p)) /\ w = w':=by
 go_enter Tryz.func112,Tryz.ntmps112;go_wp2_with fail;refine (Zf9 g q q2 p A c l _ hp h hn).mono ?_;rintro e w' ⟨r,rfl,rfl,hr⟩;have HR:=zH hr;clear hr;go_wp2_with fail;go_ret;exact ⟨Ju HR.out,rfl⟩

theorem Za7 (x lo hi:Int) (b b2:Nat) (w:World) (hc:w.cell? ⟨b,0,none⟩ = some (.int .i64 lo)) (hc2:w.cell? ⟨b2,0,none⟩ = some (.int .i64 hi)) :
  Calls Tryz.prog 181 #[.int .i64 x,.pointer (some ⟨b,0,none⟩),.pointer (some ⟨b2,0,none⟩)] w fun e w'=>e = .returned (.bool (!inR lo hi x)) /\ w = w':=by
 by_cases h1:x < lo
 ·go_enter Tryz.func181,Tryz.ntmps181;go_wp2;go_ret;exact ⟨Ju (by simp [inR];omega),rfl⟩
 ·by_cases h2:hi < x;all_goals
   go_enter Tryz.func181,Tryz.ntmps181;go_wp2;go_ret;exact ⟨Ju (by simp [inR];omega),rfl⟩
theorem Xh (A:Option Addr) (c:Nat) (l:List Int) (lo hi:Int) (w:World) (h:Lies w A (ics l)) (hn:l.length <= 9223372036854775807) (r:Bool) (hr:Hid (YC lo hi l = r)) :
  Calls Tryz.prog 149 #[.slice A l.length c,.int .i64 lo,.int .i64 hi] w (Zdn r w):=by
 go_enter Tryz.func149,Tryz.ntmps149;go_wp2_with fail;refine (Zb2 _ _ _ (fun x=>!inR lo hi x) A c l _ ⟨enters_of Tryz.func181 (by kernel_rfl) rfl,fun x=>Za7 x lo hi _ _ _ (by simp) (by simp)⟩ ((h.alloc _).alloc _) hn).mono ?_;rintro e w' ⟨rfl,rfl⟩;rw [XK,hr.out];go_wp2_with fail;go_ret;exact ⟨Ju (by simp),(bR.alloc nR _).alloc (by simp) _⟩
end Go.Proofs.YtcjicjfbippmnaaGreat
namespace Ear

abbrev Tbl:=List (List Int × Int)
def Zia (o v:Int) (g:List Int × Int):Bool:=decide ((g.1.length:Int) = o) && YC 0 v g.1 && decide (1 <= g.2) && decide (g.2 <= 1073741824)
def ZfP (l:Tbl) (i:Nat):List Int × Int:=l[i]?.getD ([],0)
def Y6 (o v:Int) (l:Tbl) (i:Nat):Bool:=Zia o v (ZfP l i) && (i == 0 || decide (Xd (ZfP l (i - 1)).1 (ZfP l i).1 < 0))
def ZcR (o v:Int) (l:Tbl):Bool:=(List.range l.length).all (Y6 o v l)
def YG (o v:Int):Bool:=decide (1 <= o) && decide (o <= 4) && decide (1 <= v) && decide (v <= 2000)
def Uq (o v:Int) (l:Tbl):Int:=if 20000 < l.length then 5 else if YG o v = true then (if ZcR o v l = true then 0 else 2) else 2
theorem ZhL {o v:Int} {l:Tbl} {k:Nat} (hk:k < l.length) (h:Y6 o v l k = false):ZcR o v l = false:=by
 unfold ZcR;rw [List.all_eq_false];exact ⟨k,List.mem_range.2 hk,by simp [h]⟩
theorem Zdy {o v:Int} {l:Tbl} (h:∀ k,k < l.length -> Y6 o v l k = true):ZcR o v l = true:=by
 unfold ZcR;rw [List.all_eq_true];exact fun k hk=>h k (List.mem_range.1 hk)
theorem Xa {l:Tbl} {k:Nat} (hk:k < l.length):ZfP l k = l[k]:=by
 unfold ZfP;rw [List.getElem?_eq_getElem hk];rfl
theorem Yf {o v:Int} {l:Tbl}:Uq o v l = 0 ↔ l.length <= 20000 /\ YG o v = true /\ ZcR o v l = true:=by
 unfold Uq;split
 ·constructor
  ·intro h;cases h
  ·intro h;omega
 ·split
  ·split
   ·rename_i h1 h2 h3;exact ⟨fun _=>⟨by omega,h2,h3⟩,fun _=>rfl⟩
   ·rename_i h1 h2 h3;exact ⟨fun h=>(by cases h),fun h=>absurd h.2.2 h3⟩
  ·rename_i h1 h2;exact ⟨fun h=>(by cases h),fun h=>absurd h.2.1 h2⟩
theorem Xy {o v:Int}:YG o v = true ↔ 1 <= o /\ o <= 4 /\ 1 <= v /\ v <= 2000:=by simp [YG,and_assoc]
theorem YY {o v:Int} {g:List Int × Int}:Zia o v g = true ↔ (g.1.length:Int) = o /\ YC 0 v g.1 = true /\ 1 <= g.2 /\ g.2 <= 1073741824:=by simp [Zia,and_assoc]
end Ear
