/- a part of TalkSettles -/
import Derived.Test.YtcjicjfbippmnaaGreatMTSett30
import Derived.Test.YtcjicjfbippmnaaGreatMTSett32
set_option maxRecDepth 100000
set_option maxHeartbeats 32000000
namespace Go.Proofs.YtcjicjfbippmnaaGreat
open Go.RowKit Ear

theorem DlM.qU {w:World} {bs:Nat} {a:DlA} {D:PDl} (h:DlM w bs a D):AllC notU w a.q:=⟨_,_,h.cell,fun x hx=>by
 simp [dlc] at hx
 rcases hx with rfl | rfl | rfl | rfl | rfl | rfl | rfl | rfl | rfl | rfl <;> simp [notU]⟩
theorem DlM.gT {w:World} {bs:Nat} {a:DlA} {D:PDl} (h:DlM w bs a D):BT w a.gF 76:=BT.of_own h.row rfl
theorem DlM.qT {w:World} {bs:Nat} {a:DlA} {D:PDl} (h:DlM w bs a D):BT w a.q 133:=⟨_,_,h.cell⟩
theorem DlM.beside {w w':World} {bs bs':Nat} {a b b':DlA} {D E:PDl} (h:DlM w bs a D) (hE:DlM w bs' b E) (c:Chg w w' b b') (hr:∀ f ∈ b.Fm,blk f.A = none) (n1:a.q ≠ b.q) (n2:a.gF ≠ b.gF)
  (st:∀ w2:World,w'.heap.size <= w2.heap.size -> (∀ k,k < bs -> k ≠ a.q -> k ≠ a.gF -> w2.heap[k]? = w'.heap[k]?) -> PlM w2 a.PA a.Ss D.S):DlM w' bs a D:=by
 have blk':∀ k e,BT w k e -> e ≠ 133 ∨ k ≠ b.q -> e ≠ 76 ∨ k ≠ b.gF -> w'.heap[k]? = w.heap[k]?:=fun k e ht h1 h2=>
  c.block k ht.lt (by rcases h1 with h1 | h1;exact ht.ne hE.qT h1;exact h1) (by rcases h2 with h2 | h2;exact ht.ne hE.gT h2;exact h2) (fun f hf=>by rw [hr f hf];simp)
 have own:∀ {base size n:Nat} {e:TypeId} {v:Value} {xs:List Value},w.ownsRow base e size v n xs -> (∀ k,v.ownBlock = some k -> w'.heap[k]? = w.heap[k]?) -> w'.ownsRow base e size v n xs:=fun {base size n e v xs} ho hk=>by
  obtain ⟨r1,r2⟩:=ho
  refine ⟨r1,?_⟩
  rcases r2 with e0 | ⟨g,cap,cur,e0,hg,hgg,rest⟩
  ·exact .inl e0
  ·exact .inr ⟨g,cap,cur,e0,hg,(hk g (by rw [e0];rfl)).trans hgg,rest⟩
 exact ⟨(blk' a.q _ h.qT (.inr n1) (.inl (by decide))).trans h.cell,st,own h.row (fun k hk=>blk' k _ (BT.of_own h.row hk) (.inl (by decide)) (.inr (by have e:some a.gF = some k:=hk;injection e with e;omega))),
  fun f hf=>own (h.ref f hf) (fun k hk=>blk' k _ (BT.of_own (h.ref f hf) hk) (.inl (by decide)) (.inl (by decide))),h.apart,h.pure,h.len,h.pos,h.lt.1,h.lt.2.1,Nat.le_trans h.lt.2.2 c.size⟩
theorem DlM.elder {w w':World} {bs bs':Nat} {a b b':DlA} {D E:PDl} (h:DlM w bs a D) (hE:DlM w bs' b E) (c:Chg w w' b b') (hr:∀ f ∈ b.Fm,blk f.A = none) (hq:bs <= b.q) (hg:bs <= b.gF):DlM w' bs a D:=
 h.beside hE c hr (by have:=h.lt.1;omega) (by have:=h.lt.2.1;omega) (fun w2 hs hk=>h.stab w2 (Nat.le_trans c.size hs) (fun k h1 h2 h3=>(hk k h1 h2 h3).trans (c.block k (Nat.lt_of_lt_of_le h1 h.lt.2.2) (by omega) (by omega) (fun f hf=>by rw [hr f hf];simp))))
theorem DlM.younger {w w':World} {base bs':Nat} {a b b':DlA} {D E:PDl} (h:DlM w w.heap.size a D) (hS:PlS base w a D.S) (gU:AllC notU w a.gF) (hE:DlM w bs' b E) (gE:AllC notU w b.gF) (c:Chg w w' b b') (hr:∀ f ∈ b.Fm,blk f.A = none)
  (hq:b.q < base) (hg:b.gF < base) (h1:base <= a.q) (h2:base <= a.gF):DlM w' w.heap.size a D:=
 h.beside hE c hr (by omega) (by omega) (fun w2 hs hk=>hS w2 (Nat.le_trans c.size hs) (fun k g1 g2 g3 g4=>(hk k g2 g3 g4).trans (c.block k g2 (by omega) (by omega) (fun f hf=>by rw [hr f hf];simp))) (fun A l hl h0=>by
  obtain ⟨k,off,e,hb,hc⟩:=hl h0
  refine ⟨k,off,e,Nat.lt_of_lt_of_le hb (Nat.le_trans c.size hs),fun j v hv=>?_⟩
  exact (World.cell?_of_block (a:=⟨k,off + j,none⟩) ((hk k hb (digit_ne h0 hc h.qU) (digit_ne h0 hc gU)).trans (c.block k hb (digit_ne h0 hc hE.qU) (digit_ne h0 hc gE) (fun f hf=>by rw [hr f hf];simp)))).trans (hc j v hv)))
theorem newD_K {pat prm need:Int} {S:List PSl} (h:planB pat prm need S = true):DlK 0 (newD pat prm need S):=by
 unfold planB at h
 rw [Bool.and_eq_true] at h
 obtain ⟨h1,h2,h3,h4,h5,h6,h7,h8⟩:=of_decide_eq_true h.1
 have hv:∀ (l:List PSl) (n v:List BA),planGo n v l = true -> ∀ p ∈ l,p.vs.length <= 50:=by
  intro l
  induction l with
  | nil=>intro _ _ _ p hp;cases hp
  | cons s l ih=>
   intro n v hg p hp
   rw [planGo_cons,Bool.and_eq_true] at hg
   rcases List.mem_cons.1 hp with rfl | hp
   ·exact (slotB_iff.1 hg.1).2.2.2.2.2.1
   ·cases hw:valsGo v s.vs with
    | none=>rw [hw] at hg;cases hg.2
    | some u=>rw [hw] at hg;exact ih _ _ hg.2 p hp
 refine ⟨by simp [newD],by simp [newD];exact h2,hv S _ _ h.2,fun f hf=>?_,⟨h3,h4⟩,⟨h5,h6⟩,⟨h7,by show need <= 10000;omega⟩,⟨by show (0:Int) <= 0;omega,by show (0:Int) <= maxAt;unfold maxAt;omega⟩,⟨by show (0:Int) <= 0;omega,by show (0:Int) <= 0;omega⟩,⟨by show (0:Int) <= 0;omega,by show (0:Int) <= 0;omega⟩,fun _=>?_⟩
 ·obtain ⟨x,-,rfl⟩:=List.mem_map.1 hf
  simp
 ·have h0 : 0 < (newD pat prm need S).F.length:=by simp [newD];omega
  unfold askN
  refine List.findIdx_lt_length_of_exists ⟨(newD pat prm need S).F[0],List.getElem_mem h0,?_⟩
  simp [newD]
end Go.Proofs.YtcjicjfbippmnaaGreat
namespace Ear
open Go.Proofs.YtcjicjfbippmnaaGreat

theorem valsGo_some:∀ (l seen r:List BA),valsGo seen l = some r -> r = seen ++ l /\ ∀ v ∈ l,v ∉ seen:=by
 intro l
 induction l with
 | nil=>intro seen r h;simp [valsGo] at h;exact ⟨by simp [h],fun v hv=>by cases hv⟩
 | cons v l ih=>
  intro seen r h
  have e:valsGo seen (v :: l) = if wordB v = true /\ v ∉ seen then valsGo (seen ++ [v]) l else none:=rfl
  rw [e] at h
  by_cases hc:wordB v = true /\ v ∉ seen
  ·rw [if_pos hc] at h
   obtain ⟨h1,h2⟩:=ih _ _ h
   refine ⟨by rw [h1];simp,fun x hx=>?_⟩
   rcases List.mem_cons.1 hx with rfl | hx
   ·exact hc.2
   ·intro hs;exact h2 x hx (by simp [hs])
  ·rw [if_neg hc] at h;cases h
theorem planGo_all:∀ (S:List PSl) (names values:List BA),planGo names values S = true ->
  (∀ s ∈ S,1 <= s.vs.length /\ partB s.le = true /\ partB s.su = true /\ ¬ 0 < qsgn (s.le + -s.su) /\ ∀ v ∈ s.vs,v ∉ values) /\ S.Pairwise (fun s t=>∀ v ∈ s.vs,v ∉ t.vs):=by
 intro S
 induction S with
 | nil=>intro _ _ _;exact ⟨fun s hs=>(by cases hs),.nil⟩
 | cons s l ih=>
  intro names values h
  rw [planGo_cons,Bool.and_eq_true] at h
  obtain ⟨h1,h2⟩:=h
  obtain ⟨-,-,-,-,a1,-,a2,a3,a4⟩:=slotB_iff.1 h1
  cases hv:valsGo values s.vs with
  | none=>rw [hv] at h2;cases h2
  | some v=>
   rw [hv] at h2
   obtain ⟨e,hn⟩:=valsGo_some _ _ _ hv
   obtain ⟨i1,i2⟩:=ih _ _ h2
   subst e
   refine ⟨fun t ht=>?_,List.pairwise_cons.2 ⟨fun t ht x hx hxt=>?_,i2⟩⟩
   ·rcases List.mem_cons.1 ht with rfl | ht
    ·exact ⟨a1,a2,a3,a4,hn⟩
    ·obtain ⟨b1,b2,b3,b4,b5⟩:=i1 t ht
     exact ⟨b1,b2,b3,b4,fun x hx hxv=>b5 x hx (by simp [hxv])⟩
   ·exact (i1 t ht).2.2.2.2 x hxt (by simp [hx])
theorem planB_all {pat prm need:Int} {S:List PSl} (h:planB pat prm need S = true):planHead S.length pat prm need /\
  (∀ s ∈ S,1 <= s.vs.length /\ partB s.le = true /\ partB s.su = true /\ ¬ 0 < qsgn (s.le + -s.su)) /\ S.Pairwise (fun s t=>∀ v ∈ s.vs,v ∉ t.vs):=by
 unfold planB at h
 rw [Bool.and_eq_true] at h
 obtain ⟨h1,h2⟩:=planGo_all _ _ _ h.2
 exact ⟨of_decide_eq_true h.1,fun s hs=>by obtain ⟨a,b,c,d,-⟩:=h1 s hs;exact ⟨a,b,c,d⟩,h2⟩
theorem valN_at {S:List PSl} (h:S.Pairwise (fun s t=>∀ v ∈ s.vs,v ∉ t.vs)) {k:Nat} (hk:k < S.length) {v:BA} (hv:v ∈ S[k].vs):valN S v = k:=by
 unfold valN
 rw [List.findIdx_eq hk]
 exact ⟨by simpa using hv,fun j hj=>by
  have:=List.pairwise_iff_getElem.1 h j k (by omega) hk hj
  have h2:v ∉ S[j].vs:=fun hx=>this v hx hv
  simpa using h2⟩
def emptyP:PFl:=⟨1,ByteArray.empty,[]⟩
structure SetI (S:List PSl) (M:Nat -> Prop) (i:Nat) (D:PDl):Prop where
 hS:D.S = S
 len:D.F.length = S.length
 on:∀ (k:Nat) (f:PFl),D.F[k]? = some f -> M k -> f.st = 3
 off:∀ (k:Nat) (f:PFl),D.F[k]? = some f -> ¬ M k -> f = emptyP
 stand:(∃ k,k < S.length /\ ¬ M k) -> D.stand = 0
 done:(∀ k,k < S.length -> M k) -> D.stand = 1
 last:D.last <= i
theorem askN_lt {F:List PFl} {k:Nat} {f:PFl} (h:F[k]? = some f) (hf:f.st ≠ 3):askN F < F.length:=by
 unfold askN
 exact List.findIdx_lt_length_of_exists ⟨f,List.mem_of_getElem? h,by simpa using hf⟩
theorem askI_pos {F:List PFl} {k:Nat} {f:PFl} (h:F[k]? = some f) (hf:f.st ≠ 3):¬ askI F < 0:=by
 unfold askI
 rw [if_pos (askN_lt h hf)]
 omega
theorem askI_neg {F:List PFl} (h:∀ (k:Nat) (f:PFl),F[k]? = some f -> f.st = 3):askI F < 0:=by
 rw [askI_none fun j hj=>h j _ (gE hj)]
 omega
theorem partB_one:partB ((1:Int):Rat) = true:=by decide +kernel
theorem one_ge {q:Rat} (h:partB q = true) : 0 <= qsgn (((1:Int):Rat) + -q):=by
 unfold partB at h
 rw [Bool.and_eq_true,decide_eq_true_eq,decide_eq_true_eq] at h
 have h2:¬ ((1:Int):Rat) < q:=fun hlt=>by have:=(qsgn_gt q ((1:Int):Rat)).2 hlt;omega
 have h3:¬ qsgn (((1:Int):Rat) + -q) < 0:=fun hlt=>h2 ((qsgn_lt _ _).1 hlt)
 omega
theorem SetI.step {S:List PSl} {M:Nat -> Prop} {i:Nat} {D:PDl} (h:SetI S M i D) (hS:S.Pairwise (fun s t=>∀ v ∈ s.vs,v ∉ t.vs)) (hp:∀ s ∈ S,partB s.le = true /\ partB s.su = true)
  (hi:i <= 1000) {o:Nat} (ho:o < S.length) (hM:¬ M o) {v:BA} (hv:v ∈ S[o].vs) :
  ∃ D',hearP D ⟨4,v,((1:Int):Rat),i⟩ = (0,D') /\ SetI S (fun k=>M k ∨ k = o) (i + 1) D':=by
 have hst:=h.stand ⟨o,ho,hM⟩
 have hoF:o < D.F.length:=by rw [h.len];exact ho
 obtain ⟨c1,c2,c3,c4,c5,c6,c7,c8,c9,c10⟩:=hearC_k D i
 have hvn:valN (hearC D i).S v = o:=by rw [c1,h.hS];exact valN_at hS ho hv
 have hFo:D.F[o]? = some emptyP:=by
  rw [gE hoF]
  exact congrArg some (h.off o _ (gE hoF) hM)
 have hSo:D.S[o]? = some S[o]:=by rw [h.hS];exact gE ho
 obtain ⟨p1,p2⟩:=hp _ (List.getElem_mem ho)
 have hvf:valF emptyP S[o] ((1:Int):Rat) v = some ⟨3,v,wo v []⟩:=by
  unfold valF
  have g1:=one_ge p1
  have g2:=one_ge p2
  rw [if_neg (by
   rintro (a | a)
   ·omega
   ·exact a.1 g2)]
  rw [if_neg (by simp [emptyP]),if_neg (by simp [emptyP]),if_pos (.inl g2)]
  rfl
 have heff:effP (hearC D i) ⟨4,v,((1:Int):Rat),i⟩ = (true,(hearC D i).put o ⟨3,v,wo v []⟩):=by
  unfold effP
  rw [if_neg (by simp),if_pos rfl]
  simp only
  rw [hvn,c2,c1,hFo,hSo]
  simp only
  rw [hvf]
 have hbad:¬ badE D ⟨4,v,((1:Int):Rat),i⟩:=by
  unfold badE
  have:=h.last
  simp only [partB_one,maxAt]
  rintro (a | a | a | a | a | a)
  ·exact a (by omega)
  ·cases a
  ·exact a.1 rfl
  ·omega
  ·omega
  ·omega
 refine ⟨_,by unfold hearP;rw [if_neg hbad,if_neg (by simpa using hst),heff],?_⟩
 have e1:hearB ((hearC D i).put o ⟨3,v,wo v []⟩) true = { (hearC D i).put o ⟨3,v,wo v []⟩ with bad:=0 }:=rfl
 simp only
 rw [e1]
 have hF:∀ (k:Nat) (f:PFl),(D.F.set o ⟨3,v,wo v []⟩)[k]? = some f -> (M k ∨ k = o -> f.st = 3) /\ (¬ (M k ∨ k = o) -> f = emptyP):=by
  intro k f hf
  by_cases hk:k = o
  ·subst hk
   rw [List.getElem?_set_self hoF] at hf
   injection hf with hf
   exact ⟨fun _=>by rw [<- hf],fun hn=>absurd (.inr rfl) hn⟩
  ·rw [List.getElem?_set_ne (by omega)] at hf
   exact ⟨fun hm=>by rcases hm with hm | hm;exact h.on k f hf hm;exact absurd hm hk,fun hn=>h.off k f hf (fun hm=>hn (.inl hm))⟩
 have hlen:(D.F.set o ⟨3,v,wo v []⟩).length = S.length:=by rw [List.length_set,h.len]
 unfold hearE PDl.put
 simp only [c2]
 split
 ·rename_i ha
  refine ⟨by simp only [c1];exact h.hS,hlen,fun k f hf hm=>(hF k f hf).1 hm,fun k f hf hm=>(hF k f hf).2 hm,fun ⟨k,hk,hn⟩=>?_,fun _=>rfl,?_⟩
  ·exfalso
   have hkf:k < (D.F.set o ⟨3,v,wo v []⟩).length:=by rw [hlen];exact hk
   have:=(hF k _ (gE hkf)).2 hn
   exact askI_pos (gE hkf) (by rw [this];decide) ha
  ·show (i:Int) <= ((i + 1:Nat):Int);omega
 ·rename_i ha
  refine ⟨by simp only [c1];exact h.hS,hlen,fun k f hf hm=>(hF k f hf).1 hm,fun k f hf hm=>(hF k f hf).2 hm,fun _=>by simp only [c6];exact hst,fun hall=>?_,?_⟩
  ·exfalso
   refine ha (askI_neg fun k f hf=>(hF k f hf).1 (hall k ?_))
   have:=(List.getElem?_eq_some_iff.1 hf).1
   rw [hlen] at this;exact this
  ·show (i:Int) <= ((i + 1:Nat):Int);omega
theorem SetI.new (pat prm need:Int) (S:List PSl) (h : 1 <= S.length):SetI S (fun _=>False) 0 (newD pat prm need S):=
 ⟨rfl,by simp [newD],fun _ _ _ h=>h.elim,fun k f hf _=>by
  simp only [newD,List.getElem?_map] at hf
  cases e:S[k]? with
  | none=>rw [e] at hf;cases hf
  | some x=>rw [e] at hf;injection hf with hf;exact hf.symm,fun _=>rfl,fun hall=>(hall 0 (by omega)).elim,by show (0:Int) <= ((0:Nat):Int);omega⟩
structure NotI (pat:Int) (S:List PSl) (i:Nat) (D:PDl):Prop where
 hS:D.S = S
 hp:D.pat = pat
 F:D.F = S.map fun _=>emptyP
 bad:D.bad = i
 stand:D.stand = if (i:Int) <= pat then 0 else 2
 last:D.last <= i
theorem NotI.new (pat prm need:Int) (S:List PSl) (h : 0 <= pat):NotI pat S 0 (newD pat prm need S):=
 ⟨rfl,rfl,rfl,rfl,by rw [if_pos (by simpa using h)];rfl,by show (0:Int) <= ((0:Nat):Int);omega⟩
theorem NotI.step {pat:Int} {S:List PSl} {i:Nat} {D:PDl} (h:NotI pat S i D) (h1 : 1 <= S.length) (hi:(i:Int) <= pat) (hp:pat <= 100) :
  ∃ D',hearP D ⟨1,⟨#[]⟩,((1:Int):Rat),i⟩ = (0,D') /\ NotI pat S (i + 1) D':=by
 have hst:D.stand = 0:=by rw [h.stand,if_pos hi]
 obtain ⟨c1,c2,c3,c4,c5,c6,c7,c8,c9,c10⟩:=hearC_k D i
 have heff:effP (hearC D i) ⟨1,⟨#[]⟩,((1:Int):Rat),i⟩ = (false,hearC D i):=by
  unfold effP
  rw [if_neg (by simp),if_neg (by simp)]
 have hbad:¬ badE D ⟨1,⟨#[]⟩,((1:Int):Rat),i⟩:=by
  unfold badE
  have:=h.last
  simp only [partB_one,maxAt]
  rintro (a | a | a | a | a | a)
  ·exact a (by omega)
  ·cases a
  ·exact a.2 rfl
  ·omega
  ·omega
  ·omega
 refine ⟨_,by unfold hearP;rw [if_neg hbad,if_neg (by simpa using hst),heff],?_⟩
 simp only
 have h0:D.F[0]? = some emptyP:=by rw [h.F,List.getElem?_map,gE (by omega)];rfl
 have hb:∀ d,hearB (hearC D i) false = d -> d.F = D.F /\ d.S = D.S /\ d.pat = D.pat /\ d.bad = D.bad + 1 /\ d.stand = if D.pat < D.bad + 1 then 2 else 0:=by
  intro d hd
  subst hd
  unfold hearB
  rw [if_neg (by simp),c3,c7]
  split
  ·exact ⟨c2,c1,rfl,rfl,rfl⟩
  ·exact ⟨c2,c1,rfl,rfl,by simp only;rw [c6,hst]⟩
 generalize hd:hearB (hearC D i) false = d at *
 obtain ⟨d1,d2,d3,d4,d5⟩:=hb d rfl
 unfold hearE
 rw [d1,if_neg (askI_pos h0 (by decide))]
 refine ⟨by simp only;rw [d2,h.hS],by simp only;rw [d3,h.hp],by simp only;exact h.F,by simp only;rw [d4,h.bad];omega,?_,by show (i:Int) <= ((i + 1:Nat):Int);omega⟩
 simp only
 rw [d5,h.hp,h.bad]
 by_cases hc:pat < (i:Int) + 1
 ·rw [if_pos hc,if_neg (by omega)]
 ·rw [if_neg hc,if_pos (by omega)]
theorem NotI.end_ {pat:Int} {S:List PSl} {i:Nat} {D:PDl} (h:NotI pat S i D) (hi:pat < (i:Int)) (hp:i <= 1000) :
  hearP D ⟨1,⟨#[]⟩,((0:Int):Rat),1000⟩ = (8,D) /\ D.stand = 2:=by
 have hst:D.stand = 2:=by rw [h.stand,if_neg (by omega)]
 refine ⟨?_,hst⟩
 have hbad:¬ badE D ⟨1,⟨#[]⟩,((0:Int):Rat),1000⟩:=by
  unfold badE
  have:=h.last
  have p0:partB ((0:Int):Rat) = true:=by decide +kernel
  simp only [p0,maxAt]
  rintro (a | a | a | a | a | a)
  ·exact a (by omega)
  ·cases a
  ·exact a.2 rfl
  ·omega
  ·omega
  ·omega
 unfold hearP
 rw [if_neg hbad,if_pos (by rw [hst];decide)]
end Ear
