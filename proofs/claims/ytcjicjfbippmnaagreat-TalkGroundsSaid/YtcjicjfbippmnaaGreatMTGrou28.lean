/- TalkGrounds -/
import Derived.Test.YtcjicjfbippmnaaGreatMTGrou27
set_option maxRecDepth 100000
set_option maxHeartbeats 32000000
namespace Ear
open Go.Proofs.YtcjicjfbippmnaaGreat

structure PEv where
 kind:Int
 val:BA
 q:Rat
 at_:Int
def ZE (D:PDl) (E:PEv):Bool × PDl:=
 if E.kind = 2 ∨ E.kind = 3 then
  match D.F[YB D.F]?,D.S[YB D.F]? with
  | some f,some s=>if Ze5 D f s E.q E.at_ = true then (true,D.put (YB D.F) (if E.kind = 2 then { f with st:=3 } else noR f)) else (false,D)
  | _,_=>(false,D)
 else if E.kind = 4 then
  match D.F[Uh D.S E.val]?,D.S[Uh D.S E.val]? with
  | some f,some s=>(match ZcS f s E.q E.val with | some f'=>(true,D.put (Uh D.S E.val) f') | none=>(false,D))
  | _,_=>(false,D)
 else (false,D)
def ZeR (D:PDl) (E:PEv):Prop:=¬ (1 <= E.kind /\ E.kind <= 4) ∨ Xz E.q = false ∨ (E.kind ≠ 4 /\ E.val ≠ ⟨#[]⟩) ∨ E.at_ < 0 ∨ Qp < E.at_ ∨ E.at_ < D.last
instance (D:PDl) (E:PEv):Decidable (ZeR D E):=by unfold ZeR;infer_instance
def XW (D:PDl) (E:PEv):Int × PDl:=
 if ZeR D E then (2,D) else if D.stand ≠ 0 then (8,D)
 else (0,Zal (J6 (ZE (Jn D E.at_) E).2 (ZE (Jn D E.at_) E).1) E.at_)
structure DlK (n:Int) (D:PDl):Prop where
 len:D.F.length = D.S.length
 few:D.F.length <= 20
 vals:∀ p ∈ D.S,p.vs.length <= 50
 ref:∀ f ∈ D.F,(f.ref.length:Int) <= n
 pat : 0 <= D.pat /\ D.pat <= 100
 prm : 0 <= D.prm /\ D.prm <= 10000
 need : 0 <= D.need /\ D.need <= 10000
 prompt : 0 <= D.prompt /\ D.prompt <= Qp
 cuts : 0 <= D.cuts /\ D.cuts <= n
 bad : 0 <= D.bad /\ D.bad <= n
 ask:D.stand = 0 -> YB D.F < D.F.length
theorem DlK.mono {n m:Int} {D:PDl} (h:DlK n D) (hm:n <= m):DlK m D:=
 ⟨h.len,h.few,h.vals,fun f hf=>Int.le_trans (h.ref f hf) hm,h.pat,h.prm,h.need,h.prompt,⟨h.cuts.1,Int.le_trans h.cuts.2 hm⟩,⟨h.bad.1,Int.le_trans h.bad.2 hm⟩,h.ask⟩
theorem Zfe {f f':PFl} {s:PSl} {q:Rat} {x:BA} (h:ZcS f s q x = some f'):f'.ref.length <= f.ref.length:=by
 unfold ZcS at h
 split at h
 ·cases h
 ·injection h with h
  rw [<- h]
  exact List.length_filter_le _ _
theorem ZgT (f:PFl):(noR f).ref.length <= f.ref.length + 1:=by
 unfold noR
 simp only
 split
 ·omega
 ·simp
structure EffK (D D2:PDl):Prop where
 S:D2.S = D.S
 pat:D2.pat = D.pat
 prm:D2.prm = D.prm
 need:D2.need = D.need
 stand:D2.stand = D.stand
 bad:D2.bad = D.bad
 cuts:D2.cuts = D.cuts
 prompt:D2.prompt = D.prompt
 last:D2.last = D.last
 len:D2.F.length = D.F.length
 ref:∀ n:Int,(∀ f ∈ D.F,(f.ref.length:Int) <= n) -> ∀ f ∈ D2.F,(f.ref.length:Int) <= n + 1
theorem EffK.refl (D:PDl):EffK D D:=⟨rfl,rfl,rfl,rfl,rfl,rfl,rfl,rfl,rfl,rfl,fun n h f hf=>by have:=h f hf;omega⟩
theorem EffK.put (D:PDl) (k:Nat) (f f':PFl) (hk:D.F[k]? = some f) (hf:f'.ref.length <= f.ref.length + 1):EffK D (D.put k f'):=
 ⟨rfl,rfl,rfl,rfl,rfl,rfl,rfl,rfl,rfl,List.length_set,fun n h x hx=>by
  rcases List.mem_or_eq_of_mem_set hx with h1 | rfl
  ·have:=h x h1;omega
  ·have:=h f (List.mem_of_getElem? hk);omega⟩
theorem Zcy (D:PDl) (E:PEv):EffK D (ZE D E).2:=by
 unfold ZE
 split
 ·split
  ·rename_i f s hf hs
   split
   ·refine EffK.put D _ f _ hf ?_
    split
    ·simp
    ·exact ZgT f
   ·exact EffK.refl D
  ·exact EffK.refl D
 ·split
  ·split
   ·rename_i f s hf hs
    split
    ·rename_i f' hv
     exact EffK.put D _ f _ hf (by have:=Zfe hv;omega)
    ·exact EffK.refl D
   ·exact EffK.refl D
  ·exact EffK.refl D
theorem UV (D:PDl) (t:Int):(Jn D t).S = D.S /\ (Jn D t).F = D.F /\ (Jn D t).pat = D.pat /\ (Jn D t).prm = D.prm /\ (Jn D t).need = D.need /\ (Jn D t).stand = D.stand /\ (Jn D t).bad = D.bad /\ (Jn D t).prompt = D.prompt /\ (Jn D t).last = D.last /\ ((Jn D t).cuts = D.cuts ∨ (Jn D t).cuts = D.cuts + 1):=by
 unfold Jn
 split
 ·exact ⟨rfl,rfl,rfl,rfl,rfl,rfl,rfl,rfl,rfl,.inr rfl⟩
 ·exact ⟨rfl,rfl,rfl,rfl,rfl,rfl,rfl,rfl,rfl,.inl rfl⟩
theorem ZeV {F:List PFl}:¬ Qv F < 0 -> YB F < F.length:=by
 unfold Qv
 split
 ·rename_i h;intro _;exact h
 ·intro h;omega
theorem Zak {n:Int} {D:PDl} (h:DlK n D) (E:PEv):DlK (n + 1) (XW D E).2:=by
 have h0 : 0 <= n:=Int.le_trans h.bad.1 h.bad.2
 unfold XW
 split
 ·exact h.mono (by omega)
 ·split
  ·exact h.mono (by omega)
  ·rename_i hb hst
   obtain ⟨c1,c2,c3,c4,c5,c6,c7,c8,c9,c10⟩:=UV D E.at_
   have k:=Zcy (Jn D E.at_) E
   have hat : 0 <= E.at_ /\ E.at_ <= Qp:=by
    unfold ZeR at hb
    constructor
    ·exact Int.not_lt.1 fun hx=>hb (.inr (.inr (.inr (.inl hx))))
    ·exact Int.not_lt.1 fun hx=>hb (.inr (.inr (.inr (.inr (.inl hx)))))
   have hstd:D.stand = 0:=Classical.byContradiction hst
   generalize hD2:(ZE (Jn D E.at_) E).2 = D2 at *
   generalize (ZE (Jn D E.at_) E).1 = r at *
   have kref:=k.ref n (by rw [c2];exact h.ref)
   have hl:=h.len;have hfw:=h.few;have hv:=h.vals;have p1:=h.pat;have p2:=h.prm;have p3:=h.need;have p4:=h.cuts;have p5:=h.bad
   have q1:=k.S;have q2:=k.pat;have q3:=k.prm;have q4:=k.need;have q5:=k.stand;have q6:=k.bad;have q7:=k.cuts;have q10:=k.len
   rw [c1] at q1;rw [c3] at q2;rw [c4] at q3;rw [c5] at q4;rw [c6] at q5;rw [c7] at q6;rw [c2] at q10
   have hB:(J6 D2 r).S = D2.S /\ (J6 D2 r).F = D2.F /\ (J6 D2 r).pat = D2.pat /\ (J6 D2 r).prm = D2.prm /\ (J6 D2 r).need = D2.need /\ (J6 D2 r).cuts = D2.cuts /\ (0 <= (J6 D2 r).bad /\ (J6 D2 r).bad <= n + 1):=by
    unfold J6
    split
    ·exact ⟨rfl,rfl,rfl,rfl,rfl,rfl,by show (0:Int) <= 0;omega,by show (0:Int) <= n + 1;omega⟩
    ·split
     ·exact ⟨rfl,rfl,rfl,rfl,rfl,rfl,by show 0 <= D2.bad + 1;omega,by show D2.bad + 1 <= n + 1;omega⟩
     ·exact ⟨rfl,rfl,rfl,rfl,rfl,rfl,by show 0 <= D2.bad + 1;omega,by show D2.bad + 1 <= n + 1;omega⟩
   obtain ⟨b1,b2,b3,b4,b5,b6,b7⟩:=hB
   generalize J6 D2 r = D3 at *
   have hcut : 0 <= D3.cuts /\ D3.cuts <= n + 1:=by rw [b6,q7];rcases c10 with e | e <;> rw [e] <;> omega
   unfold Zal
   split
   ·exact ⟨by simp only;rw [b2,b1,q10,q1];exact hl,by simp only;rw [b2,q10];exact hfw,by simp only;rw [b1,q1];exact hv,by simp only;rw [b2];exact kref,by simp only;rw [b3,q2];exact p1,by simp only;rw [b4,q3];exact p2,by simp only;rw [b5,q4];exact p3,hat,hcut,b7,fun e=>by cases e⟩
   ·rename_i ha
    exact ⟨by simp only;rw [b2,b1,q10,q1];exact hl,by simp only;rw [b2,q10];exact hfw,by simp only;rw [b1,q1];exact hv,by simp only;rw [b2];exact kref,by simp only;rw [b3,q2];exact p1,by simp only;rw [b4,q3];exact p2,by simp only;rw [b5,q4];exact p3,hat,hcut,b7,fun _=>ZeV ha⟩
end Ear
namespace Go.Proofs.YtcjicjfbippmnaaGreat
open Go.RowKit Ear

theorem DlM.lens {w:World} {bs:Nat} {a:DlA} {D:PDl} (h:DlM w bs a D):a.Fm.length = D.F.length /\ a.Ss.length = D.F.length:=by
 have h1:=congrArg List.length h.pure
 simp at h1
 exact ⟨h1,by rw [<- h.len];exact h1⟩
theorem Zbm {k:Int}:JX ZaA k = none ↔ ¬ (1 <= k /\ k <= 4):=by
 unfold ZaA
 simp only [JX]
 constructor
 ·intro h h2
  split at h
  ·cases h
  ·split at h
   ·cases h
   ·split at h
    ·cases h
    ·split at h
     ·cases h
     ·omega
 ·intro h
  rw [if_neg (by omega),if_neg (by omega),if_neg (by omega),if_neg (by omega)]
theorem ZcF (n:Int) (bs:Nat) (a:DlA) (D:PDl) (E:EvM) (q:Rat) (w:World) (h:DlM w bs a D) (hK:DlK n D) (hn:n <= 1000000) (hE:Fv w E.W q) (fE:Few E.W 90000) (hkw:(Lit.int .i64 E.kind).wf = true) (R:Int × PDl) (hR:Hid (XW D ⟨E.kind,E.val,q,E.at_⟩ = R)) :
  Calls Tryz.prog 33 #[.pointer (some ⟨a.q,0,none⟩),E.v] w fun e w'=>∃ a',e = .returned (.int .i64 R.1) /\ DlM w' bs a' R.2 /\ Chg w w' a a':=by
 obtain rfl:=hR.out
 obtain ⟨hl1,hl2⟩:=h.lens
 have hfw:=hK.few
 unfold XW
 by_cases hb:ZeR D ⟨E.kind,E.val,q,E.at_⟩
 ·rw [if_pos hb]
  refine (Zgj bs a D E q w h hE fE hkw ?_).mono fun e w' ⟨he,hb⟩=>⟨a,he,h.below hb,Chg.of_below hb⟩
  unfold ZeR at hb
  unfold Zik
  rw [Zbm]
  exact hb
 rw [if_neg hb]
 unfold ZeR at hb
 simp only [not_or] at hb
 obtain ⟨hb1,hb2,hb3,x1,x2,x3⟩:=hb
 have hb1':=Classical.byContradiction hb1
 have hp:Xz q = true:=by simpa using hb2
 have hkv:E.kind = 4 ∨ E.val = ⟨#[]⟩:=by
  rcases Classical.em (E.kind = 4) with e | e
  ·exact .inl e
  ·exact .inr (Classical.byContradiction fun e2=>hb3 ⟨e,e2⟩)
 obtain ⟨g,hg⟩:∃ g,JX ZaA E.kind = some g:=by
  cases hq:JX ZaA E.kind with
  | none=>exact absurd (Zbm.1 hq) (fun h=>h hb1')
  | some g=>exact ⟨g,rfl⟩
 by_cases hst:D.stand = 0
 ·rw [if_neg (by simpa using hst)]
  obtain ⟨c1,c2,c3,c4,c5,c6,c7,c8,c9,c10⟩:=UV D E.at_
  have hask:YB D.F < D.F.length:=hK.ask hst
  have hC:YB (Jn D E.at_).F < (Jn D E.at_).F.length:=by rw [c2];exact hask
  have hI:Qv (Jn D E.at_).F = (YB (Jn D E.at_).F:Int):=if_pos hC
  have hCS:(Jn D E.at_).F.length = (Jn D E.at_).S.length:=by rw [c1,c2];exact hK.len
  have k:=Zcy (Jn D E.at_) ⟨E.kind,E.val,q,E.at_⟩
  have hpr:=hK.prompt
  have hpm:=hK.prm
  have hnd:=hK.need
  have hct:=hK.cuts
  have hbd:=hK.bad
  unfold Qp at hpr
  have e2bad:(ZE (Jn D E.at_) ⟨E.kind,E.val,q,E.at_⟩).2.bad = D.bad:=k.bad.trans c7
  have e2len:(ZE (Jn D E.at_) ⟨E.kind,E.val,q,E.at_⟩).2.F.length = D.F.length:=by rw [k.len,c2]
  have hrefs:∀ f ∈ (Jn D E.at_).F,f.ref.length <= 1000000:=fun f hf=>by rw [c2] at hf;have:=hK.ref f hf;omega
  refine Zhy bs a D (ZE (Jn D E.at_) ⟨E.kind,E.val,q,E.at_⟩).2 (ZE (Jn D E.at_) ⟨E.kind,E.val,q,E.at_⟩).1 E q g w h hE fE hkw hg hp hkv x1 x2 x3 hst ?_ (zH fun U hU hEU=>?_) ⟨by omega,by omega,by omega,by omega,by omega,by omega,by rw [e2bad];omega,by rw [e2bad];omega⟩ (by rw [e2len];omega)
  ·rcases (show E.kind = 1 ∨ E.kind = 2 ∨ E.kind = 3 ∨ E.kind = 4 by omega) with e | e | e | e
   ·have hg1:g = 138:=by rw [e] at hg;simpa [ZaA,JX] using hg.symm
    rw [hg1];exact enters_of Tryz.func138 (by kernel_rfl) rfl
   ·have hg1:g = 139:=by rw [e] at hg;simpa [ZaA,JX] using hg.symm
    rw [hg1];exact enters_of Tryz.func139 (by kernel_rfl) rfl
   ·have hg1:g = 140:=by rw [e] at hg;simpa [ZaA,JX] using hg.symm
    rw [hg1];exact enters_of Tryz.func140 (by kernel_rfl) rfl
   ·have hg1:g = 141:=by rw [e] at hg;simpa [ZaA,JX] using hg.symm
    rw [hg1];exact enters_of Tryz.func141 (by kernel_rfl) rfl
  ·obtain ⟨hm1,hm2⟩:=hU.lens
   have hlF:(Jn D E.at_).F.length <= 20:=by rw [c2];exact hfw
   have hq1:YB (Jn D E.at_).F < (Jn D E.at_).S.length:=by omega
   rcases (show E.kind = 1 ∨ E.kind = 2 ∨ E.kind = 3 ∨ E.kind = 4 by omega) with e | e | e | e
   ·have hg1:g = 138:=by rw [e] at hg;simpa [ZaA,JX] using hg.symm
    have:ZE (Jn D E.at_) ⟨E.kind,E.val,q,E.at_⟩ = (false,Jn D E.at_):=by
     unfold ZE
     simp only
     rw [if_neg (by omega),if_neg (by omega)]
    rw [this,hg1]
    exact ZbT bs a _ E U hU
   ·have hg1:g = 139:=by rw [e] at hg;simpa [ZaA,JX] using hg.symm
    have:ZE (Jn D E.at_) ⟨E.kind,E.val,q,E.at_⟩ = if Ze5 (Jn D E.at_) (Jn D E.at_).F[YB (Jn D E.at_).F] (Jn D E.at_).S[YB (Jn D E.at_).F] q E.at_ = true then (true,(Jn D E.at_).put (YB (Jn D E.at_).F) { (Jn D E.at_).F[YB (Jn D E.at_).F] with st:=3 }) else (false,Jn D E.at_):=by
     unfold ZE
     simp only
     rw [if_pos (by omega),gE hC,gE hq1]
     simp only [e]
     rfl
    rw [this,hg1]
    have hy:=fun r D' hr hD'=>ZgD bs a (Jn D E.at_) E q U hU hEU fE (YB (Jn D E.at_).F) _ _ (gE hC) (gE hq1) hI (by omega) ⟨by rw [c8];omega,by rw [c8];omega⟩ ⟨by rw [c5];omega,by rw [c5];omega⟩ r hr D' hD'
    by_cases ha:Ze5 (Jn D E.at_) (Jn D E.at_).F[YB (Jn D E.at_).F] (Jn D E.at_).S[YB (Jn D E.at_).F] q E.at_ = true
    ·rw [if_pos ha]
     exact hy true _ (zH ha) (zH (if_pos rfl))
    ·rw [if_neg ha]
     exact hy false _ (zH (by simpa using ha)) (zH (if_neg (by simp)))
   ·have hg1:g = 140:=by rw [e] at hg;simpa [ZaA,JX] using hg.symm
    have:ZE (Jn D E.at_) ⟨E.kind,E.val,q,E.at_⟩ = if Ze5 (Jn D E.at_) (Jn D E.at_).F[YB (Jn D E.at_).F] (Jn D E.at_).S[YB (Jn D E.at_).F] q E.at_ = true then (true,(Jn D E.at_).put (YB (Jn D E.at_).F) (noR (Jn D E.at_).F[YB (Jn D E.at_).F])) else (false,Jn D E.at_):=by
     unfold ZE
     simp only
     rw [if_pos (by omega),gE hC,gE hq1]
     simp only [e]
     rfl
    rw [this,hg1]
    have hy:=fun r D' hr hD'=>ZhU bs a (Jn D E.at_) E q U hU hEU fE (YB (Jn D E.at_).F) _ _ (gE hC) (gE hq1) hI (by omega) ⟨by rw [c8];omega,by rw [c8];omega⟩ ⟨by rw [c5];omega,by rw [c5];omega⟩ (hrefs _ (gM hC)) r hr D' hD'
    by_cases ha:Ze5 (Jn D E.at_) (Jn D E.at_).F[YB (Jn D E.at_).F] (Jn D E.at_).S[YB (Jn D E.at_).F] q E.at_ = true
    ·rw [if_pos ha]
     exact hy true _ (zH ha) (zH (if_pos rfl))
    ·rw [if_neg ha]
     exact hy false _ (zH (by simpa using ha)) (zH (if_neg (by simp)))
   ·have hg1:g = 141:=by rw [e] at hg;simpa [ZaA,JX] using hg.symm
    rw [hg1]
    have hvs:∀ p ∈ (Jn D E.at_).S,p.vs.length <= 1000000:=fun p hp=>by rw [c1] at hp;have:=hK.vals p hp;omega
    by_cases hv:Uh (Jn D E.at_).S E.val < (Jn D E.at_).S.length
    ·have hv2:Uh (Jn D E.at_).S E.val < (Jn D E.at_).F.length:=by omega
     have hx:Zfd (Jn D E.at_).S E.val = (Uh (Jn D E.at_).S E.val:Int):=if_pos hv
     have:ZE (Jn D E.at_) ⟨E.kind,E.val,q,E.at_⟩ = match ZcS (Jn D E.at_).F[Uh (Jn D E.at_).S E.val] (Jn D E.at_).S[Uh (Jn D E.at_).S E.val] q E.val with | some f'=>(true,(Jn D E.at_).put (Uh (Jn D E.at_).S E.val) f') | none=>(false,Jn D E.at_):=by
      unfold ZE
      simp only
      rw [if_neg (by omega),if_pos e,gE hv2,gE hv]
     rw [this]
     have hy:=fun r D' hr=>ZcN bs a (Jn D E.at_) E q U hU hEU fE (by omega) hvs (Uh (Jn D E.at_).S E.val) _ _ (gE hv2) (gE hv) hx (hrefs _ (gM hv2)) r D' hr
     cases hq:ZcS (Jn D E.at_).F[Uh (Jn D E.at_).S E.val] (Jn D E.at_).S[Uh (Jn D E.at_).S E.val] q E.val with
     | none=>exact hy false _ (zH (.inl ⟨hq,rfl,rfl⟩))
     | some f'=>exact hy true _ (zH (.inr ⟨f',hq,rfl,rfl⟩))
    ·have hx:Zfd (Jn D E.at_).S E.val = -1:=if_neg hv
     have:ZE (Jn D E.at_) ⟨E.kind,E.val,q,E.at_⟩ = (false,Jn D E.at_):=by
      unfold ZE
      simp only
      rw [if_neg (by omega),if_pos e,List.getElem?_eq_none (l:=(Jn D E.at_).F) (by omega)]
     rw [this]
     exact ZcO bs a _ E U hU (by omega) hvs hx
 ·rw [if_pos (by simpa using hst)]
  exact (Zdq bs a D E q g w h hE fE hkw hg hp hkv x1 x2 x3 hst).mono fun e w' ⟨he,hb⟩=>⟨a,he,h.below hb,Chg.of_below hb⟩
def Zhq (D:PDl):Value × Int:=
 if D.stand ≠ 0 then (.agg #[.int .i64 0,.bool false,.string ⟨#[]⟩,.int .i64 0],7)
 else (.agg #[.int .i64 (YB D.F),.bool (decide ((D.F[YB D.F]?.map (·.st)).getD 0 = 2)),.string ((D.F[YB D.F]?.map (·.val)).getD ⟨#[]⟩),.int .i64 D.prompt],0)
theorem Ze3 (n:Int) (bs:Nat) (a:DlA) (D:PDl) (w:World) (h:DlM w bs a D) (hK:DlK n D) :
  Calls Tryz.prog 36 #[.pointer (some ⟨a.q,0,none⟩)] w fun e w'=>e = .returned (.tuple #[(Zhq D).1,.int .i64 (Zhq D).2]) /\ Below w.heap.size w w':=by
 obtain ⟨hl1,hl2⟩:=h.lens
 have hfw:=hK.few
 unfold Zhq
 by_cases hst:D.stand = 0
 ·have hask:=hK.ask hst
  rw [if_neg (by simpa using hst)]
  have:=Ziv bs a D w h hst (YB D.F) _ (gE hask) (if_pos hask) (by omega)
  rw [gE hask]
  exact this
 ·rw [if_pos (by simpa using hst)]
  exact Zgk bs a D w h hst
end Go.Proofs.YtcjicjfbippmnaaGreat
