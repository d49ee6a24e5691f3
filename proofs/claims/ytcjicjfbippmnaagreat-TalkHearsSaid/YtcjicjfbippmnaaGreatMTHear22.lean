/- TalkHears -/
import Derived.Test.YtcjicjfbippmnaaGreatMTHear21
set_option maxRecDepth 100000
set_option maxHeartbeats 32000000
namespace Go.Proofs.YtcjicjfbippmnaaGreat
open Go.RowKit Ear

theorem ZgQ (bs:Nat) (a:DlA) (D:PDl) (w:World) (h:DlM w bs a D) (h0:D.stand ≠ 0):Calls Tryz.prog 36 #[.pointer (some ⟨a.q,0,none⟩)] w fun e w'=>e = .returned (.tuple #[.agg #[.int .i64 0,.bool false,.string ⟨#[]⟩,.int .i64 0],.int .i64 7]) /\ Below w.heap.size w w':=by
 obtain ⟨W0,hW0⟩:∃ W0:World,W0 = w.alloc (.cells #[.int .i64 0,.bool false,.string ⟨#[]⟩,.int .i64 0] 69):=⟨_,rfl⟩;have HB0:Hid (Below w.heap.size w W0):=zH (by rw [hW0];exact bR.alloc nR _);have HX0:Hid (W0.heap[w.heap.size]? = some (.cells #[.int .i64 0,.bool false,.string ⟨#[]⟩,.int .i64 0] 69 (0,0))):=zH (by rw [hW0];exact Wg w _);have HD:=zH (h.below HB0.out);obtain ⟨-,-,-,-,-,c5,-,-,-,-⟩:=HD.out.cells;have d0:=(cR 0 HX0.out).trans rfl;have d1:=(cR 1 HX0.out).trans rfl;have d2:=(cR 2 HX0.out).trans rfl;have d3:=(cR 3 HX0.out).trans rfl;have f0:=Js HX0.out 0;have f1:=Js HX0.out 1;have f2:=Js HX0.out 2;have f3:=Js HX0.out 3;have hs:(D.stand != 0) = true:=by simp [h0]
 clear h;go_enter Tryz.func36,Tryz.ntmps36;go_wp2_with fail;rw [<- hW0];clear hW0;refine (Yn bs a D W0 HD.out).mono ?_;rintro e w' ⟨rfl,hw⟩;subst hw;go_wp2_with fail;have hr4:((((w'.setCell ⟨w.heap.size,0,none⟩ (.int .i64 0)).setCell ⟨w.heap.size,1,none⟩ (.bool false)).setCell ⟨w.heap.size,2,none⟩ (.string ⟨#[]⟩)).setCell ⟨w.heap.size,3,none⟩ (.int .i64 0)).heap[w.heap.size]? = some (.cells #[.int .i64 0,.bool false,.string ⟨#[]⟩,.int .i64 0] 69 (0,0)):=(JE (JE (JE (JE HX0.out 0 _) 1 _) 2 _) 3 _).trans rfl;have g0:=(cR 0 hr4).trans rfl;have g1:=(cR 1 hr4).trans rfl;have g2:=(cR 2 hr4).trans rfl;have g3:=(cR 3 hr4).trans rfl;refine WB (v:=.tuple #[.agg #[.int .i64 0,.bool false,.string ⟨#[]⟩,.int .i64 0],.int .i64 7]) (by simp [results,Tryz.results36,go_sem,g0,g1,g2,g3]) rfl ?_;exact ⟨rfl,(((HB0.out.setCell nR _).setCell nR _).setCell nR _).setCell nR _⟩
theorem Zi4 (bs:Nat) (a:DlA) (D:PDl) (w:World) (h:DlM w bs a D) (h0:D.stand = 0) (k:Nat) (f:PFl) (hk:D.F[k]? = some f) (ha:Vb D.F = k) (hn:a.Fm.length <= 1000000):Calls Tryz.prog 36 #[.pointer (some ⟨a.q,0,none⟩)] w fun e w'=>e = .returned (.tuple #[.agg #[.int .i64 k,.bool (decide (f.st = 2)),.string f.val,.int .i64 D.prompt],.int .i64 0]) /\ Below w.heap.size w w':=by
 obtain ⟨W0,hW0⟩:∃ W0:World,W0 = w.alloc (.cells #[.int .i64 0,.bool false,.string ⟨#[]⟩,.int .i64 0] 69):=⟨_,rfl⟩;have HB0:Hid (Below w.heap.size w W0):=zH (by rw [hW0];exact bR.alloc nR _);have HX0:Hid (W0.heap[w.heap.size]? = some (.cells #[.int .i64 0,.bool false,.string ⟨#[]⟩,.int .i64 0] 69 (0,0))):=zH (by rw [hW0];exact Wg w _);have HD:=zH (h.below HB0.out);obtain ⟨-,-,-,-,-,c5,-,-,-,-⟩:=HD.out.cells;have hws:w.heap.size < W0.heap.size:=(aE HX0.out).1;rw [h0] at c5;have HA:=zH ha;clear h ha;go_enter Tryz.func36,Tryz.ntmps36;go_wp2_with fail;rw [<- hW0];clear hW0;refine (Yn bs a D W0 HD.out).mono ?_;rintro e w' ⟨rfl,hw⟩;subst hw;go_wp2_with fail;refine (Qj bs a D w' HD.out hn k HA).mono ?_;rintro e w1 ⟨rfl,hb1⟩;have HD1:=zH (HD.out.below hb1);have HX1:Hid (w1.heap[w.heap.size]? = some (.cells #[.int .i64 0,.bool false,.string ⟨#[]⟩,.int .i64 0] 69 (0,0))):=zH ((hb1.block _ hws).trans HX0.out);have HB1:=zH (HB0.out.trans (hb1.mono HB0.out.size));clear hb1 c5;obtain ⟨-,-,-,-,c4,-,-,-,c8,-⟩:=HD1.out.cells;obtain ⟨hkF,efm⟩:=Wl.1 (show (a.Fm.map FlM.pure)[k]? = some f by rw [HD.out.pure];exact hk);have hkl:k < a.Fm.length:=by simpa using hkF
 obtain ⟨k0,k1,k2,-,-,-⟩:=Zg HD1.out.row rfl hkl;have e1:a.Fm[k].st = f.st:=by rw [<- efm];simp [FlM.pure]
 have e2:a.Fm[k].val = f.val:=by rw [<- efm];simp [FlM.pure]
 rw [e1] at k0;rw [e2] at k1;have hki:(k:Int) < (a.Fm.length:Int):=by omega
 clear efm e1 e2 k2 hkF;have d0:=(cR 0 HX1.out).trans rfl;have d1:=(cR 1 HX1.out).trans rfl;have d2:=(cR 2 HX1.out).trans rfl;have d3:=(cR 3 HX1.out).trans rfl;have f0:=Js HX1.out 0;have f1:=Js HX1.out 1;have f2:=Js HX1.out 2;have f3:=Js HX1.out 3;go_wp2_with fail;go_still_tail 23,(by kernel_rfl);go_wp2_with fail;have hr4:((((w1.setCell ⟨w.heap.size,0,none⟩ (.int .i64 k)).setCell ⟨w.heap.size,1,none⟩ (.bool (f.st == 2))).setCell ⟨w.heap.size,2,none⟩ (.string f.val)).setCell ⟨w.heap.size,3,none⟩ (.int .i64 D.prompt)).drew.heap[w.heap.size]? = some (.cells #[.int .i64 k,.bool (f.st == 2),.string f.val,.int .i64 D.prompt] 69 (0,0)):=(JE (JE (JE (JE HX1.out 0 _) 1 _) 2 _) 3 _).trans rfl;have g0:=(cR 0 hr4).trans rfl;have g1:=(cR 1 hr4).trans rfl;have g2:=(cR 2 hr4).trans rfl;have g3:=(cR 3 hr4).trans rfl;refine WB (v:=.tuple #[.agg #[.int .i64 k,.bool (f.st == 2),.string f.val,.int .i64 D.prompt],.int .i64 0]) (by simp [results,Tryz.results36,go_sem,g0,g1,g2,g3]) rfl ?_;have e:(f.st == 2) = decide (f.st = 2):=by
  by_cases h2:f.st = 2
  ·rw [Wi h2,h2];rfl
  ·rw [dF h2];simp [h2]
 exact ⟨by rw [e],((((HB1.out.setCell nR _).setCell nR _).setCell nR _).setCell nR _).drew⟩
end Go.Proofs.YtcjicjfbippmnaaGreat
namespace Ear
open Go.Proofs.YtcjicjfbippmnaaGreat

structure PEv where
 kind:Int
 val:BA
 q:Rat
 at_:Int
def YC (D:PDl) (E:PEv):Bool × PDl:=
 if E.kind = 2 ∨ E.kind = 3 then
  match D.F[XY D.F]?,D.S[XY D.F]? with
  | some f,some s=>if ZdU D f s E.q E.at_ = true then (true,D.put (XY D.F) (if E.kind = 2 then { f with st:=3 } else noR f)) else (false,D)
  | _,_=>(false,D)
 else if E.kind = 4 then
  match D.F[Zi D.S E.val]?,D.S[Zi D.S E.val]? with
  | some f,some s=>(match ZaR f s E.q E.val with | some f'=>(true,D.put (Zi D.S E.val) f') | none=>(false,D))
  | _,_=>(false,D)
 else (false,D)
def ZdH (D:PDl) (E:PEv):Prop:=¬ (1 <= E.kind /\ E.kind <= 4) ∨ Xp E.q = false ∨ (E.kind ≠ 4 /\ E.val ≠ ⟨#[]⟩) ∨ E.at_ < 0 ∨ Z6 < E.at_ ∨ E.at_ < D.last
instance (D:PDl) (E:PEv):Decidable (ZdH D E):=by unfold ZdH;infer_instance
def XD (D:PDl) (E:PEv):Int × PDl:=
 if ZdH D E then (2,D) else if D.stand ≠ 0 then (8,D)
 else (0,XJ (JK (YC (Jo D E.at_) E).2 (YC (Jo D E.at_) E).1) E.at_)
structure DlK (n:Int) (D:PDl):Prop where
 len:D.F.length = D.S.length
 few:D.F.length <= 20
 vals:∀ p ∈ D.S,p.vs.length <= 50
 ref:∀ f ∈ D.F,(f.ref.length:Int) <= n
 pat : 0 <= D.pat /\ D.pat <= 100
 prm : 0 <= D.prm /\ D.prm <= 10000
 need : 0 <= D.need /\ D.need <= 10000
 prompt : 0 <= D.prompt /\ D.prompt <= Z6
 cuts : 0 <= D.cuts /\ D.cuts <= n
 bad : 0 <= D.bad /\ D.bad <= n
 ask:D.stand = 0 -> XY D.F < D.F.length
theorem DlK.mono {n m:Int} {D:PDl} (h:DlK n D) (hm:n <= m):DlK m D:=
 ⟨h.len,h.few,h.vals,fun f hf=>Int.le_trans (h.ref f hf) hm,h.pat,h.prm,h.need,h.prompt,⟨h.cuts.1,Int.le_trans h.cuts.2 hm⟩,⟨h.bad.1,Int.le_trans h.bad.2 hm⟩,h.ask⟩
theorem ZfB {f f':PFl} {s:PSl} {q:Rat} {x:BA} (h:ZaR f s q x = some f'):f'.ref.length <= f.ref.length:=by
 unfold ZaR at h;split at h
 ·cases h
 ·injection h with h
  rw [<- h];exact List.length_filter_le _ _
theorem Zhr (f:PFl):(noR f).ref.length <= f.ref.length + 1:=by
 unfold noR;simp only;split
 ·omega
 ·simp
structure EffK (D D2:PDl):Prop where
 S:D2.S = D.S
 pat:D2.pat = D.pat
 prm:D2.prm = D.prm
 need:D2.need = D.need
 stand:D2.stand = D.stand
 bad:D2.bad = D.bad
 cuts:D2.cuts = D.cuts
 prompt:D2.prompt = D.prompt
 last:D2.last = D.last
 len:D2.F.length = D.F.length
 ref:∀ n:Int,(∀ f ∈ D.F,(f.ref.length:Int) <= n) -> ∀ f ∈ D2.F,(f.ref.length:Int) <= n + 1
theorem EffK.refl (D:PDl):EffK D D:=⟨rfl,rfl,rfl,rfl,rfl,rfl,rfl,rfl,rfl,rfl,fun n h f hf=>by have:=h f hf;omega⟩
theorem EffK.put (D:PDl) (k:Nat) (f f':PFl) (hk:D.F[k]? = some f) (hf:f'.ref.length <= f.ref.length + 1):EffK D (D.put k f'):=
 ⟨rfl,rfl,rfl,rfl,rfl,rfl,rfl,rfl,rfl,WaP,fun n h x hx=>by
  rcases WcI hx with h1 | rfl
  ·have:=h x h1;omega
  ·have:=h f (WO hk);omega⟩
theorem ZcU (D:PDl) (E:PEv):EffK D (YC D E).2:=by
 unfold YC;split
 ·split
  ·rename_i f s hf hs;split
   ·refine EffK.put D _ f _ hf ?_;split
    ·simp
    ·exact Zhr f
   ·exact EffK.refl D
  ·exact EffK.refl D
 ·split
  ·split
   ·rename_i f s hf hs;split
    ·rename_i f' hv;exact EffK.put D _ f _ hf (by have:=ZfB hv;omega)
    ·exact EffK.refl D
   ·exact EffK.refl D
  ·exact EffK.refl D
theorem U7 (D:PDl) (t:Int):(Jo D t).S = D.S /\ (Jo D t).F = D.F /\ (Jo D t).pat = D.pat /\ (Jo D t).prm = D.prm /\ (Jo D t).need = D.need /\ (Jo D t).stand = D.stand /\ (Jo D t).bad = D.bad /\ (Jo D t).prompt = D.prompt /\ (Jo D t).last = D.last /\ ((Jo D t).cuts = D.cuts ∨ (Jo D t).cuts = D.cuts + 1):=by
 unfold Jo;split
 ·exact ⟨rfl,rfl,rfl,rfl,rfl,rfl,rfl,rfl,rfl,.inr rfl⟩
 ·exact ⟨rfl,rfl,rfl,rfl,rfl,rfl,rfl,rfl,rfl,.inl rfl⟩
theorem Qk {F:List PFl}:¬ Vb F < 0 -> XY F < F.length:=by
 unfold Vb;split
 ·rename_i h;intro _;exact h
 ·intro h;omega
theorem ZaB {n:Int} {D:PDl} (h:DlK n D) (E:PEv):DlK (n + 1) (XD D E).2:=by
 have h0 : 0 <= n:=Int.le_trans h.bad.1 h.bad.2;unfold XD;split
 ·exact h.mono (by omega)
 ·split
  ·exact h.mono (by omega)
  ·rename_i hb hst;obtain ⟨c1,c2,c3,c4,c5,c6,c7,c8,c9,c10⟩:=U7 D E.at_;have k:=ZcU (Jo D E.at_) E;have hat : 0 <= E.at_ /\ E.at_ <= Z6:=by
    unfold ZdH at hb;constructor
    ·exact Int.not_lt.1 fun hx=>hb (.inr (.inr (.inr (.inl hx))))
    ·exact Int.not_lt.1 fun hx=>hb (.inr (.inr (.inr (.inr (.inl hx)))))
   have hstd:D.stand = 0:=WcJ hst;generalize hD2:(YC (Jo D E.at_) E).2 = D2 at *
   generalize (YC (Jo D E.at_) E).1 = r at *
   have kref:=k.ref n (by rw [c2];exact h.ref);have hl:=h.len;have hfw:=h.few;have hv:=h.vals;have p1:=h.pat;have p2:=h.prm;have p3:=h.need;have p4:=h.cuts;have p5:=h.bad;have q1:=k.S;have q2:=k.pat;have q3:=k.prm;have q4:=k.need;have q5:=k.stand;have q6:=k.bad;have q7:=k.cuts;have q10:=k.len;rw [c1] at q1;rw [c3] at q2;rw [c4] at q3;rw [c5] at q4;rw [c6] at q5;rw [c7] at q6;rw [c2] at q10;have hB:(JK D2 r).S = D2.S /\ (JK D2 r).F = D2.F /\ (JK D2 r).pat = D2.pat /\ (JK D2 r).prm = D2.prm /\ (JK D2 r).need = D2.need /\ (JK D2 r).cuts = D2.cuts /\ (0 <= (JK D2 r).bad /\ (JK D2 r).bad <= n + 1):=by
    unfold JK;split
    ·exact ⟨rfl,rfl,rfl,rfl,rfl,rfl,by show (0:Int) <= 0;omega,by show (0:Int) <= n + 1;omega⟩
    ·split
     ·exact ⟨rfl,rfl,rfl,rfl,rfl,rfl,by show 0 <= D2.bad + 1;omega,by show D2.bad + 1 <= n + 1;omega⟩
     ·exact ⟨rfl,rfl,rfl,rfl,rfl,rfl,by show 0 <= D2.bad + 1;omega,by show D2.bad + 1 <= n + 1;omega⟩
   obtain ⟨b1,b2,b3,b4,b5,b6,b7⟩:=hB;generalize JK D2 r = D3 at *
   have hcut : 0 <= D3.cuts /\ D3.cuts <= n + 1:=(by rw [b6,q7];rcases c10 with e | e <;> rw [e] <;> omega);unfold XJ;split
   ·exact ⟨by simp only;rw [b2,b1,q10,q1];exact hl,by simp only;rw [b2,q10];exact hfw,by simp only;rw [b1,q1];exact hv,by simp only;rw [b2];exact kref,by simp only;rw [b3,q2];exact p1,by simp only;rw [b4,q3];exact p2,by simp only;rw [b5,q4];exact p3,hat,hcut,b7,fun e=>by cases e⟩
   ·rename_i ha;exact ⟨by simp only;rw [b2,b1,q10,q1];exact hl,by simp only;rw [b2,q10];exact hfw,by simp only;rw [b1,q1];exact hv,by simp only;rw [b2];exact kref,by simp only;rw [b3,q2];exact p1,by simp only;rw [b4,q3];exact p2,by simp only;rw [b5,q4];exact p3,hat,hcut,b7,fun _=>Qk ha⟩
end Ear
namespace Go.Proofs.YtcjicjfbippmnaaGreat
open Go.RowKit Ear

theorem DlM.lens {w:World} {bs:Nat} {a:DlA} {D:PDl} (h:DlM w bs a D):a.Fm.length = D.F.length /\ a.Ss.length = D.F.length:=by
 have h1:=WaF List.length h.pure;simp at h1;exact ⟨h1,by rw [<- h.len];exact h1⟩
theorem ZbF {k:Int}:J5 ZaU k = none ↔ ¬ (1 <= k /\ k <= 4):=by
 unfold ZaU;simp only [J5];constructor
 ·intro h h2;split at h
  ·cases h
  ·split at h
   ·cases h
   ·split at h
    ·cases h
    ·split at h
     ·cases h
     ·omega
 ·intro h;rw [Ww (by omega),Ww (by omega),Ww (by omega),Ww (by omega)]
theorem Zc1 (n:Int) (bs:Nat) (a:DlA) (D:PDl) (E:EvM) (q:Rat) (w:World) (h:DlM w bs a D) (hK:DlK n D) (hn:n <= 1000000) (hE:Fv w E.W q) (fE:Few E.W 90000) (hkw:(Lit.int .i64 E.kind).wf = true) (R:Int × PDl) (hR:Hid (XD D ⟨E.kind,E.val,q,E.at_⟩ = R)) :
  Calls Tryz.prog 33 #[.pointer (some ⟨a.q,0,none⟩),E.v] w fun e w'=>∃ a',e = .returned (.int .i64 R.1) /\ DlM w' bs a' R.2 /\ Chg w w' a a':=by
 obtain rfl:=hR.out;obtain ⟨hl1,hl2⟩:=h.lens;have hfw:=hK.few;unfold XD;by_cases hb:ZdH D ⟨E.kind,E.val,q,E.at_⟩
 ·rw [WA hb];refine (ZgP bs a D E q w h hE fE hkw ?_).mono fun e w' ⟨he,hb⟩=>⟨a,he,h.below hb,Chg.of_below hb⟩;unfold ZdH at hb;unfold ZiT;rw [ZbF];exact hb
 rw [Ww hb];unfold ZdH at hb;simp only [not_or] at hb;obtain ⟨hb1,hb2,hb3,x1,x2,x3⟩:=hb;have hb1':=WcJ hb1;have hp:Xp q = true:=by simpa using hb2
 have hkv:E.kind = 4 ∨ E.val = ⟨#[]⟩:=by
  rcases Classical.em (E.kind = 4) with e | e
  ·exact .inl e
  ·exact .inr (WcJ fun e2=>hb3 ⟨e,e2⟩)
 obtain ⟨g,hg⟩:∃ g,J5 ZaU E.kind = some g:=by
  cases hq:J5 ZaU E.kind with
  | none=>exact absurd (ZbF.1 hq) (fun h=>h hb1')
  | some g=>exact ⟨g,rfl⟩
 by_cases hst:D.stand = 0
 ·rw [Ww (by simpa using hst)];obtain ⟨c1,c2,c3,c4,c5,c6,c7,c8,c9,c10⟩:=U7 D E.at_;have hask:XY D.F < D.F.length:=hK.ask hst;have hC:XY (Jo D E.at_).F < (Jo D E.at_).F.length:=by rw [c2];exact hask
  have hI:Vb (Jo D E.at_).F = (XY (Jo D E.at_).F:Int):=WA hC;have hCS:(Jo D E.at_).F.length = (Jo D E.at_).S.length:=by rw [c1,c2];exact hK.len
  have k:=ZcU (Jo D E.at_) ⟨E.kind,E.val,q,E.at_⟩;have hpr:=hK.prompt;have hpm:=hK.prm;have hnd:=hK.need;have hct:=hK.cuts;have hbd:=hK.bad;unfold Z6 at hpr;have e2bad:(YC (Jo D E.at_) ⟨E.kind,E.val,q,E.at_⟩).2.bad = D.bad:=k.bad.trans c7;have e2len:(YC (Jo D E.at_) ⟨E.kind,E.val,q,E.at_⟩).2.F.length = D.F.length:=by rw [k.len,c2]
  have hrefs:∀ f ∈ (Jo D E.at_).F,f.ref.length <= 1000000:=fun f hf=>by rw [c2] at hf;have:=hK.ref f hf;omega
  refine Zh5 bs a D (YC (Jo D E.at_) ⟨E.kind,E.val,q,E.at_⟩).2 (YC (Jo D E.at_) ⟨E.kind,E.val,q,E.at_⟩).1 E q g w h hE fE hkw hg hp hkv x1 x2 x3 hst ?_ (zH fun U hU hEU=>?_) ⟨by omega,by omega,by omega,by omega,by omega,by omega,by rw [e2bad];omega,by rw [e2bad];omega⟩ (by rw [e2len];omega)
  ·rcases (show E.kind = 1 ∨ E.kind = 2 ∨ E.kind = 3 ∨ E.kind = 4 by omega) with e | e | e | e
   ·have hg1:g = 138:=(by rw [e] at hg;simpa [ZaU,J5] using hg.symm);rw [hg1];exact WcL Tryz.func138 (by kernel_rfl) rfl
   ·have hg1:g = 139:=(by rw [e] at hg;simpa [ZaU,J5] using hg.symm);rw [hg1];exact WcL Tryz.func139 (by kernel_rfl) rfl
   ·have hg1:g = 140:=(by rw [e] at hg;simpa [ZaU,J5] using hg.symm);rw [hg1];exact WcL Tryz.func140 (by kernel_rfl) rfl
   ·have hg1:g = 141:=(by rw [e] at hg;simpa [ZaU,J5] using hg.symm);rw [hg1];exact WcL Tryz.func141 (by kernel_rfl) rfl
  ·obtain ⟨hm1,hm2⟩:=hU.lens;have hlF:(Jo D E.at_).F.length <= 20:=(by rw [c2];exact hfw);have hq1:XY (Jo D E.at_).F < (Jo D E.at_).S.length:=(by omega);rcases (show E.kind = 1 ∨ E.kind = 2 ∨ E.kind = 3 ∨ E.kind = 4 by omega) with e | e | e | e
   ·have hg1:g = 138:=(by rw [e] at hg;simpa [ZaU,J5] using hg.symm);have:YC (Jo D E.at_) ⟨E.kind,E.val,q,E.at_⟩ = (false,Jo D E.at_):=by
     unfold YC;simp only;rw [Ww (by omega),Ww (by omega)]
    rw [this,hg1];exact Zcd bs a _ E U hU
   ·have hg1:g = 139:=(by rw [e] at hg;simpa [ZaU,J5] using hg.symm);have:YC (Jo D E.at_) ⟨E.kind,E.val,q,E.at_⟩ = if ZdU (Jo D E.at_) (Jo D E.at_).F[XY (Jo D E.at_).F] (Jo D E.at_).S[XY (Jo D E.at_).F] q E.at_ = true then (true,(Jo D E.at_).put (XY (Jo D E.at_).F) { (Jo D E.at_).F[XY (Jo D E.at_).F] with st:=3 }) else (false,Jo D E.at_):=by
     unfold YC;simp only;rw [WA (by omega),gE hC,gE hq1];simp only [e];rfl
    rw [this,hg1];have hy:=fun r D' hr hD'=>Zg9 bs a (Jo D E.at_) E q U hU hEU fE (XY (Jo D E.at_).F) _ _ (gE hC) (gE hq1) hI (by omega) ⟨by rw [c8];omega,by rw [c8];omega⟩ ⟨by rw [c5];omega,by rw [c5];omega⟩ r hr D' hD';by_cases ha:ZdU (Jo D E.at_) (Jo D E.at_).F[XY (Jo D E.at_).F] (Jo D E.at_).S[XY (Jo D E.at_).F] q E.at_ = true
    ·rw [WA ha];exact hy true _ (zH ha) (zH (WA rfl))
    ·rw [Ww ha];exact hy false _ (zH (by simpa using ha)) (zH (Ww (by simp)))
   ·have hg1:g = 140:=(by rw [e] at hg;simpa [ZaU,J5] using hg.symm);have:YC (Jo D E.at_) ⟨E.kind,E.val,q,E.at_⟩ = if ZdU (Jo D E.at_) (Jo D E.at_).F[XY (Jo D E.at_).F] (Jo D E.at_).S[XY (Jo D E.at_).F] q E.at_ = true then (true,(Jo D E.at_).put (XY (Jo D E.at_).F) (noR (Jo D E.at_).F[XY (Jo D E.at_).F])) else (false,Jo D E.at_):=by
     unfold YC;simp only;rw [WA (by omega),gE hC,gE hq1];simp only [e];rfl
    rw [this,hg1];have hy:=fun r D' hr hD'=>Zit bs a (Jo D E.at_) E q U hU hEU fE (XY (Jo D E.at_).F) _ _ (gE hC) (gE hq1) hI (by omega) ⟨by rw [c8];omega,by rw [c8];omega⟩ ⟨by rw [c5];omega,by rw [c5];omega⟩ (hrefs _ (gM hC)) r hr D' hD';by_cases ha:ZdU (Jo D E.at_) (Jo D E.at_).F[XY (Jo D E.at_).F] (Jo D E.at_).S[XY (Jo D E.at_).F] q E.at_ = true
    ·rw [WA ha];exact hy true _ (zH ha) (zH (WA rfl))
    ·rw [Ww ha];exact hy false _ (zH (by simpa using ha)) (zH (Ww (by simp)))
   ·have hg1:g = 141:=(by rw [e] at hg;simpa [ZaU,J5] using hg.symm);rw [hg1];have hvs:∀ p ∈ (Jo D E.at_).S,p.vs.length <= 1000000:=fun p hp=>by rw [c1] at hp;have:=hK.vals p hp;omega
    by_cases hv:Zi (Jo D E.at_).S E.val < (Jo D E.at_).S.length
    ·have hv2:Zi (Jo D E.at_).S E.val < (Jo D E.at_).F.length:=(by omega);have hx:ZbR (Jo D E.at_).S E.val = (Zi (Jo D E.at_).S E.val:Int):=WA hv;have:YC (Jo D E.at_) ⟨E.kind,E.val,q,E.at_⟩ = match ZaR (Jo D E.at_).F[Zi (Jo D E.at_).S E.val] (Jo D E.at_).S[Zi (Jo D E.at_).S E.val] q E.val with | some f'=>(true,(Jo D E.at_).put (Zi (Jo D E.at_).S E.val) f') | none=>(false,Jo D E.at_):=by
      unfold YC;simp only;rw [Ww (by omega),WA e,gE hv2,gE hv]
     rw [this];have hy:=fun r D' hr=>Zc9 bs a (Jo D E.at_) E q U hU hEU fE (by omega) hvs (Zi (Jo D E.at_).S E.val) _ _ (gE hv2) (gE hv) hx (hrefs _ (gM hv2)) r D' hr;cases hq:ZaR (Jo D E.at_).F[Zi (Jo D E.at_).S E.val] (Jo D E.at_).S[Zi (Jo D E.at_).S E.val] q E.val with
     | none=>exact hy false _ (zH (.inl ⟨hq,rfl,rfl⟩))
     | some f'=>exact hy true _ (zH (.inr ⟨f',hq,rfl,rfl⟩))
    ·have hx:ZbR (Jo D E.at_).S E.val = -1:=Ww hv;have:YC (Jo D E.at_) ⟨E.kind,E.val,q,E.at_⟩ = (false,Jo D E.at_):=by
      unfold YC;simp only;rw [Ww (by omega),WA e,WF (l:=(Jo D E.at_).F) (by omega)]
     rw [this];exact Zda bs a _ E U hU (by omega) hvs hx
 ·rw [WA (by simpa using hst)];exact (ZdN bs a D E q g w h hE fE hkw hg hp hkv x1 x2 x3 hst).mono fun e w' ⟨he,hb⟩=>⟨a,he,h.below hb,Chg.of_below hb⟩
def ZgI (D:PDl):Value × Int:=
 if D.stand ≠ 0 then (.agg #[.int .i64 0,.bool false,.string ⟨#[]⟩,.int .i64 0],7)
 else (.agg #[.int .i64 (XY D.F),.bool (decide ((D.F[XY D.F]?.map (·.st)).getD 0 = 2)),.string ((D.F[XY D.F]?.map (·.val)).getD ⟨#[]⟩),.int .i64 D.prompt],0)
theorem Zfs (n:Int) (bs:Nat) (a:DlA) (D:PDl) (w:World) (h:DlM w bs a D) (hK:DlK n D) :
  Calls Tryz.prog 36 #[.pointer (some ⟨a.q,0,none⟩)] w fun e w'=>e = .returned (.tuple #[(ZgI D).1,.int .i64 (ZgI D).2]) /\ Below w.heap.size w w':=by
 obtain ⟨hl1,hl2⟩:=h.lens;have hfw:=hK.few;unfold ZgI;by_cases hst:D.stand = 0
 ·have hask:=hK.ask hst;rw [Ww (by simpa using hst)];have:=Zi4 bs a D w h hst (XY D.F) _ (gE hask) (WA hask) (by omega);rw [gE hask];exact this
 ·rw [WA (by simpa using hst)];exact ZgQ bs a D w h hst
theorem UR (A:Option Addr) (c:Nat) (Ss:List SlM) (Ps:List PSl) (pat prm need:Int) (w:World) (h:PlM w A Ss Ps) (hsz:Hid (∀ s ∈ Ss,s.nm.size <= 1000000 /\ ∀ v ∈ s.vs,v.size <= 1000000)) (r:Bool) (hr:Hid (Zq pat prm need Ps = r)) :
  Calls Tryz.prog 74 #[.agg #[.slice A Ss.length c,.int .i64 pat,.int .i64 prm,.int .i64 need]] w (Qp r w):=by
 obtain ⟨W0,hW0⟩:∃ W0:World,W0 = w.alloc (.cells #[.slice A Ss.length c,.int .i64 pat,.int .i64 prm,.int .i64 need] 48):=⟨_,rfl⟩;have HB0:Hid (Below w.heap.size w W0):=zH (by rw [hW0];exact bR.alloc nR _);have HX0:Hid (W0.heap[w.heap.size]? = some (.cells #[.slice A Ss.length c,.int .i64 pat,.int .i64 prm,.int .i64 need] 48 (0,0))):=zH (by rw [hW0];exact Wg w _);have HPL:=zH (h.below HB0.out);have HS0:Hid (W0.heap.size = w.heap.size + 1):=zH (by rw [hW0];simp);have c0:W0.cell? ⟨w.heap.size,0,none⟩ = some (.slice A Ss.length c):=(cR 0 HX0.out).trans rfl;have c1:W0.cell? ⟨w.heap.size,1,none⟩ = some (.int .i64 pat):=(cR 1 HX0.out).trans rfl;have c2:W0.cell? ⟨w.heap.size,2,none⟩ = some (.int .i64 prm):=(cR 2 HX0.out).trans rfl;have c3:W0.cell? ⟨w.heap.size,3,none⟩ = some (.int .i64 need):=(cR 3 HX0.out).trans rfl;have HLN:=zH h.len;clear h;by_cases hh:XC Ss.length pat prm need
 ·obtain ⟨h1,h2,h3,h4,h5,h6,h7,h8⟩:=hh;have h1':(1:Int) <= (Ss.length:Int):=by omega
  have h2':(Ss.length:Int) <= 20:=by omega
  have HR:Hid (r = YK [] [Yy,noB] Ps):=zH (by
   rw [<- hr.out];unfold Zq;rw [Wi (by rw [<- HLN.out];exact ⟨h1,h2,h3,h4,h5,h6,h7,h8⟩)];rfl)
  clear hr;have hmk:∀ W:World,(Instr.makeMap 186 none).run Tryz.prog W = .ok (.map (some W.heap.size)) (W.alloc (.map #[] 0)):=fun W=>rfl;obtain ⟨V,hV⟩:∃ V:World,V = (W0.alloc (.map #[] 0)).alloc (.map #[] 0):=⟨_,rfl⟩;have HVS:Hid (V.heap.size = W0.heap.size + 2):=zH (by rw [hV];simp);have HBV:Hid (Below W0.heap.size W0 V):=zH (by rw [hV];exact al2 W0 _ _);have HM1:Hid (SM V (w.heap.size + 1) []):=zH (by rw [hV,<- HS0.out];exact (MapIs.made Tryz.prog 9 Value.string Value.bool W0).below (bR.alloc nR _));have HM2:Hid (SM V (w.heap.size + 1 + 1) []):=zH (by rw [hV,<- HS0.out,show W0.heap.size + 1 = (W0.alloc (.map #[] 0)).heap.size by simp];exact MapIs.made Tryz.prog 9 Value.string Value.bool (W0.alloc (.map #[] 0)));obtain ⟨V1,hu1,hm1,hg1⟩:=HM2.out.put (k:=Yy) (by unfold maxLen;decide) (by simp);obtain ⟨V2,hu2,hm2,hg2⟩:=hm1.put (k:=noB) (by unfold maxLen;decide) (by decide);have HN2:Hid (SM V2 (w.heap.size + 1) []):=zH ((HM1.out.grown hg1 (by simp)).grown hg2 (by simp));have HS2:Hid (SM V2 (w.heap.size + 1 + 1) [Yy,noB]):=zH hm2;have HBV2:Hid (Below W0.heap.size W0 V2):=zH ((HBV.out.grown hg1 (by have:=HVS.out;omega) (fun k hk=>by injection hk with hk;have:=HS0.out;omega)).grown hg2 (by have:=hg1.size;have:=HVS.out;omega) (fun k hk=>by injection hk with hk;have:=HS0.out;omega));have hsV2:W0.heap.size + 2 <= V2.heap.size:=by have:=hg1.size;have:=hg2.size;have:=HVS.out;omega
  rw [hV] at hu1;clear hV HM1 HM2 hm1 hg1 hm2 hg2 HBV;have hu1':(Instr.mapUpdate 186 (.map (some (w.heap.size + 1 + 1))) (.string ⟨#[121,101,115]⟩) (.bool true)).run Tryz.prog ((W0.alloc (.map #[] 0)).alloc (.map #[] 0)) = .ok () V1:=hu1;have hu2':(Instr.mapUpdate 186 (.map (some (w.heap.size + 1 + 1))) (.string ⟨#[110,111]⟩) (.bool true)).run Tryz.prog V1 = .ok () V2:=hu2;have HC0:Hid (V2.cell? ⟨w.heap.size,0,none⟩ = some (.slice A Ss.length c)):=zH ((HBV2.out.cell (p:=⟨w.heap.size,0,none⟩) (by have:=HS0.out;show w.heap.size < _;omega)).trans c0);have hcc:=HC0.out;clear hu1 hu2;go_enter Tryz.func74,Tryz.ntmps74;go_wp2_with fail;rw [<- hW0];clear hW0;rw [hu1'];go_simp;go_wp2_with fail;clear hmk hu1' hu2' hcc c0 c1 c2 c3;go_loopw [57] (fun t wr=>∃ (k:Nat) (names values:List BA),k <= Ss.length /\ t = .int .i64 k /\ Hid (SM wr (w.heap.size + 1) names) /\ Hid (SM wr (w.heap.size + 1 + 1) values) /\ Hid (r = YK names values (Ps.drop k)) /\ Hid (Below W0.heap.size W0 wr)) (fun t _=>Ss.length - (intOf t).toNat)
  case atStart=>exact ⟨0,[],[Yy,noB],by omega,rfl,HN2,HS2,HR,HBV2⟩
  case round=>
   obtain ⟨k,names,values,hk,rfl,HN,HS,HRk,HBk⟩:=hrel;clear HN2 HS2 HR HBV2;obtain ⟨Wr,rfl⟩:∃ X,X = wr:=⟨_,rfl⟩;have hsr:W0.heap.size <= Wr.heap.size:=HBk.out.size;have hbm:w.heap.size + 1 + 1 < Wr.heap.size:=HS.out.lt;by_cases hlt:k < Ss.length
   ·have hlt':(k:Int) < (Ss.length:Int):=(by omega);have hltP:k < Ps.length:=(by rw [<- HLN.out];exact hlt);obtain ⟨ba,off,rfl,hba,hcell⟩:=(HPL.out.below HBk.out).at_ hlt;have HOK0:=zH (HPL.out.ok k _ _ (gE hlt) (gE hltP));have HOK:=zH ((HPL.out.below HBk.out).ok k _ _ (gE hlt) (gE hltP));have HSZ:=zH (hsz.out _ (gM hlt));have HDR:Hid (Ps.drop k = Ps[k] :: Ps.drop (k + 1)):=zH (Wv hltP);generalize Ss[k] = s at *
    generalize Ps[k] = p at *
    have k0:=hcell 0 _ rfl;have k1:=hcell 1 _ rfl;have k2:=hcell 2 _ rfl;have k3:=hcell 3 _ rfl;have k4:=hcell 4 _ rfl;have k5:=hcell 5 _ rfl;have k6:=hcell 6 _ rfl;have k7:=hcell 7 _ rfl;rw [WaV] at k0;clear hcell;obtain ⟨pn,pv,ple,psu⟩:=p;have hn1:=HOK.out.nm;have hn2:=HOK.out.vs;simp only at hn1 hn2;subst hn1 hn2;go_wp2_with fail;obtain ⟨V,hV⟩:∃ V:World,V = Wr.alloc (.cells #[.string s.nm,.slice s.A s.vs.length s.c,.bool s.L.neg,.slice s.L.A s.L.N.length s.L.c,.slice s.L.B s.L.D.length s.L.d,.bool s.S.neg,.slice s.S.A s.S.N.length s.S.c,.slice s.S.B s.S.D.length s.S.d] 79):=⟨_,rfl⟩;have HBV:Hid (Below Wr.heap.size Wr V):=zH (by rw [hV];exact bR.alloc nR _);have HXV:Hid (V.heap[Wr.heap.size]? = some (.cells #[.string s.nm,.slice s.A s.vs.length s.c,.bool s.L.neg,.slice s.L.A s.L.N.length s.L.c,.slice s.L.B s.L.D.length s.L.d,.bool s.S.neg,.slice s.S.A s.S.N.length s.S.c,.slice s.S.B s.S.D.length s.S.d] 79 (0,0))):=zH (by rw [hV];exact Wg Wr _);have HSVs:Hid (V.heap.size = Wr.heap.size + 1):=zH (by rw [hV];simp);rw [<- hV];clear hV k0 k1 k2 k3 k4 k5 k6 k7;have HNV:=zH (HN.out.below HBV.out);have HSV:=zH (HS.out.below HBV.out);have HOV:=zH (HOK.out.below HBV.out);have HBW:Hid (Below W0.heap.size W0 V):=zH (HBk.out.trans (HBV.out.mono hsr));have HWV:Hid (Below w.heap.size w V):=zH (HB0.out.trans (HBW.out.mono HB0.out.size));have b0:V.cell? ⟨Wr.heap.size,0,none⟩ = some (.string s.nm):=(cR 0 HXV.out).trans rfl;have b1:V.cell? ⟨Wr.heap.size,1,none⟩ = some (.slice s.A s.vs.length s.c):=(cR 1 HXV.out).trans rfl;have b2:V.cell? ⟨Wr.heap.size,2,none⟩ = some (.bool s.L.neg):=(cR 2 HXV.out).trans rfl;have b3:V.cell? ⟨Wr.heap.size,3,none⟩ = some (.slice s.L.A s.L.N.length s.L.c):=(cR 3 HXV.out).trans rfl;have b4:V.cell? ⟨Wr.heap.size,4,none⟩ = some (.slice s.L.B s.L.D.length s.L.d):=(cR 4 HXV.out).trans rfl;refine (Zcv s.nm V HSZ.out.1 (Xd s.nm) (zH rfl)).mono ?_;rintro e w' ⟨rfl,hw'⟩;subst hw';by_cases g1:Xd s.nm = true;rotate_left
    ·have g1N:=zH g1;have q1:Xd s.nm = false:=WQ.2 g1;clear g1;have HF:Hid (r = false):=zH (by rw [HRk.out,HDR.out];exact Xj (J7 (fun h=>g1N.out h.1)));go_wp2_with fail;go_ret;exact ⟨by rw [HF.out];rfl,HWV.out⟩
    have g1Y:=zH g1;rw [g1];clear g1;have hlk:=SM.look HNV.out s.nm (by have:=HSZ.out.1;unfold maxLen;omega);by_cases g2:s.nm ∉ names;rotate_left
    ·have g2N:=zH g2;rw [Wi (Wb1.1 g2)] at hlk;clear g2;have HF:Hid (r = false):=zH (by rw [HRk.out,HDR.out];exact Xj (J7 (fun h=>g2N.out h.2.1)));go_wp2_with fail;go_ret;exact ⟨by rw [HF.out];rfl,HWV.out⟩
    have g2Y:=zH g2;rw [dF g2] at hlk;clear g2;by_cases g3:s.nm ≠ Yy;rotate_left
    ·have g3N:=zH g3;have q3:(s.nm.toList == ([121,101,115]:List UInt8)) = true:=(by rw [toList_eq];exact Wi (Wb1.1 g3));clear g3;have HF:Hid (r = false):=zH (by rw [HRk.out,HDR.out];exact Xj (J7 (fun h=>g3N.out h.2.2.1)));go_wp2_with fail;go_ret;exact ⟨by rw [HF.out];rfl,HWV.out⟩
    have g3Y:=zH g3;have q3:(s.nm.toList == ([121,101,115]:List UInt8)) = false:=(by rw [toList_eq];exact dF g3);clear g3;by_cases g4:s.nm ≠ noB;rotate_left
    ·have g4N:=zH g4;have q4:(s.nm.toList == ([110,111]:List UInt8)) = true:=(by rw [toList_eq];exact Wi (Wb1.1 g4));clear g4;have HF:Hid (r = false):=zH (by rw [HRk.out,HDR.out];exact Xj (J7 (fun h=>g4N.out h.2.2.2.1)));go_wp2_with fail;go_ret;exact ⟨by rw [HF.out];rfl,HWV.out⟩
    have g4Y:=zH g4;have q4:(s.nm.toList == ([110,111]:List UInt8)) = false:=(by rw [toList_eq];exact dF g4);clear g4;by_cases g5 : 1 <= s.vs.length;rotate_left
    ·have g5N:=zH g5;have q5:(s.vs.length:Int) < 1:=(by omega);clear g5;have HF:Hid (r = false):=zH (by rw [HRk.out,HDR.out];exact Xj (J7 (fun h=>g5N.out h.2.2.2.2.1)));go_wp2_with fail;go_ret;exact ⟨by rw [HF.out];rfl,HWV.out⟩
    have g5Y:=zH g5;have q5:¬ (s.vs.length:Int) < 1:=(by omega);clear g5;by_cases g6:s.vs.length <= 50;rotate_left
    ·have g6N:=zH g6;have q6:(50:Int) < (s.vs.length:Int):=(by omega);clear g6;have HF:Hid (r = false):=zH (by rw [HRk.out,HDR.out];exact Xj (J7 (fun h=>g6N.out h.2.2.2.2.2.1)));go_wp2_with fail;go_ret;exact ⟨by rw [HF.out];rfl,HWV.out⟩
    have g6Y:=zH g6;have q6:¬ (50:Int) < (s.vs.length:Int):=(by omega);clear g6;go_wp2_with fail;refine (Xa s.L ple w' HOV.out.L HOV.out.fL (Xp ple) (zH rfl)).mono ?_;rintro e V1 ⟨rfl,hb1⟩;have HD0:Hid (Below w'.heap.size w' w'):=zH bR;have HD1:=zH (HD0.out.trans (hb1.mono HD0.out.size));have HX1:Hid (V1.heap[Wr.heap.size]? = some (.cells #[.string s.nm,.slice s.A s.vs.length s.c,.bool s.L.neg,.slice s.L.A s.L.N.length s.L.c,.slice s.L.B s.L.D.length s.L.d,.bool s.S.neg,.slice s.S.A s.S.N.length s.S.c,.slice s.S.B s.S.D.length s.S.d] 79 (0,0))):=zH ((hb1.block _ (by have:=HSVs.out;have:=HD0.out.size;omega)).trans HXV.out);have HW1:Hid (Below w.heap.size w V1):=zH (HWV.out.trans (HD1.out.mono HWV.out.size));clear hb1;clear b0 b1 b2 b3 b4;have b0:V1.cell? ⟨Wr.heap.size,0,none⟩ = some (.string s.nm):=(cR 0 HX1.out).trans rfl;have b1:V1.cell? ⟨Wr.heap.size,1,none⟩ = some (.slice s.A s.vs.length s.c):=(cR 1 HX1.out).trans rfl;have b2:V1.cell? ⟨Wr.heap.size,2,none⟩ = some (.bool s.L.neg):=(cR 2 HX1.out).trans rfl;have b3:V1.cell? ⟨Wr.heap.size,3,none⟩ = some (.slice s.L.A s.L.N.length s.L.c):=(cR 3 HX1.out).trans rfl;have b4:V1.cell? ⟨Wr.heap.size,4,none⟩ = some (.slice s.L.B s.L.D.length s.L.d):=(cR 4 HX1.out).trans rfl;have b5:V1.cell? ⟨Wr.heap.size,5,none⟩ = some (.bool s.S.neg):=(cR 5 HX1.out).trans rfl;have b6:V1.cell? ⟨Wr.heap.size,6,none⟩ = some (.slice s.S.A s.S.N.length s.S.c):=(cR 6 HX1.out).trans rfl;have b7:V1.cell? ⟨Wr.heap.size,7,none⟩ = some (.slice s.S.B s.S.D.length s.S.d):=(cR 7 HX1.out).trans rfl;by_cases g7:Xp ple = true;rotate_left
    ·have g7N:=zH g7;have q7:Xp ple = false:=WQ.2 g7;rw [q7];clear g7 q7;have HF:Hid (r = false):=zH (by rw [HRk.out,HDR.out];exact Xj (J7 (fun h=>g7N.out h.2.2.2.2.2.2.1)));go_wp2_with fail;go_ret;exact ⟨by rw [HF.out];rfl,HW1.out⟩
    have g7Y:=zH g7;rw [g7];clear g7;go_wp2_with fail;refine (Xa s.S psu V1 (HOV.out.S.below HD1.out) HOV.out.fS (Xp psu) (zH rfl)).mono ?_;rintro e V2 ⟨rfl,hb2⟩;have HD2:=zH (HD1.out.trans (hb2.mono HD1.out.size));have HX2:Hid (V2.heap[Wr.heap.size]? = some (.cells #[.string s.nm,.slice s.A s.vs.length s.c,.bool s.L.neg,.slice s.L.A s.L.N.length s.L.c,.slice s.L.B s.L.D.length s.L.d,.bool s.S.neg,.slice s.S.A s.S.N.length s.S.c,.slice s.S.B s.S.D.length s.S.d] 79 (0,0))):=zH ((hb2.block _ (by have:=HSVs.out;have:=HD1.out.size;omega)).trans HX1.out);have HW2:Hid (Below w.heap.size w V2):=zH (HWV.out.trans (HD2.out.mono HWV.out.size));clear hb2;clear b0 b1 b2 b3 b4 b5 b6 b7;have b0:V2.cell? ⟨Wr.heap.size,0,none⟩ = some (.string s.nm):=(cR 0 HX2.out).trans rfl;have b1:V2.cell? ⟨Wr.heap.size,1,none⟩ = some (.slice s.A s.vs.length s.c):=(cR 1 HX2.out).trans rfl;have b2:V2.cell? ⟨Wr.heap.size,2,none⟩ = some (.bool s.L.neg):=(cR 2 HX2.out).trans rfl;have b3:V2.cell? ⟨Wr.heap.size,3,none⟩ = some (.slice s.L.A s.L.N.length s.L.c):=(cR 3 HX2.out).trans rfl;have b4:V2.cell? ⟨Wr.heap.size,4,none⟩ = some (.slice s.L.B s.L.D.length s.L.d):=(cR 4 HX2.out).trans rfl;have b5:V2.cell? ⟨Wr.heap.size,5,none⟩ = some (.bool s.S.neg):=(cR 5 HX2.out).trans rfl;have b6:V2.cell? ⟨Wr.heap.size,6,none⟩ = some (.slice s.S.A s.S.N.length s.S.c):=(cR 6 HX2.out).trans rfl;have b7:V2.cell? ⟨Wr.heap.size,7,none⟩ = some (.slice s.S.B s.S.D.length s.S.d):=(cR 7 HX2.out).trans rfl;by_cases g8:Xp psu = true;rotate_left
    ·have g8N:=zH g8;have q8:Xp psu = false:=WQ.2 g8;rw [q8];clear g8 q8;have HF:Hid (r = false):=zH (by rw [HRk.out,HDR.out];exact Xj (J7 (fun h=>g8N.out h.2.2.2.2.2.2.2.1)));go_wp2_with fail;go_ret;exact ⟨by rw [HF.out];rfl,HW2.out⟩
    have g8Y:=zH g8;rw [g8];clear g8;go_wp2_with fail;refine (XU s.L s.S ple psu V2 (HOV.out.L.below HD2.out) (HOV.out.S.below HD2.out) HOV.out.fL HOV.out.fS (XH (ple + -psu)) (zH rfl)).mono ?_;rintro e V3 ⟨rfl,hb3⟩;have HD3:=zH (HD2.out.trans (hb3.mono HD2.out.size));have HX3:Hid (V3.heap[Wr.heap.size]? = some (.cells #[.string s.nm,.slice s.A s.vs.length s.c,.bool s.L.neg,.slice s.L.A s.L.N.length s.L.c,.slice s.L.B s.L.D.length s.L.d,.bool s.S.neg,.slice s.S.A s.S.N.length s.S.c,.slice s.S.B s.S.D.length s.S.d] 79 (0,0))):=zH ((hb3.block _ (by have:=HSVs.out;have:=HD2.out.size;omega)).trans HX2.out);have HW3:Hid (Below w.heap.size w V3):=zH (HWV.out.trans (HD3.out.mono HWV.out.size));clear hb3;clear b0 b1 b2 b3 b4 b5 b6 b7;have b0:V3.cell? ⟨Wr.heap.size,0,none⟩ = some (.string s.nm):=(cR 0 HX3.out).trans rfl;have b1:V3.cell? ⟨Wr.heap.size,1,none⟩ = some (.slice s.A s.vs.length s.c):=(cR 1 HX3.out).trans rfl;have b2:V3.cell? ⟨Wr.heap.size,2,none⟩ = some (.bool s.L.neg):=(cR 2 HX3.out).trans rfl;have b3:V3.cell? ⟨Wr.heap.size,3,none⟩ = some (.slice s.L.A s.L.N.length s.L.c):=(cR 3 HX3.out).trans rfl;have b4:V3.cell? ⟨Wr.heap.size,4,none⟩ = some (.slice s.L.B s.L.D.length s.L.d):=(cR 4 HX3.out).trans rfl;have b5:V3.cell? ⟨Wr.heap.size,5,none⟩ = some (.bool s.S.neg):=(cR 5 HX3.out).trans rfl;have b6:V3.cell? ⟨Wr.heap.size,6,none⟩ = some (.slice s.S.A s.S.N.length s.S.c):=(cR 6 HX3.out).trans rfl;have b7:V3.cell? ⟨Wr.heap.size,7,none⟩ = some (.slice s.S.B s.S.D.length s.S.d):=(cR 7 HX3.out).trans rfl;by_cases g9:¬ 0 < XH (ple + -psu);rotate_left
    ·have g9N:=zH g9;have q9 : 0 < XH (ple + -psu):=Wb1.1 g9;clear g9;have HF:Hid (r = false):=zH (by rw [HRk.out,HDR.out];exact Xj (J7 (fun h=>g9N.out h.2.2.2.2.2.2.2.2)));go_wp2_with fail;go_ret;exact ⟨by rw [HF.out];rfl,HW3.out⟩
    have g9Y:=zH g9;have HSL:=zH ((Zo (names:=names) (s:=⟨s.nm,s.vs,ple,psu⟩)).2 ⟨g1Y.out,g2Y.out,g3Y.out,g4Y.out,g5Y.out,g6Y.out,g7Y.out,g8Y.out,g9⟩);obtain ⟨V4,hu4,hm4,hg4⟩:=SM.put (HNV.out.below HD3.out) (k:=s.nm) (by have:=HSZ.out.1;unfold maxLen;omega) g2Y.out;have HN4:=zH hm4;have HS4:Hid (SM V4 (w.heap.size + 1 + 1) values):=zH ((HSV.out.below HD3.out).grown hg4 (by simp));have HB4:Hid (Below W0.heap.size W0 V4):=zH ((HBW.out.trans (HD3.out.mono HBW.out.size)).grown hg4 (by have:=HBW.out.size;have:=HD3.out.size;omega) (fun k hk=>by injection hk with hk;have:=HS0.out;omega));have HX4:Hid (V4.heap[Wr.heap.size]? = some (.cells #[.string s.nm,.slice s.A s.vs.length s.c,.bool s.L.neg,.slice s.L.A s.L.N.length s.L.c,.slice s.L.B s.L.D.length s.L.d,.bool s.S.neg,.slice s.S.A s.S.N.length s.S.c,.slice s.S.B s.S.D.length s.S.d] 79 (0,0))):=zH ((hg4.block _ (by have:=HSVs.out;have:=HD3.out.size;omega) (by intro e;injection e with e;omega)).trans HX3.out);have HO4:Hid (Lies V4 s.A (sbs s.vs)):=zH (HOK0.out.lies.below HB4.out);clear hm4 hg4;clear b1 b2 b3 b4 b5 b6 b7;have b1:V4.cell? ⟨Wr.heap.size,1,none⟩ = some (.slice s.A s.vs.length s.c):=(cR 1 HX4.out).trans rfl;go_wp2_with fail;have HVG:Hid (J0 values (s.vs.take 0) = some values):=zH rfl;clear hu4 b1 b0;go_loopw [119] (fun t wr=>∃ (j:Nat) (seen:List BA),j <= s.vs.length /\ t = .int .i64 j /\ Hid (SM wr (w.heap.size + 1) (names ++ [s.nm])) /\ Hid (SM wr (w.heap.size + 1 + 1) seen) /\ Hid (J0 values (s.vs.take j) = some seen) /\ Hid (Below W0.heap.size W0 wr)) (fun t _=>s.vs.length - (intOf t).toNat)
    case atStart=>exact ⟨0,values,by omega,rfl,HN4,HS4,HVG,HB4⟩
    case round=>
     obtain ⟨j,seen,hj,rfl,HNj,HSj,HVj,HBj⟩:=hrel;clear HN4 HS4 HVG HB4;obtain ⟨Wj,rfl⟩:∃ X,X = wr:=⟨_,rfl⟩;by_cases hjl:j < s.vs.length
     ·have hjl':(j:Int) < (s.vs.length:Int):=(by omega);obtain ⟨bx,ox,eA,hbx,hcx⟩:=(HOK0.out.lies.below HBj.out) (by simp;omega);have hcv:=hcx j (.string s.vs[j]) (by simp [gE hjl]);have hvz:=HSZ.out.2 _ (gM hjl);have HNX:=zH (ZbX HVj.out hjl);have HBAD:=zH (Zdd HVj.out hjl);have HJV:Hid (Below w.heap.size w Wj):=zH (HB0.out.trans (HBj.out.mono HB0.out.size));generalize s.vs[j] = v at *
      rw [eA];clear hcx;go_wp2_with fail;refine (Zcv v Wj hvz (Xd v) (zH rfl)).mono ?_;rintro e w1 ⟨rfl,hw1⟩;subst hw1;have hlk:=SM.look HSj.out v (by unfold maxLen;omega);by_cases g1:Xd v = true
      ·by_cases g2:v ∉ seen
       ·have HNX2:Hid (J0 values (s.vs.take (j + 1)) = some (seen ++ [v])):=zH (by rw [HNX.out,WA ⟨g1,g2⟩]);obtain ⟨V5,hu5,hm5,hg5⟩:=HSj.out.put (k:=v) (by unfold maxLen;omega) g2;have HM5:=zH hm5;have HN5:Hid (SM V5 (w.heap.size + 1) (names ++ [s.nm])):=zH (HNj.out.grown hg5 (by simp));have HB5:Hid (Below W0.heap.size W0 V5):=zH (HBj.out.grown hg5 HBj.out.size (fun k hk=>by injection hk with hk;have:=HS0.out;omega));rw [dF g2] at hlk;rw [g1];clear hm5 hg5 g1 g2 HBAD HNX;go_wp2_with fail;exact ⟨⟨j + 1,seen ++ [v],by omega,by go_num,HN5,HM5,HNX2,HB5⟩,by simp [intOf];omega⟩
       ·have HF:Hid (r = false):=zH (by rw [HRk.out,HDR.out];exact US (HBAD.out (fun h=>g2 h.2)));rw [Wi (Wb1.1 g2)] at hlk;rw [g1];clear g1 g2 HBAD HNX;go_wp2_with fail;go_ret;exact ⟨by rw [HF.out];rfl,HJV.out⟩
      ·have HF:Hid (r = false):=zH (by rw [HRk.out,HDR.out];exact US (HBAD.out (fun h=>g1 h.1)));rw [WQ.2 g1];clear g1 HBAD HNX;go_wp2_with fail;go_ret;exact ⟨by rw [HF.out];rfl,HJV.out⟩
     ·have hjl':¬ (j:Int) < (s.vs.length:Int):=(by omega);have hvg:=HVj.out;rw [Wm (by omega)] at hvg;have HRN:Hid (r = YK (names ++ [s.nm]) seen (Ps.drop (k + 1))):=zH (by rw [HRk.out,HDR.out];exact Zcc HSL.out hvg);clear hvg;go_wp2_with fail;exact ⟨⟨k + 1,names ++ [s.nm],seen,by omega,by go_num,HNj,HSj,HRN,HBj⟩,by simp [intOf];omega⟩
   ·have hlt':¬ (k:Int) < (Ss.length:Int):=(by omega);have HT:Hid (r = true):=zH (by rw [HRk.out,WcD (by rw [<- HLN.out];omega)];rfl);have HWk:Hid (Below w.heap.size w Wr):=zH (HB0.out.trans (HBk.out.mono HB0.out.size));go_wp2_with fail;go_ret;exact ⟨by rw [HT.out];rfl,HWk.out⟩
 ·have HF:Hid (r = false):=zH (by
   rw [<- hr.out];unfold Zq;rw [dF (by rw [<- HLN.out];exact hh)];rfl)
  clear hr;have hh':(Ss.length:Int) < 1 ∨ (1 <= (Ss.length:Int) /\ 20 < (Ss.length:Int)) ∨ (1 <= (Ss.length:Int) /\ (Ss.length:Int) <= 20 /\ pat < 0) ∨ (1 <= (Ss.length:Int) /\ (Ss.length:Int) <= 20 /\ 0 <= pat /\ 100 < pat) ∨ (1 <= (Ss.length:Int) /\ (Ss.length:Int) <= 20 /\ 0 <= pat /\ pat <= 100 /\ prm < 0) ∨ (1 <= (Ss.length:Int) /\ (Ss.length:Int) <= 20 /\ 0 <= pat /\ pat <= 100 /\ 0 <= prm /\ 10000 < prm) ∨
    (1 <= (Ss.length:Int) /\ (Ss.length:Int) <= 20 /\ 0 <= pat /\ pat <= 100 /\ 0 <= prm /\ prm <= 10000 /\ need < 0) ∨ (1 <= (Ss.length:Int) /\ (Ss.length:Int) <= 20 /\ 0 <= pat /\ pat <= 100 /\ 0 <= prm /\ prm <= 10000 /\ 0 <= need /\ prm < need):=by
   unfold XC at hh;omega
  clear hh;rcases hh' with h1 | ⟨h1,h2⟩ | ⟨h1,h2,h3⟩ | ⟨h1,h2,h3,h4⟩ | ⟨h1,h2,h3,h4,h5⟩ | ⟨h1,h2,h3,h4,h5,h6⟩ | ⟨h1,h2,h3,h4,h5,h6,h7⟩ | ⟨h1,h2,h3,h4,h5,h6,h7,h8⟩
  all_goals
   go_enter Tryz.func74,Tryz.ntmps74;go_wp2_with fail;rw [<- hW0];clear hW0;go_wp2_with fail;go_ret;exact ⟨by rw [HF.out];rfl,HB0.out⟩
end Go.Proofs.YtcjicjfbippmnaaGreat
