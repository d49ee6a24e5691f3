/- TalkBetter -/
import Derived.Test.YtcjicjfbippmnaaGreatMTBett44
set_option maxRecDepth 100000
set_option maxHeartbeats 32000000
namespace Ear
open Go.Proofs.YtcjicjfbippmnaaGreat

structure PEv where
 kind:Int
 val:BA
 q:Rat
 at_:Int
def ZbQ (D:PDl) (E:PEv):Bool × PDl:=
 if E.kind = 2 ∨ E.kind = 3 then
  match D.F[Uf D.F]?,D.S[Uf D.F]? with
  | some f,some s=>if Zj3 D f s E.q E.at_ = true then (true,D.put (Uf D.F) (if E.kind = 2 then { f with st:=3 } else noR f)) else (false,D)
  | _,_=>(false,D)
 else if E.kind = 4 then
  match D.F[ZaQ D.S E.val]?,D.S[ZaQ D.S E.val]? with
  | some f,some s=>(match Zgb f s E.q E.val with | some f'=>(true,D.put (ZaQ D.S E.val) f') | none=>(false,D))
  | _,_=>(false,D)
 else (false,D)
def Zhn (D:PDl) (E:PEv):Prop:=¬ (1 <= E.kind /\ E.kind <= 4) ∨ Zq E.q = false ∨ (E.kind ≠ 4 /\ E.val ≠ ⟨#[]⟩) ∨ E.at_ < 0 ∨ Ze3 < E.at_ ∨ E.at_ < D.last
instance (D:PDl) (E:PEv):Decidable (Zhn D E):=by unfold Zhn;infer_instance
def Qs (D:PDl) (E:PEv):Int × PDl:=
 if Zhn D E then (2,D) else if D.stand ≠ 0 then (8,D)
 else (0,Zfp (XC (ZbQ (Js D E.at_) E).2 (ZbQ (Js D E.at_) E).1) E.at_)
structure DlK (n:Int) (D:PDl):Prop where
 len:D.F.length = D.S.length
 few:D.F.length <= 20
 vals:∀ p ∈ D.S,p.vs.length <= 50
 ref:∀ f ∈ D.F,(f.ref.length:Int) <= n
 pat : 0 <= D.pat /\ D.pat <= 100
 prm : 0 <= D.prm /\ D.prm <= 10000
 need : 0 <= D.need /\ D.need <= 10000
 prompt : 0 <= D.prompt /\ D.prompt <= Ze3
 cuts : 0 <= D.cuts /\ D.cuts <= n
 bad : 0 <= D.bad /\ D.bad <= n
 ask:D.stand = 0 -> Uf D.F < D.F.length
theorem DlK.mono {n m:Int} {D:PDl} (h:DlK n D) (hm:n <= m):DlK m D:=
 ⟨h.len,h.few,h.vals,fun f hf=>Int.le_trans (h.ref f hf) hm,h.pat,h.prm,h.need,h.prompt,⟨h.cuts.1,Int.le_trans h.cuts.2 hm⟩,⟨h.bad.1,Int.le_trans h.bad.2 hm⟩,h.ask⟩
theorem Zgn {f f':PFl} {s:PSl} {q:Rat} {x:BA} (h:Zgb f s q x = some f'):f'.ref.length <= f.ref.length:=by
 unfold Zgb at h;split at h
 ·cases h
 ·injection h with h
  rw [<- h];exact List.length_filter_le _ _
theorem Zig (f:PFl):(noR f).ref.length <= f.ref.length + 1:=by
 unfold noR;simp only;split
 ·omega
 ·simp
structure EffK (D D2:PDl):Prop where
 S:D2.S = D.S
 pat:D2.pat = D.pat
 prm:D2.prm = D.prm
 need:D2.need = D.need
 stand:D2.stand = D.stand
 bad:D2.bad = D.bad
 cuts:D2.cuts = D.cuts
 prompt:D2.prompt = D.prompt
 last:D2.last = D.last
 len:D2.F.length = D.F.length
 ref:∀ n:Int,(∀ f ∈ D.F,(f.ref.length:Int) <= n) -> ∀ f ∈ D2.F,(f.ref.length:Int) <= n + 1
theorem EffK.refl (D:PDl):EffK D D:=⟨rfl,rfl,rfl,rfl,rfl,rfl,rfl,rfl,rfl,rfl,fun n h f hf=>by have:=h f hf;omega⟩
theorem EffK.put (D:PDl) (k:Nat) (f f':PFl) (hk:D.F[k]? = some f) (hf:f'.ref.length <= f.ref.length + 1):EffK D (D.put k f'):=
 ⟨rfl,rfl,rfl,rfl,rfl,rfl,rfl,rfl,rfl,List.length_set,fun n h x hx=>by
  rcases List.mem_or_eq_of_mem_set hx with h1 | rfl
  ·have:=h x h1;omega
  ·have:=h f (List.mem_of_getElem? hk);omega⟩
theorem ZhM (D:PDl) (E:PEv):EffK D (ZbQ D E).2:=by
 unfold ZbQ;split
 ·split
  ·rename_i f s hf hs;split
   ·refine EffK.put D _ f _ hf ?_;split
    ·simp
    ·exact Zig f
   ·exact EffK.refl D
  ·exact EffK.refl D
 ·split
  ·split
   ·rename_i f s hf hs;split
    ·rename_i f' hv;exact EffK.put D _ f _ hf (by have:=Zgn hv;omega)
    ·exact EffK.refl D
   ·exact EffK.refl D
  ·exact EffK.refl D
theorem Zfq (D:PDl) (t:Int):(Js D t).S = D.S /\ (Js D t).F = D.F /\ (Js D t).pat = D.pat /\ (Js D t).prm = D.prm /\ (Js D t).need = D.need /\ (Js D t).stand = D.stand /\ (Js D t).bad = D.bad /\ (Js D t).prompt = D.prompt /\ (Js D t).last = D.last /\ ((Js D t).cuts = D.cuts ∨ (Js D t).cuts = D.cuts + 1):=by
 unfold Js;split
 ·exact ⟨rfl,rfl,rfl,rfl,rfl,rfl,rfl,rfl,rfl,.inr rfl⟩
 ·exact ⟨rfl,rfl,rfl,rfl,rfl,rfl,rfl,rfl,rfl,.inl rfl⟩
theorem Zf0 {F:List PFl}:¬ Q0 F < 0 -> Uf F < F.length:=by
 unfold Q0;split
 ·rename_i h;intro _;exact h
 ·intro h;omega
theorem Zcn {n:Int} {D:PDl} (h:DlK n D) (E:PEv):DlK (n + 1) (Qs D E).2:=by
 have h0 : 0 <= n:=Int.le_trans h.bad.1 h.bad.2;unfold Qs;split
 ·exact h.mono (by omega)
 ·split
  ·exact h.mono (by omega)
  ·rename_i hb hst;obtain ⟨c1,c2,c3,c4,c5,c6,c7,c8,c9,c10⟩:=Zfq D E.at_;have k:=ZhM (Js D E.at_) E;have hat : 0 <= E.at_ /\ E.at_ <= Ze3:=by
    unfold Zhn at hb;constructor
    ·exact Int.not_lt.1 fun hx=>hb (.inr (.inr (.inr (.inl hx))))
    ·exact Int.not_lt.1 fun hx=>hb (.inr (.inr (.inr (.inr (.inl hx)))))
   have hstd:D.stand = 0:=Classical.byContradiction hst;generalize hD2:(ZbQ (Js D E.at_) E).2 = D2 at *
   generalize (ZbQ (Js D E.at_) E).1 = r at *
   have kref:=k.ref n (by rw [c2];exact h.ref);have hl:=h.len;have hfw:=h.few;have hv:=h.vals;have p1:=h.pat;have p2:=h.prm;have p3:=h.need;have p4:=h.cuts;have p5:=h.bad;have q1:=k.S;have q2:=k.pat;have q3:=k.prm;have q4:=k.need;have q5:=k.stand;have q6:=k.bad;have q7:=k.cuts;have q10:=k.len;rw [c1] at q1;rw [c3] at q2;rw [c4] at q3;rw [c5] at q4;rw [c6] at q5;rw [c7] at q6;rw [c2] at q10;have hB:(XC D2 r).S = D2.S /\ (XC D2 r).F = D2.F /\ (XC D2 r).pat = D2.pat /\ (XC D2 r).prm = D2.prm /\ (XC D2 r).need = D2.need /\ (XC D2 r).cuts = D2.cuts /\ (0 <= (XC D2 r).bad /\ (XC D2 r).bad <= n + 1):=by
    unfold XC;split
    ·exact ⟨rfl,rfl,rfl,rfl,rfl,rfl,by show (0:Int) <= 0;omega,by show (0:Int) <= n + 1;omega⟩
    ·split
     ·exact ⟨rfl,rfl,rfl,rfl,rfl,rfl,by show 0 <= D2.bad + 1;omega,by show D2.bad + 1 <= n + 1;omega⟩
     ·exact ⟨rfl,rfl,rfl,rfl,rfl,rfl,by show 0 <= D2.bad + 1;omega,by show D2.bad + 1 <= n + 1;omega⟩
   obtain ⟨b1,b2,b3,b4,b5,b6,b7⟩:=hB;generalize XC D2 r = D3 at *
   have hcut : 0 <= D3.cuts /\ D3.cuts <= n + 1:=(by rw [b6,q7];rcases c10 with e | e <;> rw [e] <;> omega);unfold Zfp;split
   ·exact ⟨by simp only;rw [b2,b1,q10,q1];exact hl,by simp only;rw [b2,q10];exact hfw,by simp only;rw [b1,q1];exact hv,by simp only;rw [b2];exact kref,by simp only;rw [b3,q2];exact p1,by simp only;rw [b4,q3];exact p2,by simp only;rw [b5,q4];exact p3,hat,hcut,b7,fun e=>by cases e⟩
   ·rename_i ha;exact ⟨by simp only;rw [b2,b1,q10,q1];exact hl,by simp only;rw [b2,q10];exact hfw,by simp only;rw [b1,q1];exact hv,by simp only;rw [b2];exact kref,by simp only;rw [b3,q2];exact p1,by simp only;rw [b4,q3];exact p2,by simp only;rw [b5,q4];exact p3,hat,hcut,b7,fun _=>Zf0 ha⟩
end Ear
namespace Go.Proofs.YtcjicjfbippmnaaGreat
open Go.RowKit Ear

theorem DlM.lens {w:World} {bs:Nat} {a:DlA} {D:PDl} (h:DlM w bs a D):a.Fm.length = D.F.length /\ a.Ss.length = D.F.length:=by
 have h1:=congrArg List.length h.pure;simp at h1;exact ⟨h1,by rw [<- h.len];exact h1⟩
theorem ZfJ {k:Int}:JG ZfK k = none ↔ ¬ (1 <= k /\ k <= 4):=by
 unfold ZfK;simp only [JG];constructor
 ·intro h h2;split at h
  ·cases h
  ·split at h
   ·cases h
   ·split at h
    ·cases h
    ·split at h
     ·cases h
     ·omega
 ·intro h;rw [if_neg (by omega),if_neg (by omega),if_neg (by omega),if_neg (by omega)]
def Zj2 (D:PDl):Value × Int:=
 if D.stand ≠ 0 then (.agg #[.int .i64 0,.bool false,.string ⟨#[]⟩,.int .i64 0],7)
 else (.agg #[.int .i64 (Uf D.F),.bool (decide ((D.F[Uf D.F]?.map (·.st)).getD 0 = 2)),.string ((D.F[Uf D.F]?.map (·.val)).getD ⟨#[]⟩),.int .i64 D.prompt],0)
theorem Zi7 (n:Int) (bs:Nat) (a:DlA) (D:PDl) (w:World) (h:DlM w bs a D) (hK:DlK n D) :
  Calls Tryz.prog 36 #[.pointer (some ⟨a.q,0,none⟩)] w fun e w'=>e = .returned (.tuple #[(Zj2 D).1,.int .i64 (Zj2 D).2]) /\ Below w.heap.size w w':=by
 obtain ⟨hl1,hl2⟩:=h.lens;have hfw:=hK.few;unfold Zj2;by_cases hst:D.stand = 0
 ·have hask:=hK.ask hst;rw [if_neg (by simpa using hst)];have:=Zke bs a D w h hst (Uf D.F) _ (gE hask) (if_pos hask) (by omega);rw [gE hask];exact this
 ·rw [if_pos (by simpa using hst)];exact Zhs bs a D w h hst
theorem Zcc (A:Option Addr) (c:Nat) (Ss:List SlM) (Ps:List PSl) (pat prm need:Int) (w:World) (h:PlM w A Ss Ps) (hsz:Hid (∀ s ∈ Ss,s.nm.size <= 1000000 /\ ∀ v ∈ s.vs,v.size <= 1000000)) (r:Bool) (hr:Hid (Zce pat prm need Ps = r)) :
  Calls Tryz.prog 74 #[.agg #[.slice A Ss.length c,.int .i64 pat,.int .i64 prm,.int .i64 need]] w (Zdq r w):=by
 obtain ⟨W0,hW0⟩:∃ W0:World,W0 = w.alloc (.cells #[.slice A Ss.length c,.int .i64 pat,.int .i64 prm,.int .i64 need] 48):=⟨_,rfl⟩;have HB0:Hid (Below w.heap.size w W0):=zH (by rw [hW0];exact bR.alloc nR _);have HX0:Hid (W0.heap[w.heap.size]? = some (.cells #[.slice A Ss.length c,.int .i64 pat,.int .i64 prm,.int .i64 need] 48 (0,0))):=zH (by rw [hW0];exact heap_alloc_new w _);have HPL:=zH (h.below HB0.out);have HS0:Hid (W0.heap.size = w.heap.size + 1):=zH (by rw [hW0];simp);have c0:W0.cell? ⟨w.heap.size,0,none⟩ = some (.slice A Ss.length c):=(cR 0 HX0.out).trans rfl;have c1:W0.cell? ⟨w.heap.size,1,none⟩ = some (.int .i64 pat):=(cR 1 HX0.out).trans rfl;have c2:W0.cell? ⟨w.heap.size,2,none⟩ = some (.int .i64 prm):=(cR 2 HX0.out).trans rfl;have c3:W0.cell? ⟨w.heap.size,3,none⟩ = some (.int .i64 need):=(cR 3 HX0.out).trans rfl;have HLN:=zH h.len;clear h;by_cases hh:ZG Ss.length pat prm need
 ·obtain ⟨h1,h2,h3,h4,h5,h6,h7,h8⟩:=hh;have h1':(1:Int) <= (Ss.length:Int):=by omega
  have h2':(Ss.length:Int) <= 20:=by omega
  have HR:Hid (r = Zp [] [Zgg,noB] Ps):=zH (by
   rw [<- hr.out];unfold Zce;rw [decide_eq_true (by rw [<- HLN.out];exact ⟨h1,h2,h3,h4,h5,h6,h7,h8⟩)];rfl)
  clear hr;have hmk:∀ W:World,(Instr.makeMap 186 none).run Tryz.prog W = .ok (.map (some W.heap.size)) (W.alloc (.map #[] 0)):=fun W=>rfl;obtain ⟨V,hV⟩:∃ V:World,V = (W0.alloc (.map #[] 0)).alloc (.map #[] 0):=⟨_,rfl⟩;have HVS:Hid (V.heap.size = W0.heap.size + 2):=zH (by rw [hV];simp);have HBV:Hid (Below W0.heap.size W0 V):=zH (by rw [hV];exact al2 W0 _ _);have HM1:Hid (SM V (w.heap.size + 1) []):=zH (by rw [hV,<- HS0.out];exact (MapIs.made Tryz.prog 9 Value.string Value.bool W0).below (bR.alloc nR _));have HM2:Hid (SM V (w.heap.size + 1 + 1) []):=zH (by rw [hV,<- HS0.out,show W0.heap.size + 1 = (W0.alloc (.map #[] 0)).heap.size by simp];exact MapIs.made Tryz.prog 9 Value.string Value.bool (W0.alloc (.map #[] 0)));obtain ⟨V1,hu1,hm1,hg1⟩:=HM2.out.put (k:=Zgg) (by unfold maxLen;decide) (by simp);obtain ⟨V2,hu2,hm2,hg2⟩:=hm1.put (k:=noB) (by unfold maxLen;decide) (by decide);have HN2:Hid (SM V2 (w.heap.size + 1) []):=zH ((HM1.out.grown hg1 (by simp)).grown hg2 (by simp));have HS2:Hid (SM V2 (w.heap.size + 1 + 1) [Zgg,noB]):=zH hm2;have HBV2:Hid (Below W0.heap.size W0 V2):=zH ((HBV.out.grown hg1 (by have:=HVS.out;omega) (fun k hk=>by injection hk with hk;have:=HS0.out;omega)).grown hg2 (by have:=hg1.size;have:=HVS.out;omega) (fun k hk=>by injection hk with hk;have:=HS0.out;omega));have hsV2:W0.heap.size + 2 <= V2.heap.size:=by have:=hg1.size;have:=hg2.size;have:=HVS.out;omega
  rw [hV] at hu1;clear hV HM1 HM2 hm1 hg1 hm2 hg2 HBV;have hu1':(Instr.mapUpdate 186 (.map (some (w.heap.size + 1 + 1))) (.string ⟨#[121,101,115]⟩) (.bool true)).run Tryz.prog ((W0.alloc (.map #[] 0)).alloc (.map #[] 0)) = .ok () V1:=hu1;have hu2':(Instr.mapUpdate 186 (.map (some (w.heap.size + 1 + 1))) (.string ⟨#[110,111]⟩) (.bool true)).run Tryz.prog V1 = .ok () V2:=hu2;have HC0:Hid (V2.cell? ⟨w.heap.size,0,none⟩ = some (.slice A Ss.length c)):=zH ((HBV2.out.cell (p:=⟨w.heap.size,0,none⟩) (by have:=HS0.out;show w.heap.size < _;omega)).trans c0);have hcc:=HC0.out;clear hu1 hu2;go_enter Tryz.func74,Tryz.ntmps74;go_wp2_with fail;rw [<- hW0];clear hW0;rw [hu1'];go_simp;go_wp2_with fail;clear hmk hu1' hu2' hcc c0 c1 c2 c3;go_loopw [57] (fun t wr=>∃ (k:Nat) (names values:List BA),k <= Ss.length /\ t = .int .i64 k /\ Hid (SM wr (w.heap.size + 1) names) /\ Hid (SM wr (w.heap.size + 1 + 1) values) /\ Hid (r = Zp names values (Ps.drop k)) /\ Hid (Below W0.heap.size W0 wr)) (fun t _=>Ss.length - (intOf t).toNat)
  case atStart=>exact ⟨0,[],[Zgg,noB],by omega,rfl,HN2,HS2,HR,HBV2⟩
  case round=>
   obtain ⟨k,names,values,hk,rfl,HN,HS,HRk,HBk⟩:=hrel;clear HN2 HS2 HR HBV2;obtain ⟨Wr,rfl⟩:∃ X,X = wr:=⟨_,rfl⟩;have hsr:W0.heap.size <= Wr.heap.size:=HBk.out.size;have hbm:w.heap.size + 1 + 1 < Wr.heap.size:=HS.out.lt;by_cases hlt:k < Ss.length
   ·have hlt':(k:Int) < (Ss.length:Int):=(by omega);have hltP:k < Ps.length:=(by rw [<- HLN.out];exact hlt);obtain ⟨ba,off,rfl,hba,hcell⟩:=(HPL.out.below HBk.out).at_ hlt;have HOK0:=zH (HPL.out.ok k _ _ (gE hlt) (gE hltP));have HOK:=zH ((HPL.out.below HBk.out).ok k _ _ (gE hlt) (gE hltP));have HSZ:=zH (hsz.out _ (yM hlt));have HDR:Hid (Ps.drop k = Ps[k] :: Ps.drop (k + 1)):=zH (List.drop_eq_getElem_cons hltP);generalize Ss[k] = s at *
    generalize Ps[k] = p at *
    have k0:=hcell 0 _ rfl;have k1:=hcell 1 _ rfl;have k2:=hcell 2 _ rfl;have k3:=hcell 3 _ rfl;have k4:=hcell 4 _ rfl;have k5:=hcell 5 _ rfl;have k6:=hcell 6 _ rfl;have k7:=hcell 7 _ rfl;rw [Nat.add_zero] at k0;clear hcell;obtain ⟨pn,pv,ple,psu⟩:=p;have hn1:=HOK.out.nm;have hn2:=HOK.out.vs;simp only at hn1 hn2;subst hn1 hn2;go_wp2_with fail;obtain ⟨V,hV⟩:∃ V:World,V = Wr.alloc (.cells #[.string s.nm,.slice s.A s.vs.length s.c,.bool s.L.neg,.slice s.L.A s.L.N.length s.L.c,.slice s.L.B s.L.D.length s.L.d,.bool s.S.neg,.slice s.S.A s.S.N.length s.S.c,.slice s.S.B s.S.D.length s.S.d] 79):=⟨_,rfl⟩;have HBV:Hid (Below Wr.heap.size Wr V):=zH (by rw [hV];exact bR.alloc nR _);have HXV:Hid (V.heap[Wr.heap.size]? = some (.cells #[.string s.nm,.slice s.A s.vs.length s.c,.bool s.L.neg,.slice s.L.A s.L.N.length s.L.c,.slice s.L.B s.L.D.length s.L.d,.bool s.S.neg,.slice s.S.A s.S.N.length s.S.c,.slice s.S.B s.S.D.length s.S.d] 79 (0,0))):=zH (by rw [hV];exact heap_alloc_new Wr _);have HSVs:Hid (V.heap.size = Wr.heap.size + 1):=zH (by rw [hV];simp);rw [<- hV];clear hV k0 k1 k2 k3 k4 k5 k6 k7;have HNV:=zH (HN.out.below HBV.out);have HSV:=zH (HS.out.below HBV.out);have HOV:=zH (HOK.out.below HBV.out);have HBW:Hid (Below W0.heap.size W0 V):=zH (HBk.out.trans (HBV.out.mono hsr));have HWV:Hid (Below w.heap.size w V):=zH (HB0.out.trans (HBW.out.mono HB0.out.size));have b0:V.cell? ⟨Wr.heap.size,0,none⟩ = some (.string s.nm):=(cR 0 HXV.out).trans rfl;have b1:V.cell? ⟨Wr.heap.size,1,none⟩ = some (.slice s.A s.vs.length s.c):=(cR 1 HXV.out).trans rfl;have b2:V.cell? ⟨Wr.heap.size,2,none⟩ = some (.bool s.L.neg):=(cR 2 HXV.out).trans rfl;have b3:V.cell? ⟨Wr.heap.size,3,none⟩ = some (.slice s.L.A s.L.N.length s.L.c):=(cR 3 HXV.out).trans rfl;have b4:V.cell? ⟨Wr.heap.size,4,none⟩ = some (.slice s.L.B s.L.D.length s.L.d):=(cR 4 HXV.out).trans rfl;refine (ZcH s.nm V HSZ.out.1 (Zk s.nm) (zH rfl)).mono ?_;rintro e w' ⟨rfl,hw'⟩;subst hw';by_cases g1:Zk s.nm = true;rotate_left
    ·have g1N:=zH g1;have q1:Zk s.nm = false:=Bool.eq_false_iff.2 g1;clear g1;have HF:Hid (r = false):=zH (by rw [HRk.out,HDR.out];exact Xp (XH (fun h=>g1N.out h.1)));go_wp2_with fail;go_ret;exact ⟨by rw [HF.out];rfl,HWV.out⟩
    have g1Y:=zH g1;rw [g1];clear g1;have hlk:=SM.look HNV.out s.nm (by have:=HSZ.out.1;unfold maxLen;omega);by_cases g2:s.nm ∉ names;rotate_left
    ·have g2N:=zH g2;rw [decide_eq_true (Classical.not_not.1 g2)] at hlk;clear g2;have HF:Hid (r = false):=zH (by rw [HRk.out,HDR.out];exact Xp (XH (fun h=>g2N.out h.2.1)));go_wp2_with fail;go_ret;exact ⟨by rw [HF.out];rfl,HWV.out⟩
    have g2Y:=zH g2;rw [dF g2] at hlk;clear g2;by_cases g3:s.nm ≠ Zgg;rotate_left
    ·have g3N:=zH g3;have q3:(s.nm.toList == ([121,101,115]:List UInt8)) = true:=(by rw [toList_eq];exact decide_eq_true (Classical.not_not.1 g3));clear g3;have HF:Hid (r = false):=zH (by rw [HRk.out,HDR.out];exact Xp (XH (fun h=>g3N.out h.2.2.1)));go_wp2_with fail;go_ret;exact ⟨by rw [HF.out];rfl,HWV.out⟩
    have g3Y:=zH g3;have q3:(s.nm.toList == ([121,101,115]:List UInt8)) = false:=(by rw [toList_eq];exact dF g3);clear g3;by_cases g4:s.nm ≠ noB;rotate_left
    ·have g4N:=zH g4;have q4:(s.nm.toList == ([110,111]:List UInt8)) = true:=(by rw [toList_eq];exact decide_eq_true (Classical.not_not.1 g4));clear g4;have HF:Hid (r = false):=zH (by rw [HRk.out,HDR.out];exact Xp (XH (fun h=>g4N.out h.2.2.2.1)));go_wp2_with fail;go_ret;exact ⟨by rw [HF.out];rfl,HWV.out⟩
    have g4Y:=zH g4;have q4:(s.nm.toList == ([110,111]:List UInt8)) = false:=(by rw [toList_eq];exact dF g4);clear g4;by_cases g5 : 1 <= s.vs.length;rotate_left
    ·have g5N:=zH g5;have q5:(s.vs.length:Int) < 1:=(by omega);clear g5;have HF:Hid (r = false):=zH (by rw [HRk.out,HDR.out];exact Xp (XH (fun h=>g5N.out h.2.2.2.2.1)));go_wp2_with fail;go_ret;exact ⟨by rw [HF.out];rfl,HWV.out⟩
    have g5Y:=zH g5;have q5:¬ (s.vs.length:Int) < 1:=(by omega);clear g5;by_cases g6:s.vs.length <= 50;rotate_left
    ·have g6N:=zH g6;have q6:(50:Int) < (s.vs.length:Int):=(by omega);clear g6;have HF:Hid (r = false):=zH (by rw [HRk.out,HDR.out];exact Xp (XH (fun h=>g6N.out h.2.2.2.2.2.1)));go_wp2_with fail;go_ret;exact ⟨by rw [HF.out];rfl,HWV.out⟩
    have g6Y:=zH g6;have q6:¬ (50:Int) < (s.vs.length:Int):=(by omega);clear g6;go_wp2_with fail;refine (Uv s.L ple w' HOV.out.L HOV.out.fL (Zq ple) (zH rfl)).mono ?_;rintro e V1 ⟨rfl,hb1⟩;have HD0:Hid (Below w'.heap.size w' w'):=zH bR;have HD1:=zH (HD0.out.trans (hb1.mono HD0.out.size));have HX1:Hid (V1.heap[Wr.heap.size]? = some (.cells #[.string s.nm,.slice s.A s.vs.length s.c,.bool s.L.neg,.slice s.L.A s.L.N.length s.L.c,.slice s.L.B s.L.D.length s.L.d,.bool s.S.neg,.slice s.S.A s.S.N.length s.S.c,.slice s.S.B s.S.D.length s.S.d] 79 (0,0))):=zH ((hb1.block _ (by have:=HSVs.out;have:=HD0.out.size;omega)).trans HXV.out);have HW1:Hid (Below w.heap.size w V1):=zH (HWV.out.trans (HD1.out.mono HWV.out.size));clear hb1;clear b0 b1 b2 b3 b4;have b0:V1.cell? ⟨Wr.heap.size,0,none⟩ = some (.string s.nm):=(cR 0 HX1.out).trans rfl;have b1:V1.cell? ⟨Wr.heap.size,1,none⟩ = some (.slice s.A s.vs.length s.c):=(cR 1 HX1.out).trans rfl;have b2:V1.cell? ⟨Wr.heap.size,2,none⟩ = some (.bool s.L.neg):=(cR 2 HX1.out).trans rfl;have b3:V1.cell? ⟨Wr.heap.size,3,none⟩ = some (.slice s.L.A s.L.N.length s.L.c):=(cR 3 HX1.out).trans rfl;have b4:V1.cell? ⟨Wr.heap.size,4,none⟩ = some (.slice s.L.B s.L.D.length s.L.d):=(cR 4 HX1.out).trans rfl;have b5:V1.cell? ⟨Wr.heap.size,5,none⟩ = some (.bool s.S.neg):=(cR 5 HX1.out).trans rfl;have b6:V1.cell? ⟨Wr.heap.size,6,none⟩ = some (.slice s.S.A s.S.N.length s.S.c):=(cR 6 HX1.out).trans rfl;have b7:V1.cell? ⟨Wr.heap.size,7,none⟩ = some (.slice s.S.B s.S.D.length s.S.d):=(cR 7 HX1.out).trans rfl;by_cases g7:Zq ple = true;rotate_left
    ·have g7N:=zH g7;have q7:Zq ple = false:=Bool.eq_false_iff.2 g7;rw [q7];clear g7 q7;have HF:Hid (r = false):=zH (by rw [HRk.out,HDR.out];exact Xp (XH (fun h=>g7N.out h.2.2.2.2.2.2.1)));go_wp2_with fail;go_ret;exact ⟨by rw [HF.out];rfl,HW1.out⟩
    have g7Y:=zH g7;rw [g7];clear g7;go_wp2_with fail;refine (Uv s.S psu V1 (HOV.out.S.below HD1.out) HOV.out.fS (Zq psu) (zH rfl)).mono ?_;rintro e V2 ⟨rfl,hb2⟩;have HD2:=zH (HD1.out.trans (hb2.mono HD1.out.size));have HX2:Hid (V2.heap[Wr.heap.size]? = some (.cells #[.string s.nm,.slice s.A s.vs.length s.c,.bool s.L.neg,.slice s.L.A s.L.N.length s.L.c,.slice s.L.B s.L.D.length s.L.d,.bool s.S.neg,.slice s.S.A s.S.N.length s.S.c,.slice s.S.B s.S.D.length s.S.d] 79 (0,0))):=zH ((hb2.block _ (by have:=HSVs.out;have:=HD1.out.size;omega)).trans HX1.out);have HW2:Hid (Below w.heap.size w V2):=zH (HWV.out.trans (HD2.out.mono HWV.out.size));clear hb2;clear b0 b1 b2 b3 b4 b5 b6 b7;have b0:V2.cell? ⟨Wr.heap.size,0,none⟩ = some (.string s.nm):=(cR 0 HX2.out).trans rfl;have b1:V2.cell? ⟨Wr.heap.size,1,none⟩ = some (.slice s.A s.vs.length s.c):=(cR 1 HX2.out).trans rfl;have b2:V2.cell? ⟨Wr.heap.size,2,none⟩ = some (.bool s.L.neg):=(cR 2 HX2.out).trans rfl;have b3:V2.cell? ⟨Wr.heap.size,3,none⟩ = some (.slice s.L.A s.L.N.length s.L.c):=(cR 3 HX2.out).trans rfl;have b4:V2.cell? ⟨Wr.heap.size,4,none⟩ = some (.slice s.L.B s.L.D.length s.L.d):=(cR 4 HX2.out).trans rfl;have b5:V2.cell? ⟨Wr.heap.size,5,none⟩ = some (.bool s.S.neg):=(cR 5 HX2.out).trans rfl;have b6:V2.cell? ⟨Wr.heap.size,6,none⟩ = some (.slice s.S.A s.S.N.length s.S.c):=(cR 6 HX2.out).trans rfl;have b7:V2.cell? ⟨Wr.heap.size,7,none⟩ = some (.slice s.S.B s.S.D.length s.S.d):=(cR 7 HX2.out).trans rfl;by_cases g8:Zq psu = true;rotate_left
    ·have g8N:=zH g8;have q8:Zq psu = false:=Bool.eq_false_iff.2 g8;rw [q8];clear g8 q8;have HF:Hid (r = false):=zH (by rw [HRk.out,HDR.out];exact Xp (XH (fun h=>g8N.out h.2.2.2.2.2.2.2.1)));go_wp2_with fail;go_ret;exact ⟨by rw [HF.out];rfl,HW2.out⟩
    have g8Y:=zH g8;rw [g8];clear g8;go_wp2_with fail;refine (XJ s.L s.S ple psu V2 (HOV.out.L.below HD2.out) (HOV.out.S.below HD2.out) HOV.out.fL HOV.out.fS (Yu (ple + -psu)) (zH rfl)).mono ?_;rintro e V3 ⟨rfl,hb3⟩;have HD3:=zH (HD2.out.trans (hb3.mono HD2.out.size));have HX3:Hid (V3.heap[Wr.heap.size]? = some (.cells #[.string s.nm,.slice s.A s.vs.length s.c,.bool s.L.neg,.slice s.L.A s.L.N.length s.L.c,.slice s.L.B s.L.D.length s.L.d,.bool s.S.neg,.slice s.S.A s.S.N.length s.S.c,.slice s.S.B s.S.D.length s.S.d] 79 (0,0))):=zH ((hb3.block _ (by have:=HSVs.out;have:=HD2.out.size;omega)).trans HX2.out);have HW3:Hid (Below w.heap.size w V3):=zH (HWV.out.trans (HD3.out.mono HWV.out.size));clear hb3;clear b0 b1 b2 b3 b4 b5 b6 b7;have b0:V3.cell? ⟨Wr.heap.size,0,none⟩ = some (.string s.nm):=(cR 0 HX3.out).trans rfl;have b1:V3.cell? ⟨Wr.heap.size,1,none⟩ = some (.slice s.A s.vs.length s.c):=(cR 1 HX3.out).trans rfl;have b2:V3.cell? ⟨Wr.heap.size,2,none⟩ = some (.bool s.L.neg):=(cR 2 HX3.out).trans rfl;have b3:V3.cell? ⟨Wr.heap.size,3,none⟩ = some (.slice s.L.A s.L.N.length s.L.c):=(cR 3 HX3.out).trans rfl;have b4:V3.cell? ⟨Wr.heap.size,4,none⟩ = some (.slice s.L.B s.L.D.length s.L.d):=(cR 4 HX3.out).trans rfl;have b5:V3.cell? ⟨Wr.heap.size,5,none⟩ = some (.bool s.S.neg):=(cR 5 HX3.out).trans rfl;have b6:V3.cell? ⟨Wr.heap.size,6,none⟩ = some (.slice s.S.A s.S.N.length s.S.c):=(cR 6 HX3.out).trans rfl;have b7:V3.cell? ⟨Wr.heap.size,7,none⟩ = some (.slice s.S.B s.S.D.length s.S.d):=(cR 7 HX3.out).trans rfl;by_cases g9:¬ 0 < Yu (ple + -psu);rotate_left
    ·have g9N:=zH g9;have q9 : 0 < Yu (ple + -psu):=Classical.not_not.1 g9;clear g9;have HF:Hid (r = false):=zH (by rw [HRk.out,HDR.out];exact Xp (XH (fun h=>g9N.out h.2.2.2.2.2.2.2.2)));go_wp2_with fail;go_ret;exact ⟨by rw [HF.out];rfl,HW3.out⟩
    have g9Y:=zH g9;have HSL:=zH ((Za9 (names:=names) (s:=⟨s.nm,s.vs,ple,psu⟩)).2 ⟨g1Y.out,g2Y.out,g3Y.out,g4Y.out,g5Y.out,g6Y.out,g7Y.out,g8Y.out,g9⟩);obtain ⟨V4,hu4,hm4,hg4⟩:=SM.put (HNV.out.below HD3.out) (k:=s.nm) (by have:=HSZ.out.1;unfold maxLen;omega) g2Y.out;have HN4:=zH hm4;have HS4:Hid (SM V4 (w.heap.size + 1 + 1) values):=zH ((HSV.out.below HD3.out).grown hg4 (by simp));have HB4:Hid (Below W0.heap.size W0 V4):=zH ((HBW.out.trans (HD3.out.mono HBW.out.size)).grown hg4 (by have:=HBW.out.size;have:=HD3.out.size;omega) (fun k hk=>by injection hk with hk;have:=HS0.out;omega));have HX4:Hid (V4.heap[Wr.heap.size]? = some (.cells #[.string s.nm,.slice s.A s.vs.length s.c,.bool s.L.neg,.slice s.L.A s.L.N.length s.L.c,.slice s.L.B s.L.D.length s.L.d,.bool s.S.neg,.slice s.S.A s.S.N.length s.S.c,.slice s.S.B s.S.D.length s.S.d] 79 (0,0))):=zH ((hg4.block _ (by have:=HSVs.out;have:=HD3.out.size;omega) (by intro e;injection e with e;omega)).trans HX3.out);have HO4:Hid (Lies V4 s.A (sbs s.vs)):=zH (HOK0.out.lies.below HB4.out);clear hm4 hg4;clear b1 b2 b3 b4 b5 b6 b7;have b1:V4.cell? ⟨Wr.heap.size,1,none⟩ = some (.slice s.A s.vs.length s.c):=(cR 1 HX4.out).trans rfl;go_wp2_with fail;have HVG:Hid (XE values (s.vs.take 0) = some values):=zH rfl;clear hu4 b1 b0;go_loopw [119] (fun t wr=>∃ (j:Nat) (seen:List BA),j <= s.vs.length /\ t = .int .i64 j /\ Hid (SM wr (w.heap.size + 1) (names ++ [s.nm])) /\ Hid (SM wr (w.heap.size + 1 + 1) seen) /\ Hid (XE values (s.vs.take j) = some seen) /\ Hid (Below W0.heap.size W0 wr)) (fun t _=>s.vs.length - (intOf t).toNat)
    case atStart=>exact ⟨0,values,by omega,rfl,HN4,HS4,HVG,HB4⟩
    case round=>
     obtain ⟨j,seen,hj,rfl,HNj,HSj,HVj,HBj⟩:=hrel;clear HN4 HS4 HVG HB4;obtain ⟨Wj,rfl⟩:∃ X,X = wr:=⟨_,rfl⟩;by_cases hjl:j < s.vs.length
     ·have hjl':(j:Int) < (s.vs.length:Int):=(by omega);obtain ⟨bx,ox,eA,hbx,hcx⟩:=(HOK0.out.lies.below HBj.out) (by simp;omega);have hcv:=hcx j (.string s.vs[j]) (by simp [gE hjl]);have hvz:=HSZ.out.2 _ (yM hjl);have HNX:=zH (ZbV HVj.out hjl);have HBAD:=zH (ZdB HVj.out hjl);have HJV:Hid (Below w.heap.size w Wj):=zH (HB0.out.trans (HBj.out.mono HB0.out.size));generalize s.vs[j] = v at *
      rw [eA];clear hcx;go_wp2_with fail;refine (ZcH v Wj hvz (Zk v) (zH rfl)).mono ?_;rintro e w1 ⟨rfl,hw1⟩;subst hw1;have hlk:=SM.look HSj.out v (by unfold maxLen;omega);by_cases g1:Zk v = true
      ·by_cases g2:v ∉ seen
       ·have HNX2:Hid (XE values (s.vs.take (j + 1)) = some (seen ++ [v])):=zH (by rw [HNX.out,if_pos ⟨g1,g2⟩]);obtain ⟨V5,hu5,hm5,hg5⟩:=HSj.out.put (k:=v) (by unfold maxLen;omega) g2;have HM5:=zH hm5;have HN5:Hid (SM V5 (w.heap.size + 1) (names ++ [s.nm])):=zH (HNj.out.grown hg5 (by simp));have HB5:Hid (Below W0.heap.size W0 V5):=zH (HBj.out.grown hg5 HBj.out.size (fun k hk=>by injection hk with hk;have:=HS0.out;omega));rw [dF g2] at hlk;rw [g1];clear hm5 hg5 g1 g2 HBAD HNX;go_wp2_with fail;exact ⟨⟨j + 1,seen ++ [v],by omega,by go_num,HN5,HM5,HNX2,HB5⟩,by simp [intOf];omega⟩
       ·have HF:Hid (r = false):=zH (by rw [HRk.out,HDR.out];exact UO (HBAD.out (fun h=>g2 h.2)));rw [decide_eq_true (Classical.not_not.1 g2)] at hlk;rw [g1];clear g1 g2 HBAD HNX;go_wp2_with fail;go_ret;exact ⟨by rw [HF.out];rfl,HJV.out⟩
      ·have HF:Hid (r = false):=zH (by rw [HRk.out,HDR.out];exact UO (HBAD.out (fun h=>g1 h.1)));rw [Bool.eq_false_iff.2 g1];clear g1 HBAD HNX;go_wp2_with fail;go_ret;exact ⟨by rw [HF.out];rfl,HJV.out⟩
     ·have hjl':¬ (j:Int) < (s.vs.length:Int):=(by omega);have hvg:=HVj.out;rw [List.take_of_length_le (by omega)] at hvg;have HRN:Hid (r = Zp (names ++ [s.nm]) seen (Ps.drop (k + 1))):=zH (by rw [HRk.out,HDR.out];exact Zcd HSL.out hvg);clear hvg;go_wp2_with fail;exact ⟨⟨k + 1,names ++ [s.nm],seen,by omega,by go_num,HNj,HSj,HRN,HBj⟩,by simp [intOf];omega⟩
   ·have hlt':¬ (k:Int) < (Ss.length:Int):=(by omega);have HT:Hid (r = true):=zH (by rw [HRk.out,List.drop_of_length_le (by rw [<- HLN.out];omega)];rfl);have HWk:Hid (Below w.heap.size w Wr):=zH (HB0.out.trans (HBk.out.mono HB0.out.size));go_wp2_with fail;go_ret;exact ⟨by rw [HT.out];rfl,HWk.out⟩
 ·have HF:Hid (r = false):=zH (by
   rw [<- hr.out];unfold Zce;rw [dF (by rw [<- HLN.out];exact hh)];rfl)
  clear hr;have hh':(Ss.length:Int) < 1 ∨ (1 <= (Ss.length:Int) /\ 20 < (Ss.length:Int)) ∨ (1 <= (Ss.length:Int) /\ (Ss.length:Int) <= 20 /\ pat < 0) ∨ (1 <= (Ss.length:Int) /\ (Ss.length:Int) <= 20 /\ 0 <= pat /\ 100 < pat) ∨ (1 <= (Ss.length:Int) /\ (Ss.length:Int) <= 20 /\ 0 <= pat /\ pat <= 100 /\ prm < 0) ∨ (1 <= (Ss.length:Int) /\ (Ss.length:Int) <= 20 /\ 0 <= pat /\ pat <= 100 /\ 0 <= prm /\ 10000 < prm) ∨
    (1 <= (Ss.length:Int) /\ (Ss.length:Int) <= 20 /\ 0 <= pat /\ pat <= 100 /\ 0 <= prm /\ prm <= 10000 /\ need < 0) ∨ (1 <= (Ss.length:Int) /\ (Ss.length:Int) <= 20 /\ 0 <= pat /\ pat <= 100 /\ 0 <= prm /\ prm <= 10000 /\ 0 <= need /\ prm < need):=by
   unfold ZG at hh;omega
  clear hh;rcases hh' with h1 | ⟨h1,h2⟩ | ⟨h1,h2,h3⟩ | ⟨h1,h2,h3,h4⟩ | ⟨h1,h2,h3,h4,h5⟩ | ⟨h1,h2,h3,h4,h5,h6⟩ | ⟨h1,h2,h3,h4,h5,h6,h7⟩ | ⟨h1,h2,h3,h4,h5,h6,h7,h8⟩
  all_goals
   go_enter Tryz.func74,Tryz.ntmps74;go_wp2_with fail;rw [<- hW0];clear hW0;go_wp2_with fail;go_ret;exact ⟨by rw [HF.out];rfl,HB0.out⟩
end Go.Proofs.YtcjicjfbippmnaaGreat
