/- TalkHears -/
import Derived.Test.YtcjicjfbippmnaaGreatMTHear22
set_option maxRecDepth 100000
set_option maxHeartbeats 32000000
namespace Go.Proofs.YtcjicjfbippmnaaGreat
open Go.RowKit Ear

def isSr (base:Nat) (vs:List BA):Value -> World -> Prop:=fun v u=>∃ A c,v = .slice A vs.length c /\ Hid (u.ownsRow base 9 1 (.slice A vs.length c) vs.length (sbs vs))
theorem Keeps.isSr (base:Nat) (vs:List BA):Keeps (isSr base vs):=fun _ _ _ ⟨A,c,h1,h2⟩ hb=>⟨A,c,h1,zH (Jh h2.out hb)⟩
def isA8 (base:Nat) (nm:BA) (vs:List BA) (p q:Rat):Value -> World -> Prop:=fun v u=>∃ A c,∃ r t:Fr,v = .agg #[.string nm,.slice A vs.length c,.bool r.neg,.slice r.A r.N.length r.c,.slice r.B r.D.length r.d,.bool t.neg,.slice t.A t.N.length t.c,.slice t.B t.D.length t.d] /\ Hid (u.ownsRow base 9 1 (.slice A vs.length c) vs.length (sbs vs)) /\ Hid (Fq u r p) /\ Hid (Fq u t q)
theorem Keeps.isA8 (base:Nat) (nm:BA) (vs:List BA) (p q:Rat):Keeps (isA8 base nm vs p q):=fun _ _ _ ⟨A,c,r,t,h1,h2,h3,h4⟩ hb=>⟨A,c,r,t,h1,zH (Jh h2.out hb),zH (h3.out.below hb),zH (h4.out.below hb)⟩
theorem Zhk (Ss:List SlM):∀ u ∈ VS Ss,u.oneCell' = true:=by
 intro u hu;obtain ⟨g,_,hg⟩:=WdE.1 hu;simp [slc] at hg;rcases hg with rfl | rfl | rfl | rfl | rfl | rfl | rfl | rfl <;> rfl
theorem YJ {O R:List SlM} {s:SlM} {k j:Nat} (hO:O.length = k) (hj:j < 8):(VS (O ++ s :: R))[k * 8 + j]? = (slc s)[j]?:=by
 have h:=Uy (O ++ s :: R) (k:=k) (by simp;omega) j hj;rw [h];congr 2;subst hO;simp
theorem ZfI {O R:List SlM} {s t:SlM} {k:Nat} (hO:O.length = k):Zh6 (VS (O ++ s :: R)) (k * 8) (slc t) = VS (O ++ [t] ++ R):=by
 have hl:(VS O).length = k * 8:=by rw [XN,hO]
 have e:∀ x:SlM,VS (O ++ x :: R) = VS O ++ (slc x ++ VS R):=fun x=>by simp [VS]
 have hs:∀ x:SlM,(slc x).length = 8:=fun x=>rfl;rw [UO _ _ _ (by rw [XN,hs];simp;omega),e s,WdZ (by omega),Wm (by omega),hs,List.drop_append,WcD (by omega),hl,show k * 8 + 8 - k * 8 = 8 by omega];have e2:VS (O ++ [t] ++ R) = VS O ++ (slc t ++ VS R):=by simp [VS]
 rw [e2];have e3:(slc s ++ VS R).drop 8 = VS R:=by
  rw [List.drop_append,hs,WcD (by rw [hs];exact WK _)];simp
 rw [e3];simp
def J2:FlM:=⟨1,ByteArray.empty,none,0,[]⟩
structure TkI (base q gp pc:Nat) (Ss:List SlM) (Ps:List PSl) (pat prm need:Int) (k:Nat) (O:List SlM) (FA:Option Addr) (fc:Nat) (W:World):Prop where
 cell:W.heap[q]? = some (.cells #[.slice (some ⟨gp,0,none⟩) Ss.length pc,.int .i64 pat,.int .i64 prm,.int .i64 need,.slice FA k fc,.int .i64 0,.int .i64 0,.int .i64 0,.int .i64 0,.int .i64 0] 133 (0,0))
 row:W.ownsRow base 79 8 (.slice (some ⟨gp,0,none⟩) Ss.length pc) Ss.length (VS (O ++ Ss.drop k))
 new:∀ (j:Nat) (s:SlM) (p:PSl),O[j]? = some s -> Ps[j]? = some p -> s.nm = p.nm /\ s.vs = p.vs /\ W.ownsRow base 9 1 (.slice s.A s.vs.length s.c) s.vs.length (sbs s.vs) /\ Fq W s.L p.le /\ Fq W s.S p.su
 len:O.length = k
 rowF:W.ownsRow base 76 3 (.slice FA k fc) k (Xy (List.replicate k J2))
 allF:∀ g,blk FA = some g -> AllC ZaT W g
theorem TkI.below {base q gp pc:Nat} {Ss:List SlM} {Ps:List PSl} {pat prm need:Int} {k:Nat} {O:List SlM} {FA:Option Addr} {fc:Nat} {W W':World} (h:TkI base q gp pc Ss Ps pat prm need k O FA fc W) (hb:Below W.heap.size W W'):TkI base q gp pc Ss Ps pat prm need k O FA fc W':=
 ⟨(hb.block _ (aE h.cell).1).trans h.cell,Jh h.row hb,fun j s p h1 h2=>by obtain ⟨a,b,c,d,e⟩:=h.new j s p h1 h2;exact ⟨a,b,Jh c hb,d.below hb,e.below hb⟩,h.len,Jh h.rowF hb,
  fun g hg=>(h.allF g hg).block (hb.block g (h.rowF.lt g (by rw [Jm];exact hg)).2)⟩
def Q1 (pat prm need:Int) (Ps:List PSl):PDl:=⟨pat,prm,need,Ps,Ps.map fun _=>⟨1,ByteArray.empty,[]⟩,0,0,0,0,0⟩
def PlS (base:Nat) (w:World) (a:DlA) (Ps:List PSl):Prop:=∀ w':World,w.heap.size <= w'.heap.size -> (∀ b,base <= b -> b < w.heap.size -> b ≠ a.q -> b ≠ a.gF -> w'.heap[b]? = w.heap[b]?) -> KU w w' -> PlM w' a.PA a.Ss Ps
theorem ZgK (A:Option Addr) (c:Nat) (Ss:List SlM) (Ps:List PSl) (pat prm need:Int) (w:World) (h:PlM w A Ss Ps) (hsz:Hid (∀ s ∈ Ss,s.nm.size <= 1000000 /\ ∀ v ∈ s.vs,v.size <= 1000000)) (hvl:Hid (∀ s ∈ Ss,s.vs.length <= 1000000)) (hB:Hid (Zq pat prm need Ps = true)) :
  Calls Tryz.prog 29 #[.agg #[.slice A Ss.length c,.int .i64 pat,.int .i64 prm,.int .i64 need]] w fun e w'=>∃ a:DlA,e = .returned (.tuple #[.pointer (some ⟨a.q,0,none⟩),.int .i64 0]) /\ DlM w' w'.heap.size a (Q1 pat prm need Ps) /\ w.heap.size <= a.q /\ w.heap.size <= a.gF /\ Below w.heap.size w w' /\ AllC ZaT w' a.gF /\ a.Fm = List.replicate Ss.length J2 /\ PlS w.heap.size w' a Ps:=by
 have hhead:XC Ss.length pat prm need:=by
  have:=hB.out;unfold Zq at this;rw [Wy] at this;rw [h.len];exact WaB this.1
 obtain ⟨hn1,hn20,-⟩:=hhead;obtain ⟨W0,hW0⟩:∃ W0:World,W0 = w.alloc (.cells #[.slice A Ss.length c,.int .i64 pat,.int .i64 prm,.int .i64 need] 48):=⟨_,rfl⟩;have HB0:Hid (Below w.heap.size w W0):=zH (by rw [hW0];exact bR.alloc nR _);have HX0:Hid (W0.heap[w.heap.size]? = some (.cells #[.slice A Ss.length c,.int .i64 pat,.int .i64 prm,.int .i64 need] 48 (0,0))):=zH (by rw [hW0];exact Wg w _);have HPL:=zH (h.below HB0.out);have HS0:Hid (W0.heap.size = w.heap.size + 1):=zH (by rw [hW0];simp);have c0:W0.cell? ⟨w.heap.size,0,none⟩ = some (.slice A Ss.length c):=(cR 0 HX0.out).trans rfl;have c1:W0.cell? ⟨w.heap.size,1,none⟩ = some (.int .i64 pat):=(cR 1 HX0.out).trans rfl;have c2:W0.cell? ⟨w.heap.size,2,none⟩ = some (.int .i64 prm):=(cR 2 HX0.out).trans rfl;have c3:W0.cell? ⟨w.heap.size,3,none⟩ = some (.int .i64 need):=(cR 3 HX0.out).trans rfl;clear h;go_enter Tryz.func29,Tryz.ntmps29;go_wp2_with fail;rw [<- hW0];clear hW0;go_wp2_with fail;refine (UR A c Ss Ps pat prm need W0 HPL.out hsz true hB).mono ?_;rintro e W1 ⟨rfl,hb1⟩;have HB1:=zH (HB0.out.trans (hb1.mono HB0.out.size));have HX1:Hid (W1.heap[w.heap.size]? = some (.cells #[.slice A Ss.length c,.int .i64 pat,.int .i64 prm,.int .i64 need] 48 (0,0))):=zH ((hb1.block _ (by have:=HS0.out;omega)).trans HX0.out);have HPL1:=zH (HPL.out.below hb1);have hw1:w.heap.size < W1.heap.size:=by have:=HS0.out;have:=hb1.size;omega
 clear hb1 c0 c1 c2 c3;have c0:W1.cell? ⟨w.heap.size,0,none⟩ = some (.slice A Ss.length c):=(cR 0 HX1.out).trans rfl;have c1:W1.cell? ⟨w.heap.size,1,none⟩ = some (.int .i64 pat):=(cR 1 HX1.out).trans rfl;have c2:W1.cell? ⟨w.heap.size,2,none⟩ = some (.int .i64 prm):=(cR 2 HX1.out).trans rfl;have c3:W1.cell? ⟨w.heap.size,3,none⟩ = some (.int .i64 need):=(cR 3 HX1.out).trans rfl;go_wp2_with fail;obtain ⟨V0,hV0⟩:∃ V0:World,V0 = W1.alloc (.cells #[.slice A Ss.length c,.int .i64 pat,.int .i64 prm,.int .i64 need,.slice none 0 0,.int .i64 0,.int .i64 0,.int .i64 0,.int .i64 0,.int .i64 0] 133):=⟨_,rfl⟩;have HBV:Hid (Below W1.heap.size W1 V0):=zH (by rw [hV0];exact bR.alloc nR _);have HQV:Hid (V0.heap[W1.heap.size]? = some (.cells #[.slice A Ss.length c,.int .i64 pat,.int .i64 prm,.int .i64 need,.slice none 0 0,.int .i64 0,.int .i64 0,.int .i64 0,.int .i64 0,.int .i64 0] 133 (0,0))):=zH (by rw [hV0];exact Wg W1 _);have HVS:Hid (V0.heap.size = W1.heap.size + 1):=zH (by rw [hV0];simp);rw [<- hV0];clear hV0;refine (ZaP A c Ss.length (VS Ss) V0 (HPL1.out.below HBV.out).lies (XN Ss) (Zhk Ss) (fun e=>by
  have h9:=WaF List.length (ZE HPL1.out.lies e);rw [XN] at h9;simp at h9;omega) (by omega)).mono ?_
 rintro e W3 ⟨A3,pc,rfl,own3,hb3⟩;obtain ⟨gp,cap3,hv3,hg3,hl3⟩:=own3.form (by omega);injection hv3 with e1 _ e3
 subst e1 e3;have HOW:=zH own3;have HB3:=zH (HBV.out.trans (hb3.mono HBV.out.size));have HQ3:Hid (W3.heap[W1.heap.size]? = some (.cells #[.slice A Ss.length c,.int .i64 pat,.int .i64 prm,.int .i64 need,.slice none 0 0,.int .i64 0,.int .i64 0,.int .i64 0,.int .i64 0,.int .i64 0] 133 (0,0))):=zH ((hb3.block _ (by have:=HVS.out;omega)).trans HQV.out);have q0:W3.cell? ⟨W1.heap.size,0,none⟩ = some (.slice A Ss.length c):=(cR 0 HQ3.out).trans rfl;have f0:W3.frozen? ⟨W1.heap.size,0,none⟩ = false:=Js HQ3.out 0;have HX3:Hid (W3.heap[w.heap.size]? = some (.cells #[.slice A Ss.length c,.int .i64 pat,.int .i64 prm,.int .i64 need] 48 (0,0))):=zH ((HB3.out.block _ hw1).trans HX1.out);clear own3 hb3 c0 c1 c2 c3;have c0:(W3.setCell ⟨W1.heap.size,0,none⟩ (.slice (some ⟨gp,0,none⟩) Ss.length pc)).cell? ⟨w.heap.size,0,none⟩ = some (.slice A Ss.length c):=(Ws (a:=⟨w.heap.size,0,none⟩) (Wu W3 _ _ _ (by show w.heap.size ≠ W1.heap.size;omega))).trans ((cR 0 HX3.out).trans rfl);go_wp2_with fail;clear c0;obtain ⟨W4,hW4⟩:∃ W4,W4 = W3.setCell ⟨W1.heap.size,0,none⟩ (.slice (some ⟨gp,0,none⟩) Ss.length pc):=⟨_,rfl⟩;rw [<- hW4];have HB4:Hid (Below W1.heap.size W1 W4):=zH (by rw [hW4];exact HB3.out.setCell nR _);have HX4:Hid (W4.heap[w.heap.size]? = some (.cells #[.slice A Ss.length c,.int .i64 pat,.int .i64 prm,.int .i64 need] 48 (0,0))):=zH ((HB4.out.block _ hw1).trans HX1.out);have HT4:Hid (TkI W1.heap.size W1.heap.size gp pc Ss Ps pat prm need 0 [] none 0 W4):=zH ⟨by rw [hW4];exact (JE HQ3.out 0 _).trans rfl,by
  rw [hW4];refine JI (JU HOW.out ?_ _) (by have:=HVS.out;omega);have:=HVS.out;show W1.heap.size < _;omega,fun j s p h1 _=>by simp at h1,rfl,WJ _ _ _ _,fun g hg=>by simp [blk,Value.ownBlock] at hg⟩
 clear hW4 q0 f0 HX3 HQ3 HOW;have HGP:Hid (W1.heap.size < gp):=zH (by have:=HVS.out;omega);go_loopw [23] (fun t wr=>∃ (k:Nat) (O:List SlM) (FA:Option Addr) (fc:Nat),k <= Ss.length /\ t = .int .i64 k /\ Hid (TkI W1.heap.size W1.heap.size gp pc Ss Ps pat prm need k O FA fc wr) /\ Hid (Below W1.heap.size W1 wr)) (fun t _=>Ss.length - (intOf t).toNat)
 case atStart=>exact ⟨0,[],none,0,by omega,rfl,HT4,HB4⟩
 case round=>
  obtain ⟨k,O,FA,fc,hk,rfl,HT,HBk⟩:=hrel;clear HT4 HB4 HX4;have hsr:W1.heap.size <= wr.heap.size:=HBk.out.size;by_cases hlt:k < Ss.length
  ·have hlt':(k:Int) < (Ss.length:Int):=by omega
   have hltP:k < Ps.length:=(by rw [<- HPL.out.len];exact hlt);obtain ⟨ba,off,rfl,hba,hcell⟩:=(HPL1.out.below HBk.out).at_ hlt;have HOK:=zH (HPL1.out.ok k _ _ (gE hlt) (gE hltP));have HSk:Hid (Ss.drop k = Ss[k] :: Ss.drop (k + 1)):=zH (Wv hlt);have HVL:=zH (hvl.out _ (gM hlt));have HPk:Hid (Ps[k]? = some Ps[k]):=zH (gE hltP);generalize Ss[k] = s at *
   generalize Ps[k] = p at *
   obtain ⟨pn,pv,ple,psu⟩:=p;have hn1':=HOK.out.nm;have hn2':=HOK.out.vs;simp only at hn1' hn2';subst hn1' hn2';have k0:=hcell 0 _ rfl;have k1:=hcell 1 _ rfl;have k2:=hcell 2 _ rfl;have k3:=hcell 3 _ rfl;have k4:=hcell 4 _ rfl;have k5:=hcell 5 _ rfl;have k6:=hcell 6 _ rfl;have k7:=hcell 7 _ rfl;rw [WaV] at k0;clear hcell;go_upto_region 8 with fail;obtain ⟨V,hV⟩:∃ V:World,V = wr.alloc (.cells #[.string s.nm,.slice s.A s.vs.length s.c,.bool s.L.neg,.slice s.L.A s.L.N.length s.L.c,.slice s.L.B s.L.D.length s.L.d,.bool s.S.neg,.slice s.S.A s.S.N.length s.S.c,.slice s.S.B s.S.D.length s.S.d] 79):=⟨_,rfl⟩;have HBV:Hid (Below wr.heap.size wr V):=zH (by rw [hV];exact bR.alloc nR _);have HXV:Hid (V.heap[wr.heap.size]? = some (.cells #[.string s.nm,.slice s.A s.vs.length s.c,.bool s.L.neg,.slice s.L.A s.L.N.length s.L.c,.slice s.L.B s.L.D.length s.L.d,.bool s.S.neg,.slice s.S.A s.S.N.length s.S.c,.slice s.S.B s.S.D.length s.S.d] 79 (0,0))):=zH (by rw [hV];exact Wg wr _);have hVs:V.heap.size = wr.heap.size + 1:=(by rw [hV];simp);have HVS2:=zH hVs;rw [<- hV];clear hV k0 k1 k2 k3 k4 k5 k6 k7 hVs;have HTV:=zH (HT.out.below HBV.out);have HBW:=zH (HBk.out.trans (HBV.out.mono hsr));have hgp1:W1.heap.size < V.heap.size:=(by have:=HVS2.out;omega);have HC:Hid (∀ u,Below V.heap.size V u -> u.cell? ⟨W1.heap.size,0,none⟩ = some (.slice (some ⟨gp,0,none⟩) Ss.length pc) /\ u.cell? ⟨wr.heap.size,0,none⟩ = some (.string s.nm) /\ u.cell? ⟨wr.heap.size,1,none⟩ = some (.slice s.A s.vs.length s.c) /\ u.cell? ⟨wr.heap.size,2,none⟩ = some (.bool s.L.neg) /\ u.cell? ⟨wr.heap.size,3,none⟩ = some (.slice s.L.A s.L.N.length s.L.c) /\ u.cell? ⟨wr.heap.size,4,none⟩ = some (.slice s.L.B s.L.D.length s.L.d) /\ u.cell? ⟨wr.heap.size,5,none⟩ = some (.bool s.S.neg) /\ u.cell? ⟨wr.heap.size,6,none⟩ = some (.slice s.S.A s.S.N.length s.S.c) /\ u.cell? ⟨wr.heap.size,7,none⟩ = some (.slice s.S.B s.S.D.length s.S.d)):=zH (fun u hu=>by
    have hx:=(hu.block wr.heap.size (by have:=HVS2.out;omega)).trans HXV.out;have hq:=(HTV.out.below hu).cell;exact ⟨(cR 0 hq).trans rfl,(cR 0 hx).trans rfl,(cR 1 hx).trans rfl,(cR 2 hx).trans rfl,(cR 3 hx).trans rfl,(cR 4 hx).trans rfl,(cR 5 hx).trans rfl,(cR 6 hx).trans rfl,(cR 7 hx).trans rfl⟩)
   have HOV:Hid (∀ u,Below V.heap.size V u -> SlOk u s ⟨s.nm,s.vs,ple,psu⟩):=zH (fun u hu=>HOK.out.below (HBW.out.trans (hu.mono HBW.out.size)));have C1:Hid (∀ u,Below V.heap.size V u -> Calls Tryz.prog 76 #[.slice s.A s.vs.length s.c] u fun e w'=>∃ A' c',e = .returned (.slice A' s.vs.length c') /\ w'.ownsRow u.heap.size 9 1 (.slice A' s.vs.length c') s.vs.length (sbs s.vs) /\ RowKit.Below u.heap.size u w'):=zH (fun u hu=>Ur s.A s.c s.vs.length (sbs s.vs) u (HOV.out u hu).lies (by simp) (fun x hx=>by obtain ⟨y,_,rfl⟩:=WaO.1 hx;rfl) (HOV.out u hu).nil HVL.out);have C2:Hid (∀ u,Below V.heap.size V u -> Calls Tryz.prog 77 #[s.L.val] u (Zk ple u)):=zH (fun u hu=>QW s.L ple u (HOV.out u hu).L (HOV.out u hu).fL);have C3:Hid (∀ u,Below V.heap.size V u -> Calls Tryz.prog 77 #[s.S.val] u (Zk psu u)):=zH (fun u hu=>QW s.S psu u (HOV.out u hu).S (HOV.out u hu).fS);refine Jj 19 59 rfl (by kernel_rfl) (by kernel_rfl) (by kernel_rfl) (by kernel_rfl) (fun u=>Below V.heap.size V u) (fun u u'=>Below u.heap.size u u') (Gl [isV (.pointer (some ⟨W1.heap.size,0,none⟩)),isV (.pointer (some ⟨W1.heap.size,0,none⟩)),isV (.pointer (some ⟨W1.heap.size,0,none⟩)),isV (.pointer (some ⟨W1.heap.size,0,none⟩)),isV (.slice (some ⟨gp,0,none⟩) Ss.length pc),isV (.int .i64 (k:Int)),isV (.pointer (some ⟨wr.heap.size,0,none⟩)),isV (.string s.nm),isV (.pointer (some ⟨wr.heap.size,1,none⟩)),isV (.slice s.A s.vs.length s.c),isSr W1.heap.size s.vs,isV (.pointer (some ⟨wr.heap.size,2,none⟩)),isV (s.L.val),isFq ple,isV (.pointer (some ⟨wr.heap.size,5,none⟩)),isV (s.S.val),isFq psu,isA8 W1.heap.size s.nm s.vs ple psu,isV (.pointer (some ⟨gp,k * 8,none⟩))]) (Gl.keep (by
     intro p hp;simp only [List.mem_cons,List.not_mem_nil,or_false] at hp;rcases hp with rfl | rfl | rfl | rfl | rfl | rfl | rfl | rfl | rfl | rfl | rfl | rfl | rfl | rfl | rfl | rfl | rfl | rfl | rfl
     ·exact Keeps.isV _
     ·exact Keeps.isV _
     ·exact Keeps.isV _
     ·exact Keeps.isV _
     ·exact Keeps.isV _
     ·exact Keeps.isV _
     ·exact Keeps.isV _
     ·exact Keeps.isV _
     ·exact Keeps.isV _
     ·exact Keeps.isV _
     ·exact Keeps.isSr _ _
     ·exact Keeps.isV _
     ·exact Keeps.isV _
     ·exact Keeps.isFq _
     ·exact Keeps.isV _
     ·exact Keeps.isV _
     ·exact Keeps.isFq _
     ·exact Keeps.isA8 _ _ _ _ _
     ·exact Keeps.isV _)) ?_ ?_ ?_
   ·exact (Wp _ V).drew
   ·simp only [List.pop_toArray,List.dropLast,Jt];refine ⟨?_,?_,?_,?_,?_,?_,?_,?_,?_,?_,?_,?_,?_,?_,?_,?_,?_,?_,?_,trivial⟩
    ·intro bb u hSu dp kp K hK;have e4:gT bb 4 = .pointer (some ⟨W1.heap.size,0,none⟩):=kp 4 (by kernel_rfl);go_simp;exact hK _ _ hSu bR rfl
    ·intro bb u hSu dp kp K hK;have e28:gT bb 28 = .pointer (some ⟨W1.heap.size,0,none⟩):=dp 0 _ rfl (by kernel_rfl);go_simp;exact hK _ _ hSu bR rfl
    ·intro bb u hSu dp kp K hK;have e29:gT bb 29 = .pointer (some ⟨W1.heap.size,0,none⟩):=dp 1 _ rfl (by kernel_rfl);go_simp;exact hK _ _ hSu bR rfl
    ·intro bb u hSu dp kp K hK;have e30:gT bb 30 = .pointer (some ⟨W1.heap.size,0,none⟩):=dp 2 _ rfl (by kernel_rfl);go_simp;exact hK _ _ hSu bR rfl
    ·intro bb u hSu dp kp K hK;have e31:gT bb 31 = .pointer (some ⟨W1.heap.size,0,none⟩):=dp 3 _ rfl (by kernel_rfl);obtain ⟨q0,b0,b1,b2,b3,b4,b5,b6,b7⟩:=HC.out u hSu;go_simp;exact hK _ _ hSu bR rfl
    ·intro bb u hSu dp kp K hK;have e5:gT bb 5 = .int .i64 (k:Int):=kp 5 (by kernel_rfl);go_simp;exact hK _ _ hSu bR rfl
    ·intro bb u hSu dp kp K hK;have e6:gT bb 6 = .pointer (some ⟨wr.heap.size,0,none⟩):=kp 6 (by kernel_rfl);go_simp;exact hK _ _ hSu bR rfl
    ·intro bb u hSu dp kp K hK;have e34:gT bb 34 = .pointer (some ⟨wr.heap.size,0,none⟩):=dp 6 _ rfl (by kernel_rfl);obtain ⟨q0,b0,b1,b2,b3,b4,b5,b6,b7⟩:=HC.out u hSu;go_simp;exact hK _ _ hSu bR rfl
    ·intro bb u hSu dp kp K hK;have e6:gT bb 6 = .pointer (some ⟨wr.heap.size,0,none⟩):=kp 6 (by kernel_rfl);go_simp;exact hK _ _ hSu bR rfl
    ·intro bb u hSu dp kp K hK;have e36:gT bb 36 = .pointer (some ⟨wr.heap.size,1,none⟩):=dp 8 _ rfl (by kernel_rfl);obtain ⟨q0,b0,b1,b2,b3,b4,b5,b6,b7⟩:=HC.out u hSu;go_simp;exact hK _ _ hSu bR rfl
    ·intro bb u hSu dp kp K hK;have e37:gT bb 37 = .slice s.A s.vs.length s.c:=dp 9 _ rfl (by kernel_rfl);go_simp;refine (C1.out u hSu).mono ?_;rintro e u' ⟨A9,c9,rfl,h9,hb⟩;go_simp;exact hK _ _ (hSu.trans (hb.mono hSu.size)) hb ⟨A9,c9,rfl,zH (JI h9 (by have:=hSu.size;omega))⟩
    ·intro bb u hSu dp kp K hK;have e6:gT bb 6 = .pointer (some ⟨wr.heap.size,0,none⟩):=kp 6 (by kernel_rfl);go_simp;exact hK _ _ hSu bR rfl
    ·intro bb u hSu dp kp K hK;have e39:gT bb 39 = .pointer (some ⟨wr.heap.size,2,none⟩):=dp 11 _ rfl (by kernel_rfl);obtain ⟨q0,b0,b1,b2,b3,b4,b5,b6,b7⟩:=HC.out u hSu;go_simp;exact hK _ _ hSu bR rfl
    ·intro bb u hSu dp kp K hK;have e40:gT bb 40 = s.L.val:=dp 12 _ rfl (by kernel_rfl);go_simp;refine (C2.out u hSu).mono ?_;rintro e u' ⟨r9,rfl,h9,hb⟩;go_simp;exact hK _ _ (hSu.trans (hb.mono hSu.size)) hb ⟨r9,rfl,zH h9⟩
    ·intro bb u hSu dp kp K hK;have e6:gT bb 6 = .pointer (some ⟨wr.heap.size,0,none⟩):=kp 6 (by kernel_rfl);go_simp;exact hK _ _ hSu bR rfl
    ·intro bb u hSu dp kp K hK;have e42:gT bb 42 = .pointer (some ⟨wr.heap.size,5,none⟩):=dp 14 _ rfl (by kernel_rfl);obtain ⟨q0,b0,b1,b2,b3,b4,b5,b6,b7⟩:=HC.out u hSu;go_simp;exact hK _ _ hSu bR rfl
    ·intro bb u hSu dp kp K hK;have e43:gT bb 43 = s.S.val:=dp 15 _ rfl (by kernel_rfl);go_simp;refine (C3.out u hSu).mono ?_;rintro e u' ⟨r9,rfl,h9,hb⟩;go_simp;exact hK _ _ (hSu.trans (hb.mono hSu.size)) hb ⟨r9,rfl,zH h9⟩
    ·intro bb u hSu dp kp K hK;have e35:gT bb 35 = .string s.nm:=dp 7 _ rfl (by kernel_rfl);obtain ⟨A9,c9,e38,D38⟩:∃ A c,gT bb 38 = .slice A s.vs.length c /\ Hid (u.ownsRow W1.heap.size 9 1 (.slice A s.vs.length c) s.vs.length (sbs s.vs)):=dp 10 _ rfl (by kernel_rfl);obtain ⟨r41,e41,D41⟩:∃ r:Fr,gT bb 41 = r.val /\ Hid (Fq u r ple):=dp 13 _ rfl (by kernel_rfl);obtain ⟨r44,e44,D44⟩:∃ r:Fr,gT bb 44 = r.val /\ Hid (Fq u r psu):=dp 16 _ rfl (by kernel_rfl);have f35:=e35;rw [gT,Wh] at f35;have f38:=e38;rw [gT,Wh] at f38;have f41:=e41;rw [gT,Wh] at f41;have f44:=e44;rw [gT,Wh] at f44;go_simp;exact hK _ _ hSu bR ⟨A9,c9,r41,r44,rfl,D38,D41,D44⟩
    ·intro bb u hSu dp kp K hK;have e32:gT bb 32 = .slice (some ⟨gp,0,none⟩) Ss.length pc:=dp 4 _ rfl (by kernel_rfl);have e33:gT bb 33 = .int .i64 (k:Int):=dp 5 _ rfl (by kernel_rfl);go_simp;exact hK _ _ hSu bR rfl
   ·intro bb u hN hdf hSu hG sm;obtain ⟨A9,c9,r9,t9,e45,D38,D41,D44⟩:∃ A c,∃ r t:Fr,gT bb 45 = .agg #[.string s.nm,.slice A s.vs.length c,.bool r.neg,.slice r.A r.N.length r.c,.slice r.B r.D.length r.d,.bool t.neg,.slice t.A t.N.length t.c,.slice t.B t.D.length t.d] /\ Hid (u.ownsRow W1.heap.size 9 1 (.slice A s.vs.length c) s.vs.length (sbs s.vs)) /\ Hid (Fq u r ple) /\ Hid (Fq u t psu):=hG 17 _ rfl;have e46:gT bb 46 = .pointer (some ⟨gp,k * 8,none⟩):=hG 18 _ rfl;rw [Xs bb _ [false,false,false,false,false,false,false,false,false,false,false,false,false,false,false,false,false,false,false,false,false,false,false,false,false,false,false,false,true,true,true,true,true,true,true,true,true,true,true,true,true,true,true,true,true,true,true,false,false,false,false,false,false,false,false,false,false,false,false] _ rfl hN rfl (by kernel_rfl) hdf sm];simp only [Q4,Nat.reduceAdd,e45,e46];clear e45 e46 hG sm hN hdf;generalize gT bb 28 = z28,gT bb 29 = z29,gT bb 30 = z30,gT bb 31 = z31,gT bb 32 = z32,gT bb 33 = z33,gT bb 34 = z34,gT bb 35 = z35,gT bb 36 = z36,gT bb 37 = z37,gT bb 38 = z38,gT bb 39 = z39,gT bb 40 = z40,gT bb 41 = z41,gT bb 42 = z42,gT bb 43 = z43,gT bb 44 = z44;have HTu:=zH (HTV.out.below hSu);have HSu:=zH hSu;have hrow:=HTu.out.row;rw [HSk.out] at hrow;obtain ⟨gp',cap',hv',hgb',hgl'⟩:=hrow.form (by omega);injection hv' with e1' _ e3'
    injection e1' with e1'
    injection e1' with e1'
    subst e1' e3';have hlen:=HTu.out.len;have hsl:=hrow.1;have z0:u.cell? ⟨gp,k * 8,none⟩ = some (.string s.nm):=(hrow.cellAt (k * 8 + 0) (by omega)).trans (YJ hlen (by omega));have z1:u.cell? ⟨gp,k * 8 + 1,none⟩ = some (.slice s.A s.vs.length s.c):=(hrow.cellAt (k * 8 + 1) (by omega)).trans (YJ hlen (by omega));have z2:u.cell? ⟨gp,k * 8 + 2,none⟩ = some (.bool s.L.neg):=(hrow.cellAt (k * 8 + 2) (by omega)).trans (YJ hlen (by omega));have z3:u.cell? ⟨gp,k * 8 + 3,none⟩ = some (.slice s.L.A s.L.N.length s.L.c):=(hrow.cellAt (k * 8 + 3) (by omega)).trans (YJ hlen (by omega));have z4:u.cell? ⟨gp,k * 8 + 4,none⟩ = some (.slice s.L.B s.L.D.length s.L.d):=(hrow.cellAt (k * 8 + 4) (by omega)).trans (YJ hlen (by omega));have z5:u.cell? ⟨gp,k * 8 + 5,none⟩ = some (.bool s.S.neg):=(hrow.cellAt (k * 8 + 5) (by omega)).trans (YJ hlen (by omega));have z6:u.cell? ⟨gp,k * 8 + 6,none⟩ = some (.slice s.S.A s.S.N.length s.S.c):=(hrow.cellAt (k * 8 + 6) (by omega)).trans (YJ hlen (by omega));have z7:u.cell? ⟨gp,k * 8 + 7,none⟩ = some (.slice s.S.B s.S.D.length s.S.d):=(hrow.cellAt (k * 8 + 7) (by omega)).trans (YJ hlen (by omega));have y0:=hrow.frozenAt (k * 8);have y1:=hrow.frozenAt (k * 8 + 1);have y2:=hrow.frozenAt (k * 8 + 2);have y3:=hrow.frozenAt (k * 8 + 3);have y4:=hrow.frozenAt (k * 8 + 4);have y5:=hrow.frozenAt (k * 8 + 5);have y6:=hrow.frozenAt (k * 8 + 6);have y7:=hrow.frozenAt (k * 8 + 7);have hKU:KU u (u.setCells gp (k * 8) (slc ⟨s.nm,A9,c9,s.vs,r9,t9⟩)):=KU.sets _ _ _ (fun j hj=>by
     have hj8:j < 8:=hj;rcases (show j = 0 ∨ j = 1 ∨ j = 2 ∨ j = 3 ∨ j = 4 ∨ j = 5 ∨ j = 6 ∨ j = 7 by omega) with rfl | rfl | rfl | rfl | rfl | rfl | rfl | rfl
     ·exact ⟨_,z0,fun n=>by simp⟩
     ·exact ⟨_,z1,fun n=>by simp⟩
     ·exact ⟨_,z2,fun n=>by simp⟩
     ·exact ⟨_,z3,fun n=>by simp⟩
     ·exact ⟨_,z4,fun n=>by simp⟩
     ·exact ⟨_,z5,fun n=>by simp⟩
     ·exact ⟨_,z6,fun n=>by simp⟩
     ·exact ⟨_,z7,fun n=>by simp⟩)
    have hset:=J8 (slc ⟨s.nm,A9,c9,s.vs,r9,t9⟩) (k * 8) u _ hrow;rw [ZfI hlen] at hset;have HKU:=zH hKU;have HSET:=zH hset;clear hrow hKU hset hsl hSu;refine PopQ.last rfl rfl (fun K hK=>?_);go_simp;refine hK _ _ ?_;clear hK K z0 z1 z2 z3 z4 z5 z6 z7 y0 y1 y2 y3 y4 y5 y6 y7;obtain ⟨U8,hU8⟩:∃ U8,U8 = u.setCells gp (k * 8) (slc ⟨s.nm,A9,c9,s.vs,r9,t9⟩):=⟨_,rfl⟩;rw [<- hU8] at HKU HSET;simp only [slc,World.setCells] at hU8;rw [<- hU8];have HG8:Hid (u.grownBy U8 (some gp)):=zH HSET.out.2;have hBTp:BT u gp 79:=BT.of_own HTu.out.row rfl;have HQ8:Hid (U8.heap[W1.heap.size]? = some (.cells #[.slice (some ⟨gp,0,none⟩) Ss.length pc,.int .i64 pat,.int .i64 prm,.int .i64 need,.slice FA k fc,.int .i64 0,.int .i64 0,.int .i64 0,.int .i64 0,.int .i64 0] 133 (0,0))):=zH ((HG8.out.block _ (aE HTu.out.cell).1 (by intro e;injection e with e;exact hBTp.ne ⟨_,_,HTu.out.cell⟩ (by decide) e.symm)).trans HTu.out.cell);have HF8:Hid (U8.ownsRow W1.heap.size 76 3 (.slice FA k fc) k (Xy (List.replicate k J2))):=zH (Jr HTu.out.rowF HG8.out (fun b hb e=>by injection e with e;subst e;exact hBTp.ne (BT.of_own HTu.out.rowF hb) (by decide) rfl));have HA8:Hid (∀ b,blk FA = some b -> AllC ZaT U8 b):=zH (fun b hb=>(HTu.out.allF b hb).block (HG8.out.block b (HTu.out.rowF.lt b (by rw [Jm];exact hb)).2 (by intro e;injection e with e;subst e;exact hBTp.ne (BT.of_own HTu.out.rowF (by rw [Jm];exact hb)) (by decide) rfl)));have HN8:Hid (∀ (j:Nat) (s':SlM) (p:PSl),(O ++ [(⟨s.nm,A9,c9,s.vs,r9,t9⟩:SlM)])[j]? = some s' -> Ps[j]? = some p -> s'.nm = p.nm /\ s'.vs = p.vs /\ U8.ownsRow W1.heap.size 9 1 (.slice s'.A s'.vs.length s'.c) s'.vs.length (sbs s'.vs) /\ Fq U8 s'.L p.le /\ Fq U8 s'.S p.su):=zH (fun j s' p h1 h2=>by
     have apart:∀ {A0:Option Addr} {n0 c0:Nat} {xs:List Value},u.ownsRow W1.heap.size 9 1 (.slice A0 n0 c0) n0 xs -> U8.ownsRow W1.heap.size 9 1 (.slice A0 n0 c0) n0 xs:=fun ho=>Jr ho HG8.out (fun b hb e=>by injection e with e;subst e;exact hBTp.ne (BT.of_own ho hb) (by decide) rfl);rw [Wd1] at h1;split at h1
     ·obtain ⟨a1,a2,a3,a4,a5⟩:=HTu.out.new j s' p h1 h2;exact ⟨a1,a2,apart a3,a4.ku HKU.out,a5.ku HKU.out⟩
     ·rename_i hge;have hj0:j - O.length = 0:=by
       have:=(Wl.1 h1).1;simp at this;omega
      rw [hj0] at h1;simp at h1;subst h1;have hjk:j = k:=(by have:=(Wl.1 h2).1;omega);subst hjk;rw [HPk.out] at h2;injection h2 with h2
      subst h2;exact ⟨rfl,rfl,apart D38.out,D41.out.ku HKU.out,D44.out.ku HKU.out⟩)
    have HR8:Hid (U8.ownsRow W1.heap.size 79 8 (.slice (some ⟨gp,0,none⟩) Ss.length pc) Ss.length (VS (O ++ [(⟨s.nm,A9,c9,s.vs,r9,t9⟩:SlM)] ++ Ss.drop (k + 1)))):=zH HSET.out.1;have HL8:Hid (O.length = k):=zH HTu.out.len;have HB8:Hid (Below W1.heap.size W1 U8):=zH ((HBW.out.trans (HSu.out.mono HBW.out.size)).grown HG8.out (by have:=HBW.out.size;have:=HSu.out.size;omega) (fun b hb=>by injection hb with hb;have:=HGP.out;omega));clear hU8 HSET HKU HTu HSu HTV HC C1 C2 C3 HOV HXV HBV D38 D41 D44 HT HG8 hBTp hlen hgb' hgl';obtain ⟨i0,hi0,hz0,hz1,hz2⟩:=WaI Zb;have hq4:U8.cell? ⟨W1.heap.size,4,none⟩ = some (.slice FA k fc):=(cR 4 HQ8.out).trans rfl;have hq8:W1.heap.size < U8.heap.size:=(aE HQ8.out).1;obtain ⟨v9,w9,hrun,hown9,hgr9,-⟩:=run_append_own (P:=Tryz.prog) (U8.alloc (.cells #[.int .i64 1,.string ByteArray.empty,.slice none 0 0] 76)) W1.heap.size 63 63 76 i0 _ 3 48 Tryz.underlying63 hi0 hz0 hz1 hz2 rfl (by omega) (.slice FA k fc) k (Xy (List.replicate k J2)) (HF8.out.alloc _) ⟨U8.heap.size,0,none⟩ 1 1 [.int .i64 1,.string ByteArray.empty,.slice none 0 0] rfl (fun j x hx=>by
     rw [WdV,WH,Wx _ _ j _ _ _ (Wg U8 (.cells #[.int .i64 1,.string ByteArray.empty,.slice none 0 0] 76))];simpa using hx) (by simp [Value.oneCell']) (by unfold maxLen;omega) (by omega) (by simp;omega)
    have hall9:=ZdJ (p:=ZaT) (U8.alloc (.cells #[.int .i64 1,.string ByteArray.empty,.slice none 0 0] 76)) W1.heap.size 63 63 76 i0 _ 3 48 Tryz.underlying63 hi0 hz0 hz1 hz2 rfl (by omega) (.slice FA k fc) k (Xy (List.replicate k J2)) (HF8.out.alloc _) ⟨U8.heap.size,0,none⟩ 1 1 [.int .i64 1,.string ByteArray.empty,.slice none 0 0] rfl (fun j x hx=>by
     rw [WdV,WH,Wx _ _ j _ _ _ (Wg U8 (.cells #[.int .i64 1,.string ByteArray.empty,.slice none 0 0] 76))];simpa using hx) (by simp [Value.oneCell']) (by unfold maxLen;omega) (by omega) (by omega) (fun b hb=>(HA8.out b (by rw [Jm] at hb;exact hb)).block (WaC _ _ _ (HF8.out.lt b hb).2)) (by simp [ZaT,Value.cells]) (by simp [ZaT]) (fun x hx=>by
      obtain ⟨f,hf,hx⟩:=WdE.1 hx;rw [WbM hf] at hx;simp [flc,J2] at hx;rcases hx with rfl | rfl | rfl <;> simp [ZaT]) hrun
    obtain ⟨A10,c10,rfl⟩:=Xf hown9;have hbt9:∀ b,(Value.slice FA k fc).ownBlock = some b -> BT U8 b 76:=fun b hb=>BT.of_own HF8.out hb;have hq9:w9.heap[W1.heap.size]? = some (.cells #[.slice (some ⟨gp,0,none⟩) Ss.length pc,.int .i64 pat,.int .i64 prm,.int .i64 need,.slice FA k fc,.int .i64 0,.int .i64 0,.int .i64 0,.int .i64 0,.int .i64 0] 133 (0,0)):=(hgr9.block _ (by simp;omega) (fun e=>(hbt9 _ e.symm).ne ⟨_,_,HQ8.out⟩ (by decide) rfl)).trans ((WaC U8 _ _ hq8).trans HQ8.out);have hq94:w9.cell? ⟨W1.heap.size,4,none⟩ = some (.slice FA k fc):=(cR 4 hq9).trans rfl;have hf94:w9.frozen? ⟨W1.heap.size,4,none⟩ = false:=Js hq9 4;have HRUN:=zH hrun;have HQ9:=zH hq9;have HOWN9:=zH hown9;have HGR9:=zH hgr9;have HALL9:=zH hall9;clear hrun hq9 hown9 hgr9 hall9 hbt9;go_wp2_with (at_builtin;refine VU _ rfl (.tmp 51) (.tmp 53) 63 rfl (.slice FA k fc) (.slice (some ⟨U8.heap.size,0,none⟩) 1 1) rfl rfl HRUN.out ?_);refine ⟨?_,by simp [intOf];omega⟩
    ·skip
     obtain ⟨W10,hW10⟩:∃ W10,W10 = w9.setCell ⟨W1.heap.size,4,none⟩ (.slice A10 (k + 1) c10):=⟨_,rfl⟩;rw [<- hW10];have gset:w9.grownBy W10 (some W1.heap.size):=(by rw [hW10];exact JO (WaY w9 (some W1.heap.size)) (.inl rfl) _);have hbq:BT w9 W1.heap.size 133:=⟨_,_,HQ9.out⟩;have hbF:∀ b,(Value.slice FA k fc).ownBlock = some b -> BT (U8.alloc (.cells #[.int .i64 1,.string ByteArray.empty,.slice none 0 0] 76)) b 76:=fun b hb=>BT.of_own (HF8.out.alloc _) hb;have step:∀ {e0:TypeId} {sz n0:Nat} {v0:Value} {xs:List Value},e0 ≠ 76 -> e0 ≠ 133 -> U8.ownsRow W1.heap.size e0 sz v0 n0 xs -> W10.ownsRow W1.heap.size e0 sz v0 n0 xs:=fun h1 h2 ho=>by
      have o1:=ho.alloc (.cells #[.int .i64 1,.string ByteArray.empty,.slice none 0 0] 76);have o2:=Jr o1 HGR9.out (fun b hb e=>(BT.of_own o1 hb).ne (hbF b e) h1 rfl);exact Jr o2 gset (fun b hb e=>by injection e with e;subst e;exact (BT.of_own o2 hb).ne hbq h2 rfl)
     have ku:KU U8 W10:=by
      have k1:KU U8 (U8.alloc (.cells #[.int .i64 1,.string ByteArray.empty,.slice none 0 0] 76)):=KU.below (bR.alloc nR _);have k2:KU (U8.alloc (.cells #[.int .i64 1,.string ByteArray.empty,.slice none 0 0] 76)) w9:=by
       cases FA with
       | none=>exact KU.below (JQ HGR9.out)
       | some ad=>exact KU.all ((HA8.out ad.block rfl).block (WaC _ _ _ (HF8.out.lt _ rfl).2)) HGR9.out
      have k3:KU w9 W10:=(by rw [hW10];exact KU.set hq94 (fun n=>by simp) _);exact k1.trans (k2.trans k3)
     refine ⟨k + 1,O ++ [(⟨s.nm,A9,c9,s.vs,r9,t9⟩:SlM)],A10,c10,by omega,by go_num,zH ⟨?_,step (by decide) (by decide) HR8.out,?_,by simp [HL8.out],?_,?_⟩,zH ?_⟩
     ·rw [hW10];exact (JE HQ9.out 4 _).trans rfl
     ·intro j s' p h1 h2;obtain ⟨a1,a2,a3,a4,a5⟩:=HN8.out j s' p h1 h2;exact ⟨a1,a2,step (by decide) (by decide) a3,a4.ku ku,a5.ku ku⟩
     ·have e:Xy (List.replicate (k + 1) J2) = Xy (List.replicate k J2) ++ [.int .i64 1,.string ByteArray.empty,.slice none 0 0]:=by
       rw [List.replicate_succ',Qd];rfl
      rw [e];exact Jr HOWN9.out gset (fun b hb e=>by injection e with e;subst e;exact (BT.of_own HOWN9.out hb).ne hbq (by decide) rfl)
     ·intro b hb;have hbt:=BT.of_own HOWN9.out (by rw [Jm];exact hb);exact (HALL9.out b (by rw [Jm];exact hb)).block (gset.block b hbt.lt (by intro e;injection e with e;subst e;exact hbt.ne hbq (by decide) rfl))
     ·exact (((HB8.out.alloc (by omega) _).grown HGR9.out (by simp;omega) (fun b hb=>(HF8.out.lt b (by exact hb)).1))).trans (Below.of_only gset (by have:=HGR9.out.size;simp at this;omega) nR)
  ·have hlt':¬ (k:Int) < (Ss.length:Int):=by omega
   have hkn:k = Ss.length:=(by omega);have HPN:Hid (∀ (j:Nat) (p:PSl),Ps[j]? = some p -> Sz p.le 90000 /\ Sz p.su 90000):=zH (fun j p hp=>by
    have hj:j < Ss.length:=(by have:=(Wl.1 hp).1;have:=HPL.out.len;omega);have ho:=HPL.out.ok j _ p (gE hj) hp;exact ⟨ho.L.sz ho.fL (by decide),ho.S.sz ho.fS (by decide)⟩)
   subst hkn;go_wp2_with fail;go_ret2;have hT:=HT.out;have hrow:=hT.row;rw [WeN,Wa1] at hrow;have hrowF:=hT.rowF;obtain ⟨gF,fc',hvF,hgF,hlF⟩:=hrowF.form (by omega);injection hvF with e1 _ e3
   subst e1 e3;have hbF:BT wr gF 76:=BT.of_own hrowF rfl;have hbp:BT wr gp 79:=BT.of_own hrow rfl;have hbq:BT wr W1.heap.size 133:=⟨_,_,hT.cell⟩;have haF:AllC ZaT wr gF:=hT.allF gF rfl;have haQ:AllC ZaT wr W1.heap.size:=⟨_,_,hT.cell,fun x hx=>by
    simp at hx;rcases hx with rfl | rfl | rfl | rfl | rfl | rfl <;> simp [ZaT]⟩
   have hOl:O.length = Ss.length:=hT.len;have hdig:∀ {w':World} {A0:Option Addr} {c0:Nat} {l0:List Int},wr.heap.size <= w'.heap.size -> (∀ b,b < wr.heap.size -> b ≠ W1.heap.size -> b ≠ gF -> w'.heap[b]? = wr.heap[b]?) -> Dg wr A0 c0 l0 -> Dg w' A0 c0 l0:=fun hs hk hd=>⟨hd.lies.same hs (fun b off _ hl hb hc=>hk b hb (ZcV hl hc haQ) (ZcV hl hc haF)),hd.dig,hd.cap,hd.nil⟩;refine ⟨⟨W1.heap.size,gF,some ⟨gp,0,none⟩,pc,O,fc,List.replicate Ss.length J2⟩,rfl,⟨?_,?_,?_,?_,?_,?_,?_,?_,?_⟩,by show _ <= W1.heap.size;omega,by show _ <= gF;omega,HB1.out.trans (HBk.out.mono HB1.out.size),haF,rfl,?_⟩
   ·show wr.heap[W1.heap.size]? = some (.cells #[.slice (some ⟨gp,0,none⟩) O.length pc,_,_,_,.slice (some ⟨gF,0,none⟩) (List.replicate Ss.length J2).length fc,_,_,_,_,_] _ _);rw [hOl,WbL];exact hT.cell
   ·intro w' hs hk;refine ⟨?_,by rw [hOl];exact HPL.out.len,fun j s' p h1 h2=>?_⟩
    ·exact (Lies.of_own hrow).same hs (fun b off e _ hb _=>by
      injection e with e
      injection e with e
      subst e;exact hk gp hb (hbp.ne hbq (by decide)) (hbp.ne hbF (by decide)))
    ·obtain ⟨a1,a2,a3,a4,a5⟩:=hT.new j s' p h1 h2;have sz:=HPN.out j p h2;have q4:Fq w' s'.L p.le:=⟨⟨hdig hs hk a4.ok.n,hdig hs hk a4.ok.d⟩,a4.neg,a4.num,a4.dn⟩;have q5:Fq w' s'.S p.su:=⟨⟨hdig hs hk a5.ok.n,hdig hs hk a5.ok.d⟩,a5.neg,a5.num,a5.dn⟩;exact ⟨a1,a2,(Lies.of_own a3).same hs (fun b off e _ hb _=>by
      have hbt:BT wr b 9:=BT.of_own a3 (by rw [e];rfl);exact hk b hb (hbt.ne hbq (by decide)) (hbt.ne hbF (by decide))),Ua a3,q4.fv,q5.fv,q4.few sz.1,q5.few sz.2⟩
   ·show wr.ownsRow 0 _ 3 (.slice (some ⟨gF,0,none⟩) (List.replicate Ss.length J2).length fc) (List.replicate Ss.length J2).length _;rw [WbL];exact JI hrowF (WaU _)
   ·intro f hf;rw [WbM hf];exact WJ _ _ _ _
   ·exact Uo (fun k hk=>by simp [J2,blk,Value.ownBlock] at hk) _
   ·show (List.replicate Ss.length J2).map FlM.pure = Ps.map _;rw [List.map_replicate,HPL.out.len];have:∀ l:List PSl,List.replicate l.length J2.pure = l.map fun _=>(⟨1,ByteArray.empty,[]⟩:PFl):=fun l=>by
     induction l with
     | nil=>rfl
     | cons x l ih=>rw [WZ,We4,ih];rfl
    exact this Ps
   ·show (List.replicate Ss.length J2).length = O.length;rw [WbL,hOl]
   ·show 0 < (List.replicate Ss.length J2).length;rw [WbL];omega
   ·exact ⟨hbq.lt,hlF,WK _⟩
   ·intro w' hs hk hu;have hb1:w.heap.size <= W1.heap.size:=HB1.out.size;refine ⟨?_,by rw [hOl];exact HPL.out.len,fun j s' p h1 h2=>?_⟩
    ·exact (Lies.of_own hrow).same hs (fun b off e _ hb _=>by
      have e':=e;injection e with e
      injection e with e
      subst e;exact hk gp (tR hb1 (hrow.lt gp rfl).1) hb (hbp.ne hbq (by decide)) (hbp.ne hbF (by decide)))
    ·obtain ⟨a1,a2,a3,a4,a5⟩:=hT.new j s' p h1 h2;have sz:=HPN.out j p h2;have q4:=a4.ku hu;have q5:=a5.ku hu;exact ⟨a1,a2,(Lies.of_own a3).same hs (fun b off e _ hb _=>by
      have hbt:BT wr b 9:=BT.of_own a3 (by rw [e];rfl);exact hk b (tR hb1 (a3.lt b (by rw [e];rfl)).1) hb (hbt.ne hbq (by decide)) (hbt.ne hbF (by decide))),Ua a3,q4.fv,q5.fv,q4.few sz.1,q5.few sz.2⟩
theorem Zfl (A:Option Addr) (c:Nat) (Ss:List SlM) (Ps:List PSl) (pat prm need:Int) (w:World) (h:PlM w A Ss Ps) (hsz:Hid (∀ s ∈ Ss,s.nm.size <= 1000000 /\ ∀ v ∈ s.vs,v.size <= 1000000)) (hvl:Hid (∀ s ∈ Ss,s.vs.length <= 1000000)) (hB:Hid (Zq pat prm need Ps = true)) :
  Calls Tryz.prog 29 #[.agg #[.slice A Ss.length c,.int .i64 pat,.int .i64 prm,.int .i64 need]] w fun e w'=>∃ a:DlA,e = .returned (.tuple #[.pointer (some ⟨a.q,0,none⟩),.int .i64 0]) /\ DlM w' w'.heap.size a (Q1 pat prm need Ps) /\ w.heap.size <= a.q /\ w.heap.size <= a.gF /\ Below w.heap.size w w':=
 (ZgK A c Ss Ps pat prm need w h hsz hvl hB).mono fun _ _ ⟨a,h1,h2,h3,h4,h5,_⟩=>⟨a,h1,h2,h3,h4,h5⟩
theorem ZgL (A:Option Addr) (c:Nat) (Ss:List SlM) (Ps:List PSl) (pat prm need:Int) (w:World) (h:PlM w A Ss Ps) (hsz:Hid (∀ s ∈ Ss,s.nm.size <= 1000000 /\ ∀ v ∈ s.vs,v.size <= 1000000)) (hB:Hid (Zq pat prm need Ps = false)) :
  Calls Tryz.prog 29 #[.agg #[.slice A Ss.length c,.int .i64 pat,.int .i64 prm,.int .i64 need]] w fun e w'=>e = .returned (.tuple #[.pointer none,.int .i64 2]) /\ Below w.heap.size w w':=by
 obtain ⟨W0,hW0⟩:∃ W0:World,W0 = w.alloc (.cells #[.slice A Ss.length c,.int .i64 pat,.int .i64 prm,.int .i64 need] 48):=⟨_,rfl⟩;have HB0:Hid (Below w.heap.size w W0):=zH (by rw [hW0];exact bR.alloc nR _);have HX0:Hid (W0.heap[w.heap.size]? = some (.cells #[.slice A Ss.length c,.int .i64 pat,.int .i64 prm,.int .i64 need] 48 (0,0))):=zH (by rw [hW0];exact Wg w _);have HPL:=zH (h.below HB0.out);have c0:W0.cell? ⟨w.heap.size,0,none⟩ = some (.slice A Ss.length c):=(cR 0 HX0.out).trans rfl;have c1:W0.cell? ⟨w.heap.size,1,none⟩ = some (.int .i64 pat):=(cR 1 HX0.out).trans rfl;have c2:W0.cell? ⟨w.heap.size,2,none⟩ = some (.int .i64 prm):=(cR 2 HX0.out).trans rfl;have c3:W0.cell? ⟨w.heap.size,3,none⟩ = some (.int .i64 need):=(cR 3 HX0.out).trans rfl;clear h;go_enter Tryz.func29,Tryz.ntmps29;go_wp2_with fail;rw [<- hW0];clear hW0;go_wp2_with fail;refine (UR A c Ss Ps pat prm need W0 HPL.out hsz false hB).mono ?_;rintro e W1 ⟨rfl,hb1⟩;have HB1:=zH (HB0.out.trans (hb1.mono HB0.out.size));clear hb1 c0 c1 c2 c3;go_wp2_with fail;go_ret2;exact ⟨rfl,HB1.out⟩
theorem ZbH (w:World) (n m:Nat):∃ k,(w.drewN n).drewN m = w.drewN k:=⟨_,Wa5 _ _ _⟩
theorem Zc6 (A B:Option Addr) (c d:Nat) (a b:List Int) (w:World) (hA:Lies w A (ics a)) (hB:Lies w B (ics b)) (hl:a.length = b.length) (hn:a.length <= 9223372036854775807) (r:Int) (hr:Hid (Xm a b = r)) :
  Calls Tryz.prog 101 #[.slice A a.length c,.slice B b.length d] w fun e w'=>e = .returned (.int .i64 r) /\ ∃ n,w' = w.drewN n:=by
 rw [<- hl];have HL:=zH hl;clear hl;go_enter Tryz.func101,Tryz.ntmps101;go_wp2_with fail;go_loopw [5] (fun i wr=>∃ k:Nat,k <= a.length /\ i = .int .i64 k /\ Hid (a.take k = b.take k) /\ ∃ n,wr = w.drewN n) (fun i _=>a.length - (intOf i).toNat)
 case atStart=>exact ⟨0,by omega,rfl,zH (by simp),0,rfl⟩
 case round=>
  obtain ⟨k,hk,rfl,HE,n,hwd⟩:=hrel;have L1:Lies wr A (ics a):=by rw [hwd];exact hA.drewN n
  have L2:Lies wr B (ics b):=by rw [hwd];exact hB.drewN n
  have WD:=zH hwd;clear hwd;by_cases hlt:k < a.length
  ·have hlb:k < b.length:=by rw [<- HL.out];exact hlt
   obtain ⟨b1,o1,rfl,hb1,hc1⟩:=L1.at_ hlt;obtain ⟨b2,o2,rfl,hb2,hc2⟩:=L2.at_ hlb;have HAT:=zH (fun hne=>Zfg (k:=k) HE.out hlt hlb hne);have HSU:=zH (fun he=>Un (k:=k) HE.out hlt hlb he);have e1:a[k]?.getD 0 = a[k]:=(by rw [gE hlt];rfl);have e2:b[k]?.getD 0 = b[k]:=(by rw [gE hlb];rfl);rw [e1] at hc1;rw [e2] at hc2;clear e1 e2;generalize a[k] = x at *
   generalize b[k] = y at *
   by_cases he:x = y
   ·subst he;have HN:=zH (HSU.out rfl);clear HAT HSU;go_wp2_with fail;go_quiet (fail);go_wp2_with fail;exact ⟨⟨k + 1,by omega,by go_num,HN,by rw [WD.out];exact ZH _ _ _⟩,by simp [intOf];omega⟩
   ·have q:(x != y) = true:=(by simpa using he);have hne:ZaV x y ≠ 0:=fun h=>he (VM.1 h);have hz:ZaV x y = r:=(by rw [<- hr.out,HAT.out hne]);have hne':=zH hne;clear HAT HSU hne he;by_cases hlt2:x < y
    ·have hz1:r = -1:=(by rw [<- hz];unfold ZaV;rw [WA hlt2]);subst hz1;clear hz hne';go_wp2_with fail;go_quiet (fail);go_wp2_with fail;go_quiet (fail);go_wp2_with fail;go_ret;exact ⟨rfl,by rw [WD.out];exact ⟨_,by rw [Wa5,Wa5]⟩⟩
    ·have hz1:r = 1:=by
      have h2:=hne'.out;rw [<- hz];unfold ZaV at h2 ⊢;rw [Ww hlt2] at h2 ⊢;split at h2
      ·rename_i h3;rw [WA h3]
      ·exact absurd rfl h2
     subst hz1;clear hz hne';go_wp2_with fail;go_quiet (fail);go_wp2_with fail;go_quiet (fail);go_wp2_with fail;go_ret;exact ⟨rfl,by rw [WD.out];exact ⟨_,by rw [Wa5,Wa5]⟩⟩
  ·obtain rfl:k = a.length:=by omega
   have hz:r = 0:=by
    rw [<- hr.out,ZcZ (by have:=HE.out;simpa using this) (by rw [HL.out];exact WK _),Ww (by rw [HL.out];exact Nat.lt_irrefl _)]
   subst hz;go_wp2_with fail;go_ret;exact ⟨rfl,n,WD.out⟩
theorem Za4 (A B:Option Addr) (c d:Nat) (a b:List Int) (w:World) (hA:Lies w A (ics a)) (hB:Lies w B (ics b)) (hl:a.length = b.length) (hn:a.length <= 9223372036854775807) (r:Int) (hr:Hid (Xm a b = r)) (m:Nat) :
  Calls Tryz.prog 101 #[.slice A a.length c,.slice B b.length d] (w.drewN m) fun e w'=>e = .returned (.int .i64 r) /\ ∃ k,w' = (w.drewN m).drewN k:=
 Zc6 A B c d a b (w.drewN m) (hA.drewN m) (hB.drewN m) hl hn r hr
theorem Ze {B:Nat} {w w':World} (h:Below B w w'):Below B w w'.drew:=⟨h.os,h.tape,h.output,h.size,h.block⟩
theorem ZZ (w:World) (o1 o2:Obj):((w.alloc o1).alloc o2).drew.heap[w.heap.size]? = some o1:=(WaC _ _ _ (by simp)).trans (Wg w _)
theorem ZY (w:World) (o1 o2:Obj):((w.alloc o1).alloc o2).drew.heap[w.heap.size + 1]? = some o2:=by
 have h:=Wg (w.alloc o1) o2;rw [show (w.alloc o1).heap.size = w.heap.size + 1 by simp] at h;exact h
end Go.Proofs.YtcjicjfbippmnaaGreat
