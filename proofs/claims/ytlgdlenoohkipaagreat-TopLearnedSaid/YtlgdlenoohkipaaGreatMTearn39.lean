/- TopLearned -/
import Derived.Test.YtlgdlenoohkipaaGreatMTearn38
set_option maxRecDepth 100000
set_option maxHeartbeats 32000000
namespace Go.Proofs.YtlgdlenoohkipaaGreat
open Go.RowKit Ear

def ZjH:Ar:=⟨0,0,0,0,Zi4⟩
def arI (L:List Ar) (z:Int):Ar:=(L[z.toNat]?).getD ZjH
theorem Vv {L:List Ar} {z:Int} {i:Nat} (hz:z = (i:Int)) (hi:i < L.length):arI L z = L[i]:=by
 unfold arI;rw [hz,Int.toNat_natCast,gE hi];rfl
def pAt (L:List Ar) (l:List Int):Nat -> Int
 | 0=>0
 | k + 1=>(arI L (l[k]?.getD 0)).en
structure PthOk (Fm:Int) (L:List Ar) (l:List Int):Prop where
 ix:∀ k,k < l.length -> 0 <= l[k]?.getD 0 /\ l[k]?.getD 0 < (L.length:Int)
 fr:∀ k,k < l.length -> (arI L (l[k]?.getD 0)).fr = pAt L l k
 en:pAt L l l.length = Fm
theorem ZeS (p:GrP) (base gb rb fb fn:Nat) (A:Option Addr) (c:Nat) (l:List Int) (w:World) (hI:GrI w p base gb rb fb fn) (hA:Lies w A (ics l)) (hn:l.length <= 1000) (hp:Hid (PthOk p.Fm p.L l)) :
  Calls Tryz.prog 33 #[.pointer (some ⟨gb,0,none⟩),.slice A l.length c] w (ZaE true w):=by
 have HI:=zH hI;have HA:=zH hA;clear hI hA;go_enter Tryz.func33,Tryz.ntmps33;go_wp2_with fail;go_loopw [5,10] (fun t5 t10 wr=>∃ k:Nat,k <= l.length /\ t5 = .int .i64 (pAt p.L l k) /\ t10 = .int .i64 (k:Int) /\ Hid (wr = w)) (fun _ t10 _=>l.length - (intOf t10).toNat)
 case atStart=>exact ⟨0,Nat.zero_le _,rfl,rfl,zH rfl⟩
 case round=>
  obtain ⟨k,hk,rfl,rfl,HW⟩:=hrel;obtain rfl:=HW.out;obtain ⟨d0,d1,d2,d3,d4,d5,d6,d7,d8,d9,d10,d11⟩:=HI.out.cells;by_cases hlt:k < l.length
  ·have hlt':(k:Int) < (l.length:Int):=by omega
   obtain ⟨b,off,rfl,hb,hc⟩:=HA.out.at_ (k:=k) hlt;obtain ⟨hx1,hx2⟩:=hp.out.ix k hlt;have hfr:=hp.out.fr k hlt;have HEN:Hid ((arI p.L (l[k]?.getD 0)).en = pAt p.L l (k + 1)):=zH rfl;generalize l[k]?.getD 0 = z at *
   obtain ⟨i,hi⟩:∃ i:Nat,z = (i:Int):=⟨z.toNat,by omega⟩;subst hi;have hil:i < p.L.length:=(by omega);rw [Vv rfl hil] at hfr HEN;obtain ⟨ab,ao,hPA,hab,v0,v1,v2,v3,v4,v5,v6⟩:=HI.out.ok.ar.at_ hil;rw [hPA] at d1;rw [hfr] at v0;rw [HEN.out] at v1;have g1:¬ (i:Int) < 0:=(by omega);have g2:¬ (p.L.length:Int) <= (i:Int):=(by omega);clear v2 v3 v4 v5 v6 hfr HEN hPA;go_wp2_with fail;exact ⟨⟨k + 1,by omega,rfl,by go_num,zH trivial⟩,by simp [intOf];omega⟩
  ·obtain rfl:k = l.length:=by omega
   have hen:=hp.out.en;rw [hen];go_wp2_with fail;go_ret;exact ⟨Jm (by simp),Below.refl _ _⟩
def V5 (p:GrP) (l:List Int):Nat -> K4
 | 0=>(0,0,0,0)
 | k + 1=>Ub (p.o - 1) (V5 p l k) (arI p.L (l[k]?.getD 0)).wd
def rtQ (p:GrP) (l:List Int):Nat -> Rat
 | 0=>((1:Int):Rat)
 | k + 1=>rtQ p l k * ((arI p.L (l[k]?.getD 0)).x.q * Zt p (V5 p l k) (arI p.L (l[k]?.getD 0)).wd.toNat)
def wdP (p:GrP) (l:List Int):Nat -> List Int
 | 0=>[]
 | k + 1=>wdP p l k ++ [(arI p.L (l[k]?.getD 0)).wd]
theorem YD (p:GrP) (l:List Int):∀ k,(wdP p l k).length = k
 | 0=>rfl
 | k + 1=>by simp [wdP,YD p l k]
theorem Zfc {w:World} {p:GrP} {l:List Int} (h:GrOk w p) (hl:∀ k,k < l.length -> 0 <= l[k]?.getD 0 /\ l[k]?.getD 0 < (p.L.length:Int)):∀ k,k <= l.length -> pOk p.V (V5 p l k)
 | 0,_=>by
  have:=h.hV;refine ⟨?_,?_,?_,?_⟩ <;> simp only [V5] <;> omega
 | k + 1,hk=>by
  refine Zgq (Zfc h hl k (by omega)) ?_;obtain ⟨h1,h2⟩:=hl k (by omega);have hi:(l[k]?.getD 0).toNat < p.L.length:=by omega
  rw [Vv (i:=(l[k]?.getD 0).toNat) (by omega) hi];have h3:=(h.lat.arc _ (yM hi)).wd;have h4:=h.wd _ (yM hi);omega
def ZjX (p:GrP) (base gb rb fb fn:Nat) (A:Option Addr) (n c:Nat) (ws:List Int) (q:Rat) (w:World) (e:Ending) (w':World):Prop:=∃ WA wc r,e = .returned (.agg (rtC A n c WA ws.length wc r)) /\ Fq w' r q /\ Lies w' WA (ics ws) /\ GrI w' p base gb rb fb fn /\ KpC w w' /\ Below base w w'
theorem Zdw (p:GrP) (base gb rb fb fn:Nat) (A:Option Addr) (c:Nat) (l:List Int) (w:World) (hI:GrI w p base gb rb fb fn) (hA:Lies w A (ics l)) (hn:l.length <= 1000) (hp:Hid (PthOk p.Fm p.L l)) (hbw:base <= w.heap.size) (hz:∀ k,k <= l.length -> Sz (rtQ p l k) 80000) :
  Calls Tryz.prog 34 #[.pointer (some ⟨gb,0,none⟩),.slice A l.length c] w (ZjX p base gb rb fb fn A l.length c (wdP p l l.length) (rtQ p l l.length * Zt p (V5 p l l.length) 0) w):=by
 have HOKW:=zH hI.ok;have HPK:=zH (Zfc hI.ok hp.out.ix);have HSZ:=zH hz;have hgw:gb < w.heap.size:=(aE hI.box).1;obtain ⟨W0,hW0⟩:∃ X:World,X = w.alloc (.cells (rtC none 0 0 none 0 0 JI) 60):=⟨_,rfl⟩;have HB0:Hid (Below w.heap.size w W0):=zH (by rw [hW0];exact bR.alloc nR _);have HR0:Hid (W0.heap[w.heap.size]? = some (.cells (rtC none 0 0 none 0 0 JI) 60 (0,0))):=zH (by rw [hW0];exact heap_alloc_new w _);have hs0:w.heap.size < W0.heap.size:=(aE HR0.out).1;have HI0:=zH (hI.below HB0.out);have HOK0:=zH HI0.out;have HA0:=zH (hA.below HB0.out);have HS0:Hid (base <= w.heap.size /\ w.heap.size < W0.heap.size /\ gb < w.heap.size):=zH ⟨hbw,hs0,hgw⟩;clear hI hA hbw hgw hs0 hz;simp only [rtC,JI,List.length_nil] at hW0;go_enter Tryz.func34,Tryz.ntmps34;go_upto_region 1 with fail;rw [<- hW0];clear hW0;go_wp2_with fail;refine (Xl 1 W0 (by omega) (by omega)).mono ?_;rintro e U1 ⟨r,rfl,hr,hb1⟩;obtain ⟨rn,rA,rc,rN,rB,rd,rD⟩:=r;obtain ⟨W1,hW1⟩:∃ X:World,X = (U1.alloc (.cells #[.slice A l.length c,.slice none 0 0,.bool rn,.slice rA rN.length rc,.slice rB rD.length rd] 60)):=⟨_,rfl⟩;obtain ⟨W2,hW2⟩:∃ X:World,X = W1.alloc (.cells #[.int .i64 0,.int .i64 0,.int .i64 0,.int .i64 0,.int .i64 0] 129):=⟨_,rfl⟩;obtain ⟨k4,hk4⟩:∃ k,k = w.heap.size:=⟨_,rfl⟩;obtain ⟨k5,hk5⟩:∃ k,k = U1.heap.size:=⟨_,rfl⟩;obtain ⟨k6,hk6⟩:∃ k,k = W1.heap.size:=⟨_,rfl⟩;have e1:W1.heap.size = U1.heap.size + 1:=by rw [hW1];simp
 have HB2:Hid (Below W0.heap.size W0 W2):=zH (by
  rw [hW2,hW1];have:=hb1.size;exact (hb1.alloc this _).alloc (by simp;omega) _)
 have HU2:Hid (Below U1.heap.size U1 W2):=zH (by rw [hW2,hW1];exact al2 U1 _ _);have HR2:Hid (RtS W0 p base gb rb fb fn k5 k6 A l.length c 0 (0,0,0,0) [] none 0 ⟨rn,rA,rc,rN,rB,rd,rD⟩ ((1:Int):Rat) W2):=zH ⟨HI0.out.below HB2.out,KpC.below HB2.out,HB2.out.mono (by have:=HS0.out;omega),by rw [hW2,hk5,hW1];exact (YZ U1 _ _).trans (heap_alloc_new U1 _),hr.below HU2.out,World.ownsRow_nil _ _ _ _,fun g hg=>(by cases hg),by rw [hW2,hk6];exact heap_alloc_new W1 _,⟨by have:=HS0.out;omega,by have:=hb1.size;omega,by have:=hb1.size;omega,by have:=HS0.out;omega⟩,HI0.out.ok⟩;have HR4:Hid (W2.heap[k4]? = some (.cells (rtC none 0 0 none 0 0 JI) 60 (0,0))):=zH ((HB2.out.block _ (by have:=HS0.out;omega)).trans (by rw [hk4];exact HR0.out));have HS4:Hid (w.heap.size <= k4 /\ k4 < W0.heap.size /\ k4 < k5 /\ k5 < k6 /\ W0.heap.size <= k5):=zH (by have:=HS0.out;have:=hb1.size;omega);have HK4:=zH hk4;clear hr hb1 e1 HU2 HB2 hk4;go_upto_region 2 with fail;rw [<- hW1,<- hk5];clear hW1 hk5;go_upto_region 3 with fail;rw [<- hW2,<- hk6];clear hW2 hk6;go_wp2_with fail;go_loopw [16] (fun t16 wr=>∃ k:Nat,k <= l.length /\ t16 = .int .i64 (k:Int) /\ ∃ WA wc r,Hid (RtS W0 p base gb rb fb fn k5 k6 A l.length c (pAt p.L l k) (V5 p l k) (wdP p l k) WA wc r (rtQ p l k) wr)) (fun t16 _=>l.length - (intOf t16).toNat)
 case atStart=>exact ⟨0,Nat.zero_le _,rfl,none,0,_,HR2⟩
 case round=>
  obtain ⟨k,hk,rfl,WA,wc,r,HR⟩:=hrel;by_cases hlt:k < l.length
  ·have HKL:Hid (k <= l.length):=zH hk;have HKT:Hid (k < l.length):=zH hlt;have hlt':(k:Int) < (l.length:Int):=(by omega);obtain ⟨ab,ao,rfl,hb,hc⟩:=(HR.out.kp.lies HA0.out).at_ (k:=k) hlt;obtain ⟨hx1,hx2⟩:=hp.out.ix k hlt;have HST:Hid (pAt p.L l (k + 1) = (arI p.L (l[k]?.getD 0)).en /\ V5 p l (k + 1) = Ub (p.o - 1) (V5 p l k) (arI p.L (l[k]?.getD 0)).wd /\ rtQ p l (k + 1) = rtQ p l k * ((arI p.L (l[k]?.getD 0)).x.q * Zt p (V5 p l k) (arI p.L (l[k]?.getD 0)).wd.toNat) /\ wdP p l (k + 1) = wdP p l k ++ [(arI p.L (l[k]?.getD 0)).wd]):=zH ⟨rfl,rfl,rfl,rfl⟩;have HPO:=zH (HPK.out k hk);generalize l[k]?.getD 0 = z at *
   obtain ⟨i,hi⟩:∃ i:Nat,z = (i:Int):=⟨z.toNat,by omega⟩;subst hi;have hil:i < p.L.length:=(by omega);rw [Vv rfl hil] at HST;obtain ⟨V1,hV1⟩:∃ X:World,X = wr.alloc (.cells #[.bool false,.slice none 0 0,.slice none 0 0] 31):=⟨_,rfl⟩;obtain ⟨k9,hk9⟩:∃ k,k = wr.heap.size:=⟨_,rfl⟩;have hbV:Below wr.heap.size wr V1:=(by rw [hV1];exact bR.alloc nR _);have HF1:Hid (Fb V1 k9 JI):=zH (by rw [hV1,hk9];exact heap_alloc_new wr _);have hR1:=HR.out.below hbV;have h69:k6 < k9:=(by rw [hk9];exact (aE HR.out.sp).1);have h09:W0.heap.size <= k9:=(by have:=HS4.out;omega);have HK9:=zH hk9;have C7:=zH (ZiX p base gb rb fb fn (pAt p.L l k) (V5 p l k) i V1 hR1.gi HPO.out hil hR1.size);have HR1:=zH hR1;have hwd:=hR1.ok.wd _ (yM hil);obtain ⟨c0,c1,c2,c3,c4⟩:=Ym hR1.sp;have HAR:=zH (hR1.ok.ar.at_ hil);have HSX:Hid (Sz (p.L[i].x.q * Zt p (V5 p l k) p.L[i].wd.toNat) 701):=zH (by
    have h1:Sz p.L[i].x.q 100:=(hR1.ok.ar.ok _ (yM hil)).W.fv.sz (hR1.ok.fa _ (yM hil)) (by decide);have h3:=(hR1.ok.lat.arc _ (yM hil)).wd;exact (h1.mul (UB hR1.ok (V5 p l k) (i:=p.L[i].wd.toNat) (by have:=hR1.ok.wd _ (yM hil);have:=hR1.two;omega))).mono (by decide))
   generalize p.L[i] = a at *
   clear hbV hR1 HPO;obtain ⟨t,ht⟩:∃ t,t = pAt p.L l k:=⟨_,rfl⟩;obtain ⟨hh,hhh⟩:∃ h,h = V5 p l k:=⟨_,rfl⟩;obtain ⟨nh,hnh⟩:∃ h,h = Ub (p.o - 1) (V5 p l k) a.wd:=⟨_,rfl⟩;rw [<- hnh] at C7 HST;rw [<- hhh] at C7 HST HSX HR1 c1 c2 c3 c4 HR;rw [<- ht] at C7 HR1 c0 HR;obtain ⟨y0,y1,y2,y3⟩:=hh;obtain ⟨n0,n1,n2,n3⟩:=nh;simp only [Zjy] at C7;clear hnh hhh ht;go_upto_region 7 with fail;rw [<- hV1,<- hk9];clear hV1 hc hk9;go_wp2_with fail;refine C7.out.mono ?_;rintro e U2 ⟨r2,rfl,hr2,h1,h2,h3⟩;have hR2:=HR1.out.say h1 h2 h3;have hF2:Fb U2 k9 JI:=h2.row _ _ _ _ HF1.out;obtain ⟨q0,q1,q2,q3,q4⟩:=Ym hR2.sp;have f0:=Jl hR2.sp 0;have f1:=Jl hR2.sp 1;have f2:=Jl hR2.sp 2;have f3:=Jl hR2.sp 3;have f4:=Jl hR2.sp 4;obtain ⟨g0,g1,g2,t0,t1,t2⟩:=hF2.facts;have HR2:=zH hR2;have HF2:=zH hF2;have HQ2:=zH hr2;have H69:=zH h69;have H09:=zH h09;have hne:¬ k9 = k6:=(by omega);have hne':¬ k6 = k9:=(by omega);clear h1 h2 h3 hR2 hF2 h69 h09 hb hx1 hx2 hr2 c0 c1 c2 c3 c4 hlt hlt' hk hwd;obtain ⟨Z,hZ⟩:∃ Z,Z = ((((((((U2.setCell ⟨k6,0,none⟩ (.int .i64 a.en)).setCell ⟨k6,1,none⟩ (.int .i64 n0)).setCell ⟨k6,2,none⟩ (.int .i64 n1)).setCell ⟨k6,3,none⟩ (.int .i64 n2)).setCell ⟨k6,4,none⟩ (.int .i64 n3)).setCell ⟨k9,0,none⟩ (.bool r2.neg)).setCell ⟨k9,1,none⟩ (.slice r2.A r2.N.length r2.c)).setCell ⟨k9,2,none⟩ (.slice r2.B r2.D.length r2.d)):=⟨_,rfl⟩;have hs1:=HR2.out.spot a.en (n0,n1,n2,n3);have hf1:Fb (Zby U2 k6 (.int .i64 a.en) (.int .i64 n0) (.int .i64 n1) (.int .i64 n2) (.int .i64 n3)) k9 JI:=(YM (by omega) _ _ _ _ _).trans HF2.out;have hs2:=hs1.box (y:=r2) hf1 H09.out;have hf2:Fb Z k9 r2:=(by rw [hZ];exact hf1.put);have hq2:Fq Z r2 (a.x.q * Zt p (y0,y1,y2,y3) a.wd.toNat):=by
    rw [hZ];exact (HQ2.out.ku (ZbT HR2.out.sp _ _ _ _ _)).rowed hf1 _ _ _
   have HRZ:Hid (RtS W0 p base gb rb fb fn k5 k6 (some ⟨ab,ao,none⟩) l.length c a.en (n0,n1,n2,n3) (wdP p l k) WA wc r (rtQ p l k) Z):=zH (by rw [hZ];exact hs2);have HFZ:=zH hf2;have HQZ:=zH hq2;clear hs1 hf1 hs2 hf2 hq2 HR2 HF2 HQ2 HR1 HF1 HR C7;go_upto_region 8 with fail;rw [<- hZ];clear hZ q0 q1 q2 q3 q4 f0 f1 f2 f3 f4 g0 g1 g2 t0 t1 t2;obtain ⟨-,-,g2,g3,g4⟩:=Ym HRZ.out.rt;obtain ⟨t0,t1,t2,-,-,-⟩:=HFZ.out.facts;have C8:=zH (Yv r r2 (rtQ p l k) (a.x.q * Zt p (y0,y1,y2,y3) a.wd.toNat) Z HRZ.out.fq.fv HQZ.out.fv (JN (HRZ.out.fq.few (HSZ.out k HKL.out)) (by decide)) (JN (HQZ.out.few HSX.out) (by decide)));obtain ⟨rn',rA',rc',rN',rB',rd',rD'⟩:=r;obtain ⟨sn,sA,sc,sN,sB,sd,sD⟩:=r2;go_wp2_with fail;refine C8.out.mono ?_;rintro e U3 ⟨r3,rfl,hr3,hb3⟩;have HR3:=zH (HRZ.out.below hb3);have HQ3:=zH hr3;clear g2 g3 g4 t0 t1 t2 C8 HFZ HQZ hb3 hr3 HRZ;obtain ⟨-,-,g2,g3,g4⟩:=Ym HR3.out.rt;have f2:=Jl HR3.out.rt 2;have f3:=Jl HR3.out.rt 3;have f4:=Jl HR3.out.rt 4;obtain ⟨Z,hZ⟩:∃ Z,Z = (((U3.setCell ⟨k5,2,none⟩ (.bool r3.neg)).setCell ⟨k5,3,none⟩ (.slice r3.A r3.N.length r3.c)).setCell ⟨k5,4,none⟩ (.slice r3.B r3.D.length r3.d)):=⟨_,rfl⟩;have HRZ:Hid (RtS W0 p base gb rb fb fn k5 k6 (some ⟨ab,ao,none⟩) l.length c a.en (n0,n1,n2,n3) (wdP p l k) WA wc r3 (rtQ p l (k + 1)) Z):=zH (by rw [hZ,HST.out.2.2.1];exact HR3.out.frac HQ3.out);go_upto_region 9 with fail;rw [<- hZ];clear hZ g2 g3 g4 f2 f3 f4 HR3 HQ3;obtain ⟨b2,o2,hpA,hb2,-,-,v2,-,-,-,-⟩:=HAR.out;obtain ⟨-,d1,-⟩:=HOK0.out.cells;rw [hpA] at d1;have HRD:=zH (HRZ.out.below bR.drew);obtain ⟨A',c',u',hrun,hfz,hcw,hkw,hrw⟩:=HRD.out.word a.wd (by rw [YD];have:=HKL.out;omega);have hiL:(i:Int) < (p.L.length:Int):=(by omega);have HC8:Hid (∀ u,KpC W0 u -> u.cell? ⟨gb,1,none⟩ = some (.slice (some ⟨b2,o2,none⟩) p.L.length p.c) /\ u.cell? ⟨b2,o2 + i * 7 + 2,none⟩ = some (.int .i64 a.wd)):=zH (fun u hu=>⟨hu.cell d1,hu.cell v2⟩);have h51:Z.drew.cell? ⟨k5,1,none⟩ = some (.slice WA (wdP p l k).length wc):=(Ym HRD.out.rt).2.1;have hws:W0.heap.size <= Z.drew.heap.size:=HRD.out.kp.size;have h5l:k5 < Z.drew.heap.size:=(aE HRD.out.rt).1;have hal:Below Z.drew.heap.size Z.drew (Z.drew.alloc (.cells #[.int .i64 a.wd] 3)):=bR.alloc nR _;have HALL:Hid ((Z.drew.alloc (.cells #[.int .i64 a.wd] 3)).cell? ⟨k5,1,none⟩ = some (.slice WA (wdP p l k).length wc) /\ KpC W0 (Z.drew.alloc (.cells #[.int .i64 a.wd] 3))):=zH ⟨(hal.cell (p:=⟨k5,1,none⟩) h5l).trans h51,HRD.out.kp.trans (KpC.below hal)⟩;have HCW:=zH hcw;have HKW:=zH hkw;have HRW:=zH hrw;have HS51:=zH h51;have HKD:=zH HRD.out.kp;have HRUN:=zH hrun;have HFZ:=zH hfz;have HWL:=zH (YD p l k);clear hal h5l hws hrw hkw hcw h51 v2 hb2 hpA d1 hrun HAR hfz;refine Xg (S:=fun w'=>w'.cell? ⟨k5,1,none⟩ = some (.slice WA (wdP p l k).length wc) /\ w'.cell? ⟨gb,1,none⟩ = some (.slice (some ⟨b2,o2,none⟩) p.L.length p.c) /\ w'.cell? ⟨b2,o2 + i * 7 + 2,none⟩ = some (.int .i64 a.wd)) 14 (by kernel_rfl) (by kernel_rfl) ⟨HS51.out,HC8.out _ HKD.out⟩ (fun hd=>?_);simp only [List.pop_toArray,List.dropLast_cons_cons,List.dropLast_singleton];iterate 11 (((refine Jd (v:=?_) rfl (by kernel_rfl) (fun _ _ _ h=>h) ⟨by rfl,?_⟩ hd ?_;rotate_left;· intro w' sw;obtain ⟨hS1,hS2,hS3⟩:=sw;go_simp;try with_reducible rfl);simp only [zA,zB,zC]))
   refine Jh 11 rfl (by kernel_rfl) rfl (fun K hK=>?_);go_simp;go_simp;refine hK _ _ ⟨HALL.out.1,HC8.out _ HALL.out.2⟩ (fun hd=>?_);clear hK K;refine Jh 12 rfl (by kernel_rfl) rfl (fun K hK=>?_);refine YC _ 44 rfl (.tmp 33) (.tmp 43) 35 rfl (.slice WA (wdP p l k).length wc) (.slice (some ⟨Z.drew.heap.size,0,none⟩) 1 1) rfl rfl HRUN.out ?_;refine hK _ _ ⟨HCW.out,HC8.out _ HKW.out⟩ (fun hd=>?_);clear hK K
   ((refine Jd (v:=?_) rfl (by kernel_rfl) (fun _ _ _ h=>h) ⟨by rfl,?_⟩ hd ?_;rotate_left;· intro w' sw;obtain ⟨hS1,hS2,hS3⟩:=sw;go_simp;try with_reducible rfl);simp only [zA,zB,zC])
   refine wpAnyH_done (by kernel_rfl) ?_ _;refine PopQ.last rfl rfl (fun K hK=>?_);have h51:=hd.1;have f51:=HFZ.out;go_simp;refine hK _ _ ?_;clear hK K f51 h51 hd;obtain ⟨Z9,hZ9⟩:∃ Z9,Z9 = u'.setCell ⟨k5,1,none⟩ (.slice A' ((wdP p l k).length + 1) c'):=⟨_,rfl⟩;have HR9:Hid (RtS W0 p base gb rb fb fn k5 k6 (some ⟨ab,ao,none⟩) l.length c (pAt p.L l (k + 1)) (V5 p l (k + 1)) (wdP p l (k + 1)) A' c' r3 (rtQ p l (k + 1)) Z9):=zH (by
    rw [hZ9,HST.out.1,HST.out.2.1,HST.out.2.2.2];exact HRW.out)
   rw [<- hZ9];clear hZ9;have hk1:k + 1 <= l.length:=HKT.out;have hk2:(k:Int) <= 1000:=(by omega);go_wp2_with fail;exact ⟨⟨k + 1,hk1,by go_num,A',c',r3,HR9⟩,by simp [intOf];omega⟩
  ·have HKE:Hid (k = l.length):=zH (by omega);have HPO:=zH (HPK.out k hk);have HSK:=zH (HSZ.out k hk);have h1:pAt p.L l k = pAt p.L l l.length /\ V5 p l k = V5 p l l.length /\ wdP p l k = wdP p l l.length /\ rtQ p l k = rtQ p l l.length:=(by rw [HKE.out];exact ⟨rfl,rfl,rfl,rfl⟩);have HRD:=zH (HR.out.below bR.drew);obtain ⟨t,ht⟩:∃ t,t = pAt p.L l k:=⟨_,rfl⟩;obtain ⟨hh,hhh⟩:∃ h,h = V5 p l k:=⟨_,rfl⟩;obtain ⟨rq,hrq⟩:∃ q,q = rtQ p l k:=⟨_,rfl⟩;obtain ⟨ws,hws⟩:∃ x,x = wdP p l k:=⟨_,rfl⟩;rw [<- hhh,<- hrq,<- ht,<- hws] at HRD;rw [<- hhh] at HPO;rw [<- hrq] at HSK;have HEQ:Hid (ws = wdP p l l.length /\ rq * Zt p hh 0 = rtQ p l l.length * Zt p (V5 p l l.length) 0):=zH (by rw [hhh,hrq,hws,h1.2.1,h1.2.2.1,h1.2.2.2];exact ⟨rfl,rfl⟩);clear ht hhh hrq hws HR h1;have SR:Hid (Sz (Zt p hh 0) 600):=zH (UB HRD.out.ok hh (by have:=HRD.out.two;omega));have C5:=zH (Za6 p base gb rb fb fn hh 0 wr.drew HRD.out.gi HPO.out (by have:=HRD.out.two;omega) HRD.out.size);obtain ⟨y0,y1,y2,y3⟩:=hh;obtain ⟨rp,hrp⟩:∃ x,x = Zt p (y0,y1,y2,y3) 0:=⟨_,rfl⟩;rw [<- hrp] at C5 SR HEQ;clear hrp HPO hk;have HC8:Hid (∀ u,RtS W0 p base gb rb fb fn k5 k6 A l.length c t (y0,y1,y2,y3) ws WA wc r rq u -> u.cell? ⟨k5,2,none⟩ = some (.bool r.neg) /\ u.cell? ⟨k5,3,none⟩ = some (.slice r.A r.N.length r.c) /\ u.cell? ⟨k5,4,none⟩ = some (.slice r.B r.D.length r.d) /\ u.cell? ⟨k6,1,none⟩ = some (.int .i64 y0) /\ u.cell? ⟨k6,2,none⟩ = some (.int .i64 y1) /\ u.cell? ⟨k6,3,none⟩ = some (.int .i64 y2) /\ u.cell? ⟨k6,4,none⟩ = some (.int .i64 y3)):=zH (fun u hu=>by
    obtain ⟨-,-,b2,b3,b4⟩:=Ym hu.rt;obtain ⟨-,a1,a2,a3,a4⟩:=Ym hu.sp;exact ⟨b2,b3,b4,a1,a2,a3,a4⟩)
   simp only [ek] at C5;have hge:¬ (k:Int) < (l.length:Int):=(by have:=HKE.out;omega);go_upto_region 11 with fail;refine Xg (S:=fun w'=>w'.cell? ⟨k5,2,none⟩ = some (.bool r.neg) /\ w'.cell? ⟨k5,3,none⟩ = some (.slice r.A r.N.length r.c) /\ w'.cell? ⟨k5,4,none⟩ = some (.slice r.B r.D.length r.d) /\ w'.cell? ⟨k6,1,none⟩ = some (.int .i64 y0) /\ w'.cell? ⟨k6,2,none⟩ = some (.int .i64 y1) /\ w'.cell? ⟨k6,3,none⟩ = some (.int .i64 y2) /\ w'.cell? ⟨k6,4,none⟩ = some (.int .i64 y3)) 8 (by kernel_rfl) (by kernel_rfl) (HC8.out _ HRD.out) (fun hd=>?_);simp only [List.pop_toArray,List.dropLast_cons_cons,List.dropLast_singleton];iterate 5 (((refine Jd (v:=?_) rfl (by kernel_rfl) (fun _ _ _ h=>h) ⟨by rfl,?_⟩ hd ?_;rotate_left;· intro w' sw;obtain ⟨hS1,hS2,hS3,hS4,hS5,hS6,hS7⟩:=sw;go_simp;try with_reducible rfl);simp only [zA,zB,zC]))
   refine Jh 5 rfl (by kernel_rfl) rfl (fun K hK=>?_);go_simp;refine C5.out.mono ?_;rintro e U2 ⟨r4,rfl,hr4,h1,h2,h3⟩;have HR2:=zH (HRD.out.say h1 h2 h3);have HQ4:=zH hr4;clear h1 h2 h3 hr4;go_simp;refine hK _ _ (HC8.out _ HR2.out) (fun hd=>?_);clear hK K;refine Jh 6 rfl (by kernel_rfl) rfl (fun K hK=>?_);go_simp;refine (Yv r r4 rq rp U2 HR2.out.fq.fv HQ4.out.fv (JN (HR2.out.fq.few HSK.out) (by decide)) (JN (HQ4.out.few SR.out) (by decide))).mono ?_;rintro e U3 ⟨r3,rfl,hr3,hb3⟩;have HR3:=zH (HR2.out.below hb3);have HQ3:=zH hr3;clear hb3 hr3;go_simp;refine hK _ _ (HC8.out _ HR3.out) (fun hd=>?_);clear hK K
   ((refine Jd (v:=?_) rfl (by kernel_rfl) (fun _ _ _ h=>h) ⟨by rfl,?_⟩ hd ?_;rotate_left;· intro w' sw;obtain ⟨hS1,hS2,hS3,hS4,hS5,hS6,hS7⟩:=sw;go_simp;try with_reducible rfl);simp only [zA,zB,zC])
   refine wpAnyH_done (by kernel_rfl) ?_ _;refine PopQ.last rfl rfl (fun K hK=>?_);obtain ⟨-,-,g2,g3,g4⟩:=Ym HR3.out.rt;have f2:=Jl HR3.out.rt 2;have f3:=Jl HR3.out.rt 3;have f4:=Jl HR3.out.rt 4;go_simp;refine hK _ _ ?_;clear hK K;obtain ⟨Z,hZ⟩:∃ Z,Z = (((U3.setCell ⟨k5,2,none⟩ (.bool r3.neg)).setCell ⟨k5,3,none⟩ (.slice r3.A r3.N.length r3.c)).setCell ⟨k5,4,none⟩ (.slice r3.B r3.D.length r3.d)):=⟨_,rfl⟩;have HRZ:Hid (RtS W0 p base gb rb fb fn k5 k6 A l.length c t (y0,y1,y2,y3) ws WA wc r3 (rq * rp) Z):=zH (by rw [hZ];exact HR3.out.frac HQ3.out);have hkz:∀ b,b < k5 -> Z.heap[b]? = U3.heap[b]?:=fun b hb=>by rw [hZ,Below.heap_setCell _ _ _ _ (show b ≠ k5 by omega),Below.heap_setCell _ _ _ _ (show b ≠ k5 by omega),Below.heap_setCell _ _ _ _ (show b ≠ k5 by omega)]
   have H4:Hid (Z.heap[k4]? = some (.cells (rtC none 0 0 none 0 0 JI) 60 (0,0))):=zH ((hkz k4 (by have:=HS4.out;omega)).trans (HR3.out.kp.row _ _ _ _ (by rw [HK4.out];exact HR0.out)));obtain ⟨Z9,hZ9⟩:∃ Z9,Z9 = Zby Z k4 (.slice A l.length c) (.slice WA ws.length wc) (.bool r3.neg) (.slice r3.A r3.N.length r3.c) (.slice r3.B r3.D.length r3.d):=⟨_,rfl⟩;have HR9:=zH (HRZ.out.ret H4.out (w:=w) HOKW.out (KpC.below HB0.out) (HB0.out.mono HS0.out.1) ⟨HS4.out.1,HS0.out.2.2,HS0.out.1⟩ hZ9);rw [<- hZ];clear hZ hkz g2 g3 g4 f2 f3 f4 HR3 HQ3 hd;rw [<- HK4.out];obtain ⟨g0,g1,g2,g3,g4⟩:=Ym HRZ.out.rt;obtain ⟨q0,q1,q2,q3,q4⟩:=Ym H4.out;have f0:=Jl H4.out 0;have f1:=Jl H4.out 1;have f2:=Jl H4.out 2;have f3:=Jl H4.out 3;have f4:=Jl H4.out 4;obtain ⟨e0,e1,e2,e3,e4⟩:=Ym HR9.out.1;unfold Zby at hZ9;have hne:¬ k4 = k5:=(by have:=HS4.out;omega);have hne':¬ k5 = k4:=(by have:=HS4.out;omega);go_wp2_with fail;rw [<- hZ9];refine bodyPost_ret (v:=.agg (rtC A l.length c WA ws.length wc r3)) (by simp [results,Tryz.results34,go_sem,e0,e1,e2,e3,e4]) rfl ?_;rw [<- HEQ.out.1,<- HEQ.out.2];exact ⟨WA,wc,r3,rfl,HR9.out.2.2.2.2.1,HR9.out.2.2.2.2.2,HR9.out.2.1,HR9.out.2.2.1,HR9.out.2.2.2.1⟩
theorem Zb3 (a:Ar) (v:Int) (eb:Nat) (w:World) (hx:w.cell? ⟨eb,1,none⟩ = some (.int .i64 v)) (hr:a.wd <= v) :
  Calls Tryz.prog 75 #[.agg (arc a).toArray,.pointer (some ⟨eb,0,none⟩)] w (ZaE false w):=by
 obtain ⟨W0,hW0⟩:∃ W0:World,W0 = w.alloc (.cells (arc a).toArray 91):=⟨_,rfl⟩;have HB0:Hid (Below w.heap.size w W0):=zH (by rw [hW0];exact bR.alloc nR _);have HX0:Hid (W0.heap[w.heap.size]? = some (.cells (arc a).toArray 91 (0,0))):=zH (by rw [hW0];exact heap_alloc_new w _);have c2:W0.cell? ⟨w.heap.size,2,none⟩ = some (.int .i64 a.wd):=(cR 2 HX0.out).trans rfl;have hx0:W0.cell? ⟨eb,1,none⟩ = some (.int .i64 v):=(HB0.out.cell (p:=⟨eb,1,none⟩) (JW hx)).trans hx;have hle:¬ v < a.wd:=by omega
 clear hx hr;obtain ⟨fr,en,wd,vr,x⟩:=a;simp only at c2 hle;simp only [arc] at hW0 ⊢;go_enter Tryz.func75,Tryz.ntmps75;go_upto_region 1 with fail;rw [<- hW0];clear hW0;go_wp2_with fail;go_ret;exact ⟨Jm (by simp),HB0.out⟩
theorem Zbv (A:Option Addr) (c:Nat) (L:List Ar) (v:Int) (eb:Nat) (w:World) (h:ArL w A L) (hn:L.length <= 100000) (hx:w.cell? ⟨eb,1,none⟩ = some (.int .i64 v)) (hr:Hid (∀ a ∈ L,a.wd <= v)) :
  Calls Tryz.prog 131 #[.slice A L.length c,.func (.func 75) #[] #[.pointer (some ⟨eb,0,none⟩)]] w (VU (-1) w):=by
 have heg:=enters_of Tryz.func75 (by kernel_rfl) rfl;have HO:=zH h;have HX:=zH hx;clear h hx;go_enter Tryz.func131,Tryz.ntmps131;go_wp2_with fail;go_loopw [5,8] (fun _ i wr=>∃ k:Nat,k <= L.length /\ i = .int .i64 k /\ Hid (Below w.heap.size w wr)) (fun _ i _=>L.length - (intOf i).toNat)
 case atStart=>exact ⟨0,Nat.zero_le _,rfl,zH bR⟩
 case round=>
  obtain ⟨k,hk,rfl,HB⟩:=hrel;by_cases hlt:k < L.length
  ·obtain ⟨gb,go,eA,hgb,c0,c1,c2,c3,c4,c5,c6⟩:=(HO.out.below HB.out).at_ hlt;have hxr:wr.cell? ⟨eb,1,none⟩ = some (.int .i64 v):=(HB.out.cell (p:=⟨eb,1,none⟩) (JW HX.out)).trans HX.out;have HC:=zH (Zb3 L[k] v eb wr hxr (hr.out _ (yM hlt)));clear hxr;subst eA;generalize L[k] = a at *
   obtain ⟨fr,en,wd,vr,x⟩:=a;simp only at c0 c1 c2 c3 c4 c5 c6;simp only [arc] at HC;go_wp2_with fail;refine HC.out.mono ?_;rintro e w1 ⟨rfl,hb1⟩;have HB1:=zH (HB.out.trans (hb1.mono HB.out.size));clear hb1 c0 c1 c2 c3 c4 c5 c6;go_wp2_with fail;exact ⟨⟨k + 1,by omega,by go_num,HB1⟩,by simp [intOf];omega⟩
  ·have hlt':¬ (k:Int) < (L.length:Int):=by omega
   go_wp2_with fail;go_ret;exact ⟨rfl,HB.out⟩
theorem U7 (A:Option Addr) (c:Nat) (L:List Ar) (v:Int) (eb:Nat) (w:World) (h:ArL w A L) (hn:L.length <= 100000) (hx:w.cell? ⟨eb,1,none⟩ = some (.int .i64 v)) (hr:Hid (∀ a ∈ L,a.wd <= v)) :
  Calls Tryz.prog 74 #[.slice A L.length c,.func (.func 75) #[] #[.pointer (some ⟨eb,0,none⟩)]] w (ZaE false w):=by
 go_enter Tryz.func74,Tryz.ntmps74;go_wp2_with fail;refine (Zbv A c L v eb w h hn hx hr).mono ?_;rintro e w' ⟨rfl,hb⟩;go_wp2_with fail;go_ret;exact ⟨Jm (by simp),hb⟩
abbrev Zbw:=Option Addr × Nat × List Int
abbrev ibs (F:List Zbw):List Value:=F.map fun x=>Value.slice x.1 x.2.2.length x.2.1
abbrev ibV (x:Zbw):Value:=.slice x.1 x.2.2.length x.2.1
structure IBins (w:World) (base g:Nat) (F:List Zbw):Prop where
 row:w.ownsRow base 35 1 (.slice (some ⟨g,0,none⟩) F.length F.length) F.length (ibs F)
 own:∀ (j:Nat) (x:Zbw),F[j]? = some x -> w.ownsRow base 3 1 (ibV x) x.2.2.length (ics x.2.2)
 apart:∀ (i j:Nat) (x y:Zbw) (b:Nat),i ≠ j -> F[i]? = some x -> F[j]? = some y -> (ibV x).ownBlock = some b -> (ibV y).ownBlock ≠ some b
theorem IBins.below {w w':World} {base g:Nat} {F:List Zbw} (h:IBins w base g F) (hb:Below w.heap.size w w'):IBins w' base g F:=
 ⟨Jr h.row hb,fun j x e=>Jr (h.own j x e) hb,h.apart⟩
theorem IBins.tag {w:World} {base g:Nat} {F:List Zbw} (h:IBins w base g F):BT w g 35:=BT.of_own h.row rfl
theorem Zaf:(3:TypeId) ≠ 35:=by decide
theorem IBins.push {w w1 w2:World} {base g k c':Nat} {A':Option Addr} {F:List Zbw} {x:Zbw} {v:Int} (h:IBins w base g F) (hk:F[k]? = some x) (hb:Below w.heap.size w w1)
  (hg:w1.grownBy w2 (ibV x).ownBlock) (hr:w2.ownsRow base 3 1 (.slice A' (x.2.2.length + 1) c') (x.2.2.length + 1) (ics x.2.2 ++ [Value.int .i64 v]))
  (hat:(Value.slice A' (x.2.2.length + 1) c').ownBlock = (ibV x).ownBlock ∨ (Value.slice A' (x.2.2.length + 1) c').ownBlock = some w1.heap.size) :
  IBins (w2.setCell ⟨g,k,none⟩ (.slice A' (x.2.2.length + 1) c')) base g (F.set k (A',c',x.2.2 ++ [v])):=by
 have h1:=h.below hb;have hrow:w2.ownsRow base 35 1 (.slice (some ⟨g,0,none⟩) F.length F.length) F.length (ibs F):=h1.row.kept hg (.inr (fun e=>by
  have hbt:=BT.of_own (h1.own k x hk) (b:=g) (by rw [<- e];rfl);exact hbt.ne h1.tag Zaf rfl))
 have hbtg:BT w2 g 35:=BT.of_own hrow rfl;have hlt:∀ (j:Nat) (y:Zbw) (b:Nat),F[j]? = some y -> (ibV y).ownBlock = some b -> b < w1.heap.size:=fun j y b e e2=>((h1.own j y e).lt b e2).2;have hoth:∀ (j:Nat) (y:Zbw),j ≠ k -> F[j]? = some y -> w2.ownsRow base 3 1 (ibV y) y.2.2.length (ics y.2.2):=fun j y hj e=>by
  refine (h1.own j y e).kept hg ?_;cases hy:(ibV y).ownBlock with
  | none=>exact .inl rfl
  | some b=>exact .inr (fun e2=>h.apart k j x y b (Ne.symm hj) hk e e2.symm hy)
 have hnewv:ibV (A',c',x.2.2 ++ [v]) = .slice A' (x.2.2.length + 1) c':=by simp [ibV]
 refine ⟨?_,fun j y e=>?_,fun i j y z b hij e1 e2 e3 e4=>?_⟩
 ·have h2:=(hrow.stored k (.slice A' (x.2.2.length + 1) c')).1;have e:(ibs F).set k (.slice A' (x.2.2.length + 1) c') = ibs (F.set k (A',c',x.2.2 ++ [v])):=by simp [ibs,List.map_set]
  rw [e] at h2;simpa using h2
 ·rw [List.getElem?_set] at e;split at e
  ·rename_i hkj;subst hkj;split at e
   ·injection e with e
    subst e;rw [hnewv];have e5:ics (x.2.2 ++ [v]) = ics x.2.2 ++ [Value.int .i64 v]:=(by simp [ics]);have e6:(x.2.2 ++ [v]).length = x.2.2.length + 1:=(by simp);show World.ownsRow _ _ _ _ _ (x.2.2 ++ [v]).length (ics (x.2.2 ++ [v]));rw [e5,e6];exact ownsRow_setCell_other hr (fun e7=>(BT.of_own hr e7).ne hbtg Zaf rfl) _
   ·cases e
  ·rename_i hkj;have h3:=hoth j y (fun h=>hkj h.symm) e;exact ownsRow_setCell_other h3 (fun e7=>(BT.of_own h3 e7).ne hbtg Zaf rfl) _
 ·rw [List.getElem?_set] at e1 e2;split at e1
  ·rename_i hki;subst hki;rw [if_neg hij] at e2;split at e1
   ·injection e1 with e1
    subst e1;rw [hnewv] at e3;rcases hat with hat | hat
    ·rw [hat] at e3;exact h.apart k j x z b hij hk e2 e3 e4
    ·rw [hat] at e3;injection e3 with e3
     have:=hlt j z b e2 e4;omega
   ·cases e1
  ·split at e2
   ·rename_i hki hkj;subst hkj;split at e2
    ·injection e2 with e2
     subst e2;rw [hnewv] at e4;rcases hat with hat | hat
     ·rw [hat] at e4;exact h.apart i k y x b hij e1 hk e3 e4
     ·rw [hat] at e4;injection e4 with e4
      have:=hlt i y b e1 e3;omega
    ·cases e2
   ·exact h.apart i j y z b hij e1 e2 e3 e4
theorem ZdD:(Tryz.prog.info? 35).map (fun i=>(i.zero,i.size,i.bytes)) = some (some (.slice none 0 0),1,24):=by kernel_rfl
theorem Zdt (n:Nat):(madeCells (Value.slice none 0 0).cells (n * 1)).toList = ibs (List.replicate n (none,0,[])):=by
 apply List.ext_getElem (by simp [madeCells]);intro k h1 h2;simp [madeCells,Value.cells,Nat.mod_one]
theorem Zds (w:World) (n:Nat) (hn:n <= 1000000000) (base:Nat) (hb:base <= w.heap.size) :
  ∃ w',(Instr.makeSlice 96 (.int .i64 (n:Int)) (.int .i64 (n:Int))).run Tryz.prog w = .ok (.slice (some ⟨w.heap.size,0,none⟩) n n) w' /\
   IBins w' base w.heap.size (List.replicate n (none,0,[])) /\ Below w.heap.size w w':=by
 obtain ⟨i0,hi0,hz0,hz1,hz2⟩:=info_parts ZdD;obtain ⟨w',h1,h2,h3⟩:=run_make_full (P:=Tryz.prog) w base 96 35 i0 _ 1 Tryz.underlying96 hi0 hz0 hz1 .i64 .i64 n (by rw [hz2];omega) (by unfold maxLen;omega) hb;rw [Zdt] at h2;have hrep:∀ (j:Nat) (x:Zbw),(List.replicate n ((none,0,[]):Zbw))[j]? = some x -> x = (none,0,[]):=fun j x e=>List.eq_of_mem_replicate (List.mem_of_getElem? e);refine ⟨w',h1,⟨by simpa using h2,fun j x e=>?_,fun i j x y b _ e _ e2 _=>?_⟩,Xa h3⟩
 ·rw [hrep j x e];exact World.ownsRow_nil _ _ _ _
 ·rw [hrep i x e] at e2;simp [Value.ownBlock] at e2
theorem IBins.snoc {u:World} {base g k:Nat} {F:List Zbw} {x:Zbw} (h:IBins u base g F) (hk:F[k]? = some x) (i:Int) (hb:base <= u.heap.size) (hn:x.2.2.length <= 100000) :
  ∃ A' c' u',(Builtin.append_ #[35,35] 35 #[.slice x.1 x.2.2.length x.2.1,.slice (some ⟨u.heap.size,0,none⟩) 1 1]).run Tryz.prog (u.alloc (.cells #[.int .i64 i] 3)) = .ok (.slice A' (x.2.2.length + 1) c') u' /\
   IBins (u'.setCell ⟨g,k,none⟩ (.slice A' (x.2.2.length + 1) c')) base g (F.set k (A',c',x.2.2 ++ [i])) /\ u'.frozen? ⟨g,k,none⟩ = false /\ u'.cell? ⟨g,k,none⟩ = some (.slice x.1 x.2.2.length x.2.1) /\
   (∀ b,b < u.heap.size -> b ≠ g -> (¬ ∃ cs,u.heap[b]? = some (.cells cs 3 (0,0))) -> (u'.setCell ⟨g,k,none⟩ (.slice A' (x.2.2.length + 1) c')).heap[b]? = u.heap[b]? /\ u'.heap[b]? = u.heap[b]?) /\ Below base u u' /\ Below base u (u'.setCell ⟨g,k,none⟩ (.slice A' (x.2.2.length + 1) c')):=by
 obtain ⟨i0,hi0,hz0,hz1,hz2⟩:=info_parts Yz;have hn9:∀ j y,[Value.int .i64 i][j]? = some y -> (u.alloc (.cells #[.int .i64 i] 3)).cell? ((⟨u.heap.size,0,none⟩:Addr).add j) = some y:=fun j y hy=>by
  rw [Addr.add_lit,Nat.zero_add,cell_of_row _ _ j _ _ _ (heap_alloc_new u (.cells #[.int .i64 i] 3))];simpa using hy
 have hal:Below u.heap.size u (u.alloc (.cells #[.int .i64 i] 3)):=bR.alloc nR _;have hox:=h.own k x hk;obtain ⟨v9,w9,hrun,hown9,hgr9,-,hat⟩:=run_append_own_at (P:=Tryz.prog) (w:=u.alloc (.cells #[.int .i64 i] 3)) base 35 35 3 i0 _ 1 8 Tryz.underlying35 hi0 hz0 hz1 hz2 rfl (by omega) (ibV x) x.2.2.length (ics x.2.2) (hox.alloc _) ⟨u.heap.size,0,none⟩ 1 1 [.int .i64 i] rfl hn9 (by simp [Value.oneCell']) (by unfold maxLen;omega) (by omega) (by simp;omega);obtain ⟨A10,c10,rfl⟩:=Yg hown9;have hp:=h.push hk hal hgr9 hown9 hat;have hgl:=h.tag.lt;have hng:(ibV x).ownBlock ≠ some g:=fun e=>(BT.of_own hox e).ne h.tag Zaf rfl;have hw9g:w9.heap[g]? = u.heap[g]?:=(hgr9.block g (by simp;omega) (fun e=>hng e.symm)).trans (Below.heap_alloc _ _ _ hgl);have hrow9:=Yw (Z:=w9) h.row (fun g' hg'=>by
  have e:g = g':=Option.some.inj hg';rw [<- e];exact hw9g)
 have hkl:k < F.length:=(List.getElem?_eq_some_iff.1 hk).1;have hb9:Below base u w9:=(hal.mono hb).grown hgr9 (by simp;omega) (fun b e=>(hox.lt b e).1);refine ⟨A10,c10,w9,hrun,hp,hrow9.frozenAt _,?_,fun b hb1 hb2 hb3=>?_,hb9,hb9.setCell (by show base <= g;exact (h.row.lt g rfl).1) _⟩
 ·have:=hrow9.cellAt k (by simpa using hkl);rw [this];simp only [ibs,List.getElem?_map,hk,Option.map_some]
 ·have e9:w9.heap[b]? = u.heap[b]?:=(hgr9.block b (by simp;omega) (fun e=>hb3 (by
   rcases hox.2 with ⟨e2,_⟩ | ⟨g2,cap,cur,e2,_,hc,_⟩
   ·rw [e2] at e;cases e
   ·rw [e2] at e;injection e with e
    rw [e];exact ⟨cur,hc⟩))).trans (Below.heap_alloc _ _ _ hb1)
  exact ⟨(Below.heap_setCell _ _ _ _ hb2).trans e9,e9⟩
end Go.Proofs.YtlgdlenoohkipaaGreat
