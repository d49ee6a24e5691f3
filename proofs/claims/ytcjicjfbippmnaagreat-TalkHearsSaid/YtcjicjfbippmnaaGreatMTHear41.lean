/- TalkHears -/
import Derived.Test.YtcjicjfbippmnaaGreatMTHear40
set_option maxRecDepth 100000
set_option maxHeartbeats 32000000
namespace Go.Proofs.YtcjicjfbippmnaaGreat
open Go.RowKit Ear

theorem ZeJ (w:World) (vs:List Value) (t:TypeId):Lies (w.alloc (.cells vs.toArray t)) (some ⟨w.heap.size,0,none⟩) vs:=fun _=>
 ⟨w.heap.size,0,rfl,by simp,fun k u hu=>by
  rw [WH,Wx _ _ k _ _ _ (Wg w _)];simpa using hu⟩
theorem Zd4 (A:Option Addr) (c:Nat) (Ss:List SlM) (Ps:List PSl) (pat prm need:Int) (w:World) (h:PlM w A Ss Ps) (hn:Ss.length <= 1000000) :
  Calls Tryz.prog 31 #[.agg #[.slice A Ss.length c,.int .i64 pat,.int .i64 prm,.int .i64 need]] w fun e w'=>∃ a:RdA,e = .returned (.pointer (some ⟨a.q,0,none⟩)) /\ RdM w' a (Q1 pat prm need Ps) /\ w.heap.size <= a.q /\ a.PA = A /\ a.Ss = Ss /\ a.Fm = List.replicate Ss.length J2 /\ (∀ g,blk a.LA = some g -> w.heap.size <= g) /\ Below w.heap.size w w':=by
 have HP:=zH h;obtain ⟨W0,hW0⟩:∃ W0:World,W0 = w.alloc (.cells #[.slice A Ss.length c,.int .i64 pat,.int .i64 prm,.int .i64 need] 48):=⟨_,rfl⟩;have HB0:Hid (Below w.heap.size w W0):=zH (by rw [hW0];exact bR.alloc nR _);have HX0:Hid (W0.heap[w.heap.size]? = some (.cells #[.slice A Ss.length c,.int .i64 pat,.int .i64 prm,.int .i64 need] 48 (0,0))):=zH (by rw [hW0];exact Wg w _);have hws:w.heap.size < W0.heap.size:=(aE HX0.out).1;have c0:W0.cell? ⟨w.heap.size,0,none⟩ = some (.slice A Ss.length c):=(cR 0 HX0.out).trans rfl;have c1:W0.cell? ⟨w.heap.size,1,none⟩ = some (.int .i64 pat):=(cR 1 HX0.out).trans rfl;have c2:W0.cell? ⟨w.heap.size,2,none⟩ = some (.int .i64 prm):=(cR 2 HX0.out).trans rfl;have c3:W0.cell? ⟨w.heap.size,3,none⟩ = some (.int .i64 need):=(cR 3 HX0.out).trans rfl;obtain ⟨i0,hi0,hz0,hz1,hz2⟩:=WaI Zb;have TI:=zH hi0;have TZ0:=zH hz0;have TZ1:=zH hz1;have TZ2:=zH hz2;obtain ⟨W1,hW1⟩:∃ W1:World,W1 = W0.alloc (.cells #[.slice A Ss.length c,.int .i64 pat,.int .i64 prm,.int .i64 need,.slice none 0 0,.int .i64 0,.bool false,.int .i64 0,.int .i64 0] 139):=⟨_,rfl⟩;have HX1:Hid (W1.heap[W0.heap.size]? = some (.cells #[.slice A Ss.length c,.int .i64 pat,.int .i64 prm,.int .i64 need,.slice none 0 0,.int .i64 0,.bool false,.int .i64 0,.int .i64 0] 139 (0,0))):=zH (by rw [hW1];exact Wg W0 _);have HB1:Hid (Below W0.heap.size W0 W1):=zH (by rw [hW1];exact bR.alloc nR _);have hq1:W0.heap.size < W1.heap.size:=(aE HX1.out).1;have hs1:W1.heap.size = W0.heap.size + 1:=by rw [hW1];simp
 have HS1:=zH hs1;clear hs1 h hi0 hz0 hz1 hz2;go_enter Tryz.func31,Tryz.ntmps31;go_upto_region 1 with fail;rw [<- hW0];clear hW0;go_upto_region 2 with fail;rw [<- hW1];clear hW1 c1 c2 c3;go_wp2_with fail;go_loopw [4] (fun t4 wr=>∃ (k:Nat) (FA:Option Addr) (fc:Nat),k <= Ss.length /\ t4 = .int .i64 k /\ Hid (wr.heap[W0.heap.size]? = some (.cells #[.slice A Ss.length c,.int .i64 pat,.int .i64 prm,.int .i64 need,.slice FA k fc,.int .i64 0,.bool false,.int .i64 0,.int .i64 0] 139 (0,0))) /\ Hid (wr.ownsRow W1.heap.size 76 3 (.slice FA k fc) k (Xy (List.replicate k J2))) /\ Hid (Below W0.heap.size W0 wr)) (fun t4 _=>Ss.length - (intOf t4).toNat)
 case atStart=>exact ⟨0,none,0,by omega,rfl,HX1,zH (WJ _ _ _ _),HB1⟩
 case round=>
  obtain ⟨k,FA,fc,hk,rfl,HX,HO,HB⟩:=hrel;obtain ⟨Wr,rfl⟩:∃ X,X = wr:=⟨_,rfl⟩;have c0r:=(HB.out.cell (p:=⟨w.heap.size,0,none⟩) hws).trans c0;have q4:Wr.cell? ⟨W0.heap.size,4,none⟩ = some (.slice FA k fc):=(cR 4 HX.out).trans rfl;have hqr:W0.heap.size < Wr.heap.size:=(aE HX.out).1;by_cases hlt:k < Ss.length
  ·have hlt':(k:Int) < (Ss.length:Int):=by omega
   have hsz:W1.heap.size <= Wr.heap.size:=(by rw [HS1.out];omega);go_wp2_with (at_builtin;refine Jf _ rfl (.tmp 19) (.tmp 21) _ rfl W1.heap.size 76 i0 _ 3 48 Tryz.underlying63 TI.out TZ0.out TZ1.out TZ2.out rfl (by omega) (.slice FA k fc) k (Xy (List.replicate k J2)) rfl (HO.out.alloc _) (some ⟨Wr.heap.size,0,none⟩) 1 1 (flc J2) rfl (fun e=>by cases e) (ZeJ _ _ _) (by simp [flc]) (by simp [flc,Value.oneCell']) (by unfold maxLen;omega) (by omega) (by simp;omega) (k + 1) rfl ?_;intro A5 c5 w5 ho5 hg5 hn5;have HO5:=zH ho5;have HG5:=zH hg5;clear ho5 hg5 hn5;have HX5:Hid (w5.heap[W0.heap.size]? = some (.cells #[.slice A Ss.length c,.int .i64 pat,.int .i64 prm,.int .i64 need,.slice FA k fc,.int .i64 0,.bool false,.int .i64 0,.int .i64 0] 139 (0,0))):=zH ((HG5.out.block _ (by simp;omega) (fun e=>by have:=(HO.out.lt _ e.symm).1;omega)).trans ((WaC Wr _ _ hqr).trans HX.out));have q45:w5.cell? ⟨W0.heap.size,4,none⟩ = some (.slice FA k fc):=(cR 4 HX5.out).trans rfl;have f45:=Js HX5.out 4);have hg2:w5.grownBy (w5.setCell ⟨W0.heap.size,4,none⟩ (.slice A5 (k + 1) c5)) (some W0.heap.size):=JO (WaY w5 (some W0.heap.size)) (.inl rfl) _;have HXn:Hid ((w5.setCell ⟨W0.heap.size,4,none⟩ (.slice A5 (k + 1) c5)).heap[W0.heap.size]? = some (.cells #[.slice A Ss.length c,.int .i64 pat,.int .i64 prm,.int .i64 need,.slice A5 (k + 1) c5,.int .i64 0,.bool false,.int .i64 0,.int .i64 0] 139 (0,0))):=zH ((JE HX5.out 4 _).trans rfl);have HOn:Hid ((w5.setCell ⟨W0.heap.size,4,none⟩ (.slice A5 (k + 1) c5)).ownsRow W1.heap.size 76 3 (.slice A5 (k + 1) c5) (k + 1) (Xy (List.replicate (k + 1) J2))):=zH (by
    rw [List.replicate_succ',Qd];exact Jr HO5.out hg2 (fun b hb e=>by injection e with e;have:=(HO5.out.lt b hb).1;omega))
   have HBn:Hid (Below W0.heap.size W0 (w5.setCell ⟨W0.heap.size,4,none⟩ (.slice A5 (k + 1) c5))):=zH (((HB.out.alloc (Wd9 hqr) _).grown HG5.out (by simp;omega) (fun b hb=>by have:=(HO.out.lt b hb).1;omega)).setCell nR _);exact ⟨⟨k + 1,A5,c5,by omega,by go_num,HXn,HOn,HBn⟩,by simp [intOf];omega⟩
  ·have hlt':¬ (k:Int) < (Ss.length:Int):=by omega
   obtain rfl:k = Ss.length:=(by omega);have HE:=zH (Ua HO.out);go_wp2_with fail;go_ret;have hb:Below w.heap.size w Wr:=HB0.out.trans (HB.out.mono HB0.out.size);refine ⟨⟨W0.heap.size,A,c,Ss,FA,fc,List.replicate Ss.length J2⟩,rfl,⟨?_,HP.out.below hb,?_,?_,?_,?_,?_,?_⟩,HB0.out.size,rfl,rfl,rfl,fun g hg=>tR (tR HB0.out.size (by omega)) (HO.out.lt g (by rw [Jm];exact hg)).1,hb⟩
   ·show Wr.heap[W0.heap.size]? = some (Obj.cells #[.slice A Ss.length c,.int .i64 pat,.int .i64 prm,.int .i64 need,.slice FA (List.replicate Ss.length J2).length fc,.int .i64 0,.bool false,.int .i64 0,.int .i64 0] 139 (0,0));rw [WbL];exact HX.out
   ·exact Lies.of_own HO.out
   ·intro f hf;rw [WbM hf];exact fun hh=>by simp [J2] at hh
   ·intro f hf _;rw [WbM hf];rfl
   ·exact HE.out
   ·show (List.replicate Ss.length J2).map FlM.pure = Ps.map fun _=>⟨1,ByteArray.empty,[]⟩;rw [List.map_replicate,HP.out.len,<- List.map_const'];rfl
   ·show (List.replicate Ss.length J2).length = Ss.length;simp
end Go.Proofs.YtcjicjfbippmnaaGreat
namespace Ear
open Go.Proofs.YtcjicjfbippmnaaGreat

theorem ZdB (D:PDl) (E:PEv):(YC D E).2 = D ∨
  (∃ f s,(E.kind = 2 ∨ E.kind = 3) /\ D.F[XY D.F]? = some f /\ D.S[XY D.F]? = some s /\ ZdU D f s E.q E.at_ = true /\ (YC D E).2 = D.put (XY D.F) (if E.kind = 2 then { f with st:=3 } else noR f)) ∨
  (∃ f s f',E.kind = 4 /\ D.F[Zi D.S E.val]? = some f /\ D.S[Zi D.S E.val]? = some s /\ ZaR f s E.q E.val = some f' /\ (YC D E).2 = D.put (Zi D.S E.val) f'):=by
 unfold YC;split
 ·rename_i hk;split
  ·rename_i f s hf hs;split
   ·rename_i ha;exact .inr (.inl ⟨f,s,hk,hf,hs,ha,rfl⟩)
   ·exact .inl rfl
  ·exact .inl rfl
 ·split
  ·rename_i hk;split
   ·rename_i f s hf hs;split
    ·rename_i f' hv;exact .inr (.inr ⟨f,s,f',hk,hf,hs,hv,rfl⟩)
    ·exact .inl rfl
   ·exact .inl rfl
  ·exact .inl rfl
theorem Zgk (D:PDl) (t:Int):(XJ D t).F = D.F /\ (XJ D t).S = D.S /\ (XJ D t).need = D.need:=by
 unfold XJ;split <;> exact ⟨rfl,rfl,rfl⟩
theorem Zgl (D:PDl) (r:Bool):(JK D r).F = D.F /\ (JK D r).S = D.S /\ (JK D r).need = D.need:=by
 unfold JK;split
 ·exact ⟨rfl,rfl,rfl⟩
 ·split <;> exact ⟨rfl,rfl,rfl⟩
theorem Zgi {D:PDl} {E:PEv} (h:(XD D E).1 = 0):D.stand = 0 /\ (XD D E).2.F = (YC (Jo D E.at_) E).2.F /\ (XD D E).2.S = (YC (Jo D E.at_) E).2.S /\ (XD D E).2.need = (YC (Jo D E.at_) E).2.need:=by
 unfold XD at *
 split
 ·rename_i hb;rw [WA hb] at h;cases h
 ·rename_i hb;rw [Ww hb] at h;split
  ·rename_i hs;rw [WA hs] at h;cases h
  ·rename_i hs;obtain ⟨a1,a2,a3⟩:=Zgk (JK (YC (Jo D E.at_) E).2 (YC (Jo D E.at_) E).1) E.at_;obtain ⟨b1,b2,b3⟩:=Zgl (YC (Jo D E.at_) E).2 (YC (Jo D E.at_) E).1;exact ⟨WcJ hs,a1.trans b1,a2.trans b2,a3.trans b3⟩
theorem Zgj {D:PDl} {E:PEv} (h:(XD D E).1 ≠ 0):(XD D E).2 = D:=by
 unfold XD at *
 split
 ·rfl
 ·rename_i hb;rw [Ww hb] at h;split
  ·rfl
  ·rename_i hs;rw [Ww hs] at h;exact absurd rfl h
structure GrI (S:List PSl) (D:PDl):Prop where
 hS:D.S = S
 len:D.F.length = S.length
 ok:∀ (k:Nat) (f:PFl) (s:PSl),D.F[k]? = some f -> S[k]? = some s -> (f.st = 1 /\ f.val = ⟨#[]⟩) ∨ ((f.st = 2 ∨ f.st = 3) /\ f.val ∈ s.vs)
theorem GrI.put {S:List PSl} {D:PDl} (h:GrI S D) (j:Nat) (f:PFl) (hf:∀ s,S[j]? = some s -> (f.st = 1 /\ f.val = ⟨#[]⟩) ∨ ((f.st = 2 ∨ f.st = 3) /\ f.val ∈ s.vs)):GrI S (D.put j f):=
 ⟨h.hS,by show (D.F.set j f).length = _;rw [WaP];exact h.len,fun k x s hx hs=>by
  have hx':(D.F.set j f)[k]? = some x:=hx;by_cases hj:j = k
  ·subst hj;have hl:=(Wl.1 hx').1;rw [WaP] at hl;rw [WbH hl] at hx';injection hx' with hx'
   subst hx';exact hf s hs
  ·rw [WaW hj] at hx';exact h.ok k x s hx' hs⟩
theorem Zid {S:List PSl} {x:BA} {s:PSl} (h:S[Zi S x]? = some s):x ∈ s.vs:=by
 obtain ⟨hl,e⟩:=Wl.1 h;have h9:decide (x ∈ S[Zi S x].vs) = true:=WeW (w:=hl);rw [e] at h9;exact WaB h9
theorem Zhd {f f':PFl} {s:PSl} {q:Rat} {x:BA} (h:ZaR f s q x = some f'):f'.val = x /\ (f'.st = 2 ∨ f'.st = 3) /\ (f'.st = 3 -> f.st = 3 /\ f.val = x ∨ f.st ≠ 3 /\ (0 <= XH (q + -s.su) ∨ f.st = 2 /\ f.val = x)) /\ (f.st = 3 -> f'.st = 3 -> f.val = x):=by
 unfold ZaR at h;split at h
 ·cases h
 ·injection h with h
  subst h;refine ⟨rfl,?_,?_,?_⟩
  ·simp only;split
   ·exact .inr rfl
   ·split
    ·exact .inl rfl
    ·split
     ·exact .inr rfl
     ·exact .inl rfl
  ·simp only;intro h3;split at h3
   ·rename_i hc;exact .inl hc
   ·split at h3
    ·cases h3
    ·rename_i hn;split at h3
     ·rename_i hc;exact .inr ⟨hn,hc⟩
     ·cases h3
  ·simp only;intro a h3;split at h3
   ·rename_i hc;exact hc.2
   ·exact absurd h3 (by decide)
theorem grd {S:List PSl} {D:PDl} {E:PEv} (h:GrI S D) (h0:(XD D E).1 = 0):GrI S (XD D E).2 /\
  ∀ (k:Nat) (x y:PFl) (s:PSl),D.F[k]? = some x -> (XD D E).2.F[k]? = some y -> S[k]? = some s ->
   (x.st = 3 -> y.st ≠ 1) /\ (x.st = 3 -> y.st = 3 -> x.val = y.val) /\
   (y.st = 3 -> x.st ≠ 3 -> (E.kind = 4 /\ E.val = y.val /\ 0 <= XH (E.q + -s.su)) ∨ (E.kind = 4 /\ E.val = y.val /\ x.st = 2 /\ x.val = y.val) ∨ (E.kind = 2 /\ D.stand = 0 /\ XY D.F = k /\ x.st = 2 /\ x.val = y.val /\ D.prompt + D.need <= E.at_)):=by
 obtain ⟨hst,hF,hS,-⟩:=Zgi h0;obtain ⟨c1,c2,-,-,c5,-,-,c8,-,-⟩:=U7 D E.at_;have hC:GrI S (Jo D E.at_):=⟨by rw [c1];exact h.hS,by rw [c2];exact h.len,fun k f s hf hs=>by rw [c2] at hf;exact h.ok k f s hf hs⟩;have hI:GrI S (YC (Jo D E.at_) E).2 -> GrI S (XD D E).2:=fun g=>⟨by rw [hS];exact g.hS,by rw [hF];exact g.len,fun k f s hf hs=>by rw [hF] at hf;exact g.ok k f s hf hs⟩;rcases ZdB (Jo D E.at_) E with e | ⟨f,s0,hk,hf,hs0,ha,e⟩ | ⟨f,s0,f',hk,hf,hs0,hv,e⟩
 ·refine ⟨hI (by rw [e];exact hC),fun k x y s hx hy hs=>?_⟩;rw [hF,e,c2,hx] at hy;injection hy with hy
  subst hy;exact ⟨fun a b=>by omega,fun _ _=>rfl,fun a b=>absurd a b⟩
 ·rw [c2] at hf;rw [c2,c1,h.hS] at hs0;unfold ZdU at ha;simp only [Bool.and_eq_true,decide_eq_true_eq] at ha;rw [c8,c5] at ha;obtain ⟨⟨a1,a2⟩,-⟩:=ha;have hfv:f.val ∈ s0.vs:=by
   rcases h.ok _ f s0 hf hs0 with ⟨b,-⟩ | ⟨-,b⟩
   ·omega
   ·exact b
  refine ⟨hI ?_,fun k x y s hx hy hs=>?_⟩
  ·rw [e];refine hC.put _ _ fun s hs=>?_;rw [c2,hs0] at hs;injection hs with hs
   subst hs;split
   ·exact .inr ⟨.inr rfl,hfv⟩
   ·exact .inl ⟨rfl,rfl⟩
  ·rw [hF,e] at hy;have hy':((Jo D E.at_).F.set (XY (Jo D E.at_).F) (if E.kind = 2 then { f with st:=3 } else noR f))[k]? = some y:=hy;rw [c2] at hy';by_cases hk2:XY D.F = k
   ·subst hk2;rw [hf] at hx;injection hx with hx
    subst hx;rw [WbH (Wl.1 hf).1] at hy';injection hy' with hy'
    by_cases h2:E.kind = 2
    ·rw [WA h2] at hy';subst hy';exact ⟨fun b=>by omega,fun _ _=>rfl,fun _ _=>.inr (.inr ⟨h2,hst,rfl,a1,rfl,a2⟩)⟩
    ·rw [Ww h2] at hy';subst hy';exact ⟨fun b=>by omega,fun b=>by omega,fun b=>by cases b⟩
   ·rw [WaW hk2,hx] at hy';injection hy' with hy'
    subst hy';exact ⟨fun a b=>by omega,fun _ _=>rfl,fun a b=>absurd a b⟩
 ·rw [c1,h.hS] at hs0;rw [c1,c2,h.hS] at hf;obtain ⟨v1,v2,v3,v4⟩:=Zhd hv;refine ⟨hI ?_,fun k x y s hx hy hs=>?_⟩
  ·rw [e];refine hC.put _ _ fun s hs=>?_;rw [c1,h.hS,hs0] at hs;injection hs with hs
   subst hs;exact .inr ⟨v2,by rw [v1];exact Zid hs0⟩
  ·rw [hF,e] at hy;have hy':((Jo D E.at_).F.set (Zi (Jo D E.at_).S E.val) f')[k]? = some y:=hy;rw [c1,c2,h.hS] at hy';by_cases hk2:Zi S E.val = k
   ·subst hk2;rw [hf] at hx;injection hx with hx
    subst hx;rw [hs0] at hs;injection hs with hs
    subst hs;rw [WbH (Wl.1 hf).1] at hy';injection hy' with hy'
    subst hy';refine ⟨fun _=>by omega,fun a b=>by rw [v1];exact v4 a b,fun b c=>?_⟩;rcases v3 b with ⟨d,-⟩ | ⟨-,d | d⟩
    ·exact absurd d c
    ·exact .inl ⟨hk,v1.symm,d⟩
    ·exact .inr (.inl ⟨hk,v1.symm,d.1,by rw [v1];exact d.2⟩)
   ·rw [WaW hk2,hx] at hy';injection hy' with hy'
    subst hy';exact ⟨fun a b=>by omega,fun _ _=>rfl,fun a b=>absurd a b⟩
theorem GrI.new (pat prm need:Int) (S:List PSl):GrI S (Q1 pat prm need S):=
 ⟨rfl,by simp [Q1],fun k f s hf _=>by
  simp only [Q1,List.getElem?_map] at hf;cases e:S[k]? with
  | none=>rw [e] at hf;cases hf
  | some x=>rw [e] at hf;injection hf with hf;subst hf;exact .inl ⟨rfl,rfl⟩⟩
theorem StdK.new {pat prm need:Int} {S:List PSl} (h : 0 < S.length):StdK (Q1 pat prm need S):=by
 refine ⟨.inl rfl,⟨fun e=>?_,fun e=>?_⟩,rfl⟩
 ·have e:(0:Int) = 1:=e;omega
 ·exfalso;cases S with
  | nil=>simp at h
  | cons s l=>
   have hk:(0:Nat) < (Q1 pat prm need (s :: l)).F.length:=(by simp [Q1]);have:=Zcn (F:=(Q1 pat prm need (s :: l)).F) (k:=0) hk (by simp [Q1]) (fun j hj h=>by omega);omega
theorem StdK.hear {n:Int} {D:PDl} (hK:DlK n D) (h:StdK D) (E:PEv):StdK (XD D E).2:=by
 unfold XD;split
 ·exact h
 ·split
  ·exact h
  ·rename_i hb hst;have hst:D.stand = 0:=WcJ hst;obtain ⟨c1,c2,c3,c4,c5,c6,c7,c8,c9,c10⟩:=U7 D E.at_;have k:=ZcU (Jo D E.at_) E;have ha:¬ Vb D.F < 0:=fun e=>by have:=h.2.1.2 e;omega
   obtain ⟨-,n2,-,-,-,-,n7,n8,-,-,n11,n12⟩:=ZcN (D:=(YC (Jo D E.at_) E).2) (r:=(YC (Jo D E.at_) E).1) (t:=E.at_) (by rw [k.stand,c6];exact hst) (by rw [k.pat,c3];exact hK.pat.1) (fun e=>by rw [Zaa e,c2];exact ha);exact ⟨n11,by rw [n2];exact n12,by rw [n7,n8]⟩
theorem GrI.hear {S:List PSl} {D:PDl} (h:GrI S D) (E:PEv):GrI S (XD D E).2:=by
 by_cases h0:(XD D E).1 = 0
 ·exact (grd h h0).1
 ·rw [Zgj h0];exact h
end Ear
namespace Go.Proofs.YtcjicjfbippmnaaGreat
open Go.RowKit Ear
theorem ZgH {S:List PSl} {D:PDl} (hG:GrI S D) (hS:StdK D) (ha:D.stand = 0 -> XY D.F < D.F.length):(ZgI D).1 = (UI D).1 /\ (ZgI D).2 = (if D.stand = 0 then 0 else 7) /\ (UI D).2 = decide (D.stand = 0):=by
 unfold ZgI UI;by_cases h0:D.stand = 0
 ·have h1:¬ D.stand ≠ 0:=fun e=>e h0;rw [Ww h1,Ww h1,WA h0,Wi h0];refine ⟨?_,rfl,rfl⟩;have hl:=ha h0;have hf:=gE hl;have hs:XY D.F < S.length:=by rw [<- hG.len];exact hl
  rw [hf];simp only [Option.map_some,Option.getD_some];have hne:D.F[XY D.F].st ≠ 3:=by
   exact WaB (WeW (w:=hl))
  rcases hG.ok _ _ _ hf (gE hs) with ⟨e1,e2⟩ | ⟨e1 | e1,-⟩
  ·rw [Ww (by omega),e2,hS.2.2]
  ·rw [WA e1,hS.2.2]
  ·exact absurd e1 hne
 ·rw [WA h0,WA h0,Ww h0,dF h0];exact ⟨rfl,rfl,rfl⟩
structure Sep (w:World) (bs:Nat) (a:DlA) (b:RdA):Prop where
 q:bs <= b.q
 row:∀ g,blk b.LA = some g -> bs <= g /\ g < w.heap.size /\ ∀ x ∈ a.Fm,blk x.A ≠ some g
 ref:∀ f ∈ b.Fm,∀ g,blk f.A = some g -> bs <= g /\ g < w.heap.size /\ ∀ x ∈ a.Fm,blk x.A ≠ some g
theorem DlM.ref_ne {w:World} {bs:Nat} {a:DlA} {b:RdA} {D E:PDl} (hd:DlM w bs a D) (h:RdM w b E):∀ x ∈ a.Fm,blk x.A ≠ some b.q:=fun x hx e=>by
 have hq:BT w b.q 139:=⟨_,_,h.cell⟩;exact (BT.of_own (hd.ref x hx) (by rw [Jm];exact e)).ne hq (by decide) rfl
theorem RdM.chg {w w':World} {bs:Nat} {a a':DlA} {b:RdA} {D E:PDl} (h:RdM w b E) (hd:DlM w bs a D) (s:Sep w bs a b) (c:Chg w w' a a') (hp:PlM w' b.PA b.Ss E.S):RdM w' b E:=by
 have stay:∀ g,bs <= g -> g < w.heap.size -> (∀ x ∈ a.Fm,blk x.A ≠ some g) -> w'.heap[g]? = w.heap[g]?:=fun g h1 h2 h3=>c.block g h2 (by have:=hd.lt.1;omega) (by have:=hd.lt.2.1;omega) h3;have hq:=(aE h.cell).1;refine ⟨(stay b.q s.q hq (hd.ref_ne h)).trans h.cell,hp,?_,fun f hf=>?_,h.nil,h.nilL,h.pure,h.len⟩
 ·exact Lies.same h.row c.size (fun g off e _ hg _=>by
   obtain ⟨h1,h2,h3⟩:=s.row g (by rw [e];rfl);exact stay g h1 hg h3)
 ·exact Lies.same (h.ref f hf) c.size (fun g off e _ hg _=>by
   obtain ⟨h1,h2,h3⟩:=s.ref f hf g (by rw [e];rfl);exact stay g h1 hg h3)
theorem Sep.chg {w w':World} {bs:Nat} {a a':DlA} {b:RdA} (s:Sep w bs a b) (c:Chg w w' a a'):Sep w' bs a' b:=by
 have far:∀ g,g < w.heap.size -> (∀ x ∈ a.Fm,blk x.A ≠ some g) -> ∀ x ∈ a'.Fm,blk x.A ≠ some g:=fun g h1 h2 x hx e=>by
  rcases c.fresh x hx g e with ⟨y,hy,e2⟩ | h3
  ·exact h2 y hy e2
  ·omega
 exact ⟨s.q,fun g e=>by
  obtain ⟨h1,h2,h3⟩:=s.row g e;exact ⟨h1,Wk h2 c.size,far g h2 h3⟩,fun f hf g e=>by
  obtain ⟨h1,h2,h3⟩:=s.ref f hf g e;exact ⟨h1,Wk h2 c.size,far g h2 h3⟩⟩
theorem DlM.rch {w w':World} {bs:Nat} {a:DlA} {b b':RdA} {D E:PDl} (hd:DlM w bs a D) (h:RdM w b E) (hq:bs <= b.q) (c:RCh w w' b b'):DlM w' bs a D:=by
 have ne:∀ g,g ≠ b.q -> some g ≠ some b.q:=fun g h e=>h (by injection e);have st:∀ g,g < w.heap.size -> g ≠ b.q -> w'.heap[g]? = w.heap[g]?:=fun g h1 h2=>c.grown.block g h1 (ne g h2);have h1:=hd.lt.1;have h2:=hd.lt.2.1;have h3:=hd.lt.2.2;refine ⟨(st a.q (by omega) (by omega)).trans hd.cell,fun w2 hs hk=>hd.stab w2 (tR c.grown.size hs) (fun g g1 g2 g3=>(hk g g1 g2 g3).trans (st g (by omega) (by omega))),?_,fun f hf=>?_,hd.apart,hd.pure,hd.len,hd.pos,h1,h2,tR h3 c.grown.size⟩
 ·exact Jr hd.row c.grown (fun g e e2=>by
   have e:some a.gF = some g:=e;injection e with e
   injection e2 with e2
   omega)
 ·exact Jr (hd.ref f hf) c.grown (fun g e e2=>by
   injection e2 with e2
   subst e2;exact hd.ref_ne h f hf (by rw [<- Jm];exact e))
theorem Sep.rch {w w':World} {bs:Nat} {a:DlA} {b b':RdA} {D:PDl} (s:Sep w bs a b) (hd:DlM w bs a D) (c:RCh w w' b b'):Sep w' bs a b':=by
 have new:∀ g,w.heap.size <= g -> ∀ x ∈ a.Fm,blk x.A ≠ some g:=fun g h1 x hx e=>by
  have:=((hd.ref x hx).lt g (by rw [Jm];exact e)).2;omega
 have h3:=hd.lt.2.2;refine ⟨by rw [c.q];exact s.q,fun g e=>?_,fun f hf g e=>?_⟩
 ·rcases c.row with e2 | ⟨g2,e2,h1,h2⟩
  ·rw [e2] at e;obtain ⟨k1,k2,k3⟩:=s.row g e;exact ⟨k1,Wk k2 c.grown.size,k3⟩
  ·rw [e2] at e;have e:some g2 = some g:=e;injection e with e
   subst e;exact ⟨by omega,h2,new _ h1⟩
 ·rcases c.ref f hf g e with ⟨y,hy,e2⟩ | ⟨h1,h2⟩
  ·obtain ⟨k1,k2,k3⟩:=s.ref y hy g e2;exact ⟨k1,Wk k2 c.grown.size,k3⟩
  ·exact ⟨by omega,h2,new _ h1⟩
theorem Zdq (w:World):Calls Tryz.prog 144 #[.int .i64 0] w fun e w'=>e = .returned (.int .i64 0) /\ w' = w:=by
 go_enter Tryz.func144,Tryz.ntmps144;go_wp2_with fail;go_ret;exact ⟨rfl,rfl⟩
theorem QH:∀ l:List UInt8,Op.bytesLess l l = false:=by
 intro l
 induction l with
 | nil=>rfl
 | cons x l ih=>unfold Op.bytesLess;simp [ih]
theorem Zdg (A B:Option Addr) (c d:Nat) (l:List BA) (w:World) (hA:Lies w A (sbs l)) (hB:Lies w B (sbs l)) (hn:l.length <= 9223372036854775807) :
  Calls Tryz.prog 93 #[.slice A l.length c,.slice B l.length d] w fun e w'=>e = .returned (.int .i64 0) /\ Below w.heap.size w w':=by
 go_enter Tryz.func93,Tryz.ntmps93;go_wp2_with fail;go_loopw [5] (fun i wr=>∃ k:Nat,k <= l.length /\ i = .int .i64 k /\ Hid (Below w.heap.size w wr)) (fun i _=>l.length - (intOf i).toNat)
 case atStart=>exact ⟨0,WaU _,rfl,zH bR⟩
 case round=>
  obtain ⟨k,hk,rfl,HB⟩:=hrel;by_cases hlt:k < l.length
  ·obtain ⟨bk,off,rfl,hb,hc⟩:=(hA.below HB.out) (by simpa using Wa9 (WaU k) hlt);obtain ⟨bm,ofm,rfl,hbm,hcm⟩:=(hB.below HB.out) (by simpa using Wa9 (WaU k) hlt);have hc0:=hc k (.string l[k]) (by simp [gE hlt]);have hc1:=hcm k (.string l[k]) (by simp [gE hlt]);clear hc hcm;generalize l[k] = x at *
   have hl:=QH (ByteArray.toList x);go_upto_region 4 with fail;go_quiet (fail);obtain ⟨W1,hW1⟩:∃ W1:World,W1 = wr.drewN nq:=⟨_,rfl⟩;have HB1:Hid (Below wr.heap.size wr W1):=zH (by rw [hW1];exact bR.drw _);have hc2:=(HB1.out.cell (p:=⟨bk,off + k,none⟩) hb).trans hc0;have hc3:=(HB1.out.cell (p:=⟨bm,ofm + k,none⟩) hbm).trans hc1;rw [<- hW1];clear hW1 hc0 hc1;go_upto_region 6 with fail;go_quiet (fail);have HB2:Hid (Below w.heap.size w (W1.drewN nq)):=zH (HB.out.trans ((HB1.out.trans ((Wp W1.heap.size W1).drw nq |>.mono HB1.out.size)).mono HB.out.size));go_wp2_with fail;exact ⟨⟨k + 1,by omega,by go_num,HB2⟩,by simp [intOf];omega⟩
  ·obtain rfl:k = l.length:=by omega
   go_wp2_with fail;refine (Zdq wr).mono ?_;rintro e w1 ⟨rfl,rfl⟩;go_wp2_with fail;go_ret;exact ⟨rfl,HB.out⟩
structure StM (w:World) (A:Option Addr) (F:List FlM):Prop where
 row:Lies w A (Xy F)
 ref:∀ f ∈ F,Lies w f.A (sbs f.ref)
theorem StM.below {w w':World} {A:Option Addr} {F:List FlM} (h:StM w A F) (hb:Below w.heap.size w w'):StM w' A F:=⟨h.row.below hb,fun f hf=>(h.ref f hf).below hb⟩
theorem StM.at_ {w:World} {A:Option Addr} {F:List FlM} (h:StM w A F) {k:Nat} (hk:k < F.length):∃ b off,A = some ⟨b,off,none⟩ /\ b < w.heap.size /\ w.cell? ⟨b,off + k * 3,none⟩ = some (.int .i64 F[k].st) /\ w.cell? ⟨b,off + k * 3 + 1,none⟩ = some (.string F[k].val) /\ w.cell? ⟨b,off + k * 3 + 2,none⟩ = some (.slice F[k].A F[k].ref.length F[k].c):=by
 obtain ⟨b,off,e,hb,hc⟩:=h.row (by rw [JN];omega);have key:∀ (j:Nat) (v:Value),j < 3 -> (flc F[k])[j]? = some v -> w.cell? ⟨b,off + (k * 3 + j),none⟩ = some v:=fun j v hj hv=>hc _ _ (by rw [JW F hk j hj];exact hv);exact ⟨b,off,e,hb,key 0 _ (by omega) rfl,by rw [WbJ];exact key 1 _ (by omega) rfl,by rw [WbJ];exact key 2 _ (by omega) rfl⟩
theorem YS (A B:Option Addr) (c d:Nat) (F G:List FlM) (bad cuts:Int) (dn gu:Bool) (w:World) (hF:StM w A F) (hG:StM w B G) (hp:F.map FlM.pure = G.map FlM.pure) (hn:F.length <= 1000000) (hr:∀ f ∈ F,f.ref.length <= 1000000) :
  Calls Tryz.prog 37 #[.agg #[.slice A F.length c,.int .i64 bad,.bool dn,.bool gu,.int .i64 cuts],.agg #[.slice B G.length d,.int .i64 bad,.bool dn,.bool gu,.int .i64 cuts]] w (Qp true w):=by
 obtain ⟨W,hW⟩:∃ W:World,W = (w.alloc (.cells #[.slice A F.length c,.int .i64 bad,.bool dn,.bool gu,.int .i64 cuts] 65)).alloc (.cells #[.slice B G.length d,.int .i64 bad,.bool dn,.bool gu,.int .i64 cuts] 65):=⟨_,rfl⟩;have HB0:Hid (Below w.heap.size w W):=zH (by rw [hW];exact al2 w _ _);have HWS:Hid (W.heap.size = w.heap.size + 2):=zH (by rw [hW];simp);have hx1:W.heap[w.heap.size]? = some (.cells #[.slice A F.length c,.int .i64 bad,.bool dn,.bool gu,.int .i64 cuts] 65 (0,0)):=by rw [hW];exact (ZZ w _ _)
 have hx2:W.heap[w.heap.size + 1]? = some (.cells #[.slice B G.length d,.int .i64 bad,.bool dn,.bool gu,.int .i64 cuts] 65 (0,0)):=by rw [hW];exact (ZY w _ _)
 have hgl:G.length = F.length:=by have:=WaF List.length hp;simpa using this.symm
 rw [hgl] at hx2 hW;have HC:Hid (∀ u,Below W.heap.size W u -> (u.cell? ⟨w.heap.size,0,none⟩ = some (.slice A F.length c) /\ u.cell? ⟨w.heap.size,1,none⟩ = some (.int .i64 bad) /\ u.cell? ⟨w.heap.size,2,none⟩ = some (.bool dn) /\ u.cell? ⟨w.heap.size,3,none⟩ = some (.bool gu) /\ u.cell? ⟨w.heap.size,4,none⟩ = some (.int .i64 cuts)) /\
   (u.cell? ⟨w.heap.size + 1,0,none⟩ = some (.slice B F.length d) /\ u.cell? ⟨w.heap.size + 1,1,none⟩ = some (.int .i64 bad) /\ u.cell? ⟨w.heap.size + 1,2,none⟩ = some (.bool dn) /\ u.cell? ⟨w.heap.size + 1,3,none⟩ = some (.bool gu) /\ u.cell? ⟨w.heap.size + 1,4,none⟩ = some (.int .i64 cuts))):=zH (fun u hu=>by
  have h1:=(hu.block _ (aE hx1).1).trans hx1;have h2:=(hu.block _ (aE hx2).1).trans hx2;exact ⟨⟨(cR 0 h1).trans rfl,(cR 1 h1).trans rfl,(cR 2 h1).trans rfl,(cR 3 h1).trans rfl,(cR 4 h1).trans rfl⟩,(cR 0 h2).trans rfl,(cR 1 h2).trans rfl,(cR 2 h2).trans rfl,(cR 3 h2).trans rfl,(cR 4 h2).trans rfl⟩)
 have HF:=zH (hF.below HB0.out);have HG:=zH (hG.below HB0.out);have HGL:=zH hgl;have HP:=zH hp;have HR:=zH hr;obtain ⟨⟨c0,c1,c2,c3,c4⟩,d0,d1,d2,d3,d4⟩:=HC.out W bR;rw [hgl];clear hF hG hp hr hx1 hx2 hgl;have q1:(bad != bad) = false:=by simp
 have q2:(cuts != cuts) = false:=by simp
 have q3:((F.length:Int) != (F.length:Int)) = false:=by simp
 go_enter Tryz.func37,Tryz.ntmps37;go_upto_region 1 with fail;rw [<- hW];clear hW;have q4:(dn != dn) = false:=by cases dn <;> rfl
 have q5:(gu != gu) = false:=by cases gu <;> rfl
 go_wp2_with fail;clear c0 c1 c2 c3 c4 d0 d1 d2 d3 d4;go_loopw [5,6,7] (fun i _ _ wr=>∃ k:Nat,k <= F.length /\ i = .int .i64 k /\ Hid (Below W.heap.size W wr)) (fun i _ _ _=>F.length - (intOf i).toNat)
 case atStart=>exact ⟨0,WaU _,rfl,zH bR⟩
 case round=>
  obtain ⟨k,hk,rfl,HB⟩:=hrel;obtain ⟨⟨c0,-,-,-,-⟩,d0,-,-,-,-⟩:=HC.out wr HB.out;by_cases hlt:k < F.length
  ·have hlg:k < G.length:=by rw [HGL.out];exact hlt
   have hws:w.heap.size < wr.heap.size:=(by have:=HB.out.size;have:=HWS.out;omega);have hws2:w.heap.size + 1 < wr.heap.size:=(by have:=HB.out.size;have:=HWS.out;omega);obtain ⟨ba,oa,rfl,hba,x0,x1,x2⟩:=(HF.out.below HB.out).at_ hlt;obtain ⟨bb,ob,rfl,hbb,y0,y1,y2⟩:=(HG.out.below HB.out).at_ hlg;have HRF:=zH ((HF.out.below HB.out).ref _ (gM hlt));have HRG:=zH ((HG.out.below HB.out).ref _ (gM hlg));have hrl:=HR.out _ (gM hlt);have hfg:F[k].pure = G[k].pure:=by
    have h9:(F.map FlM.pure)[k]? = (G.map FlM.pure)[k]?:=(by rw [HP.out]);simpa [gE hlt,gE hlg] using h9
   generalize F[k] = f at *
   generalize G[k] = g at *
   obtain ⟨fs,fv,fA,fc,fr⟩:=f;obtain ⟨gs,gv,gA,gc,gr⟩:=g;simp only [FlM.pure] at hfg;injection hfg with e1 e2 e3
   subst e1 e2 e3;simp only at *
   go_upto_region 6 with fail;go_cut [6,7] from 43 to 79 (fun t6 t7 wx=>∃ k6 k7,t6 = .pointer (some ⟨k6,0,none⟩) /\ t7 = .pointer (some ⟨k7,0,none⟩) /\ Hid (wx.heap[k6]? = some (.cells #[.int .i64 fs,.string fv,.slice fA fr.length fc] 76 (0,0))) /\ Hid (wx.heap[k7]? = some (.cells #[.int .i64 fs,.string fv,.slice gA fr.length gc] 76 (0,0))) /\ Hid (Below wr.heap.size wr wx))
   case first=>
    go_region;all_goals (go_wp2_with fail;go_meet)
    ·exact ⟨_,_,rfl,rfl,zH (ZZ _ _ _),zH (ZY _ _ _),zH (Ze (al2 _ _ _))⟩
    ·exact ⟨_,_,rfl,rfl,zH (ZY _ _ _),zH (ZZ _ _ _),zH (Ze (al2 _ _ _))⟩
   case rest=>
    obtain ⟨k6,k7,rfl,rfl,h6,h7,HBX⟩:=hcut;have HWX:=zH (HB.out.trans (HBX.out.mono HB.out.size));have p0:wc.cell? ⟨k6,0,none⟩ = some (.int .i64 fs):=(cR 0 h6.out).trans rfl;have p1:wc.cell? ⟨k6,1,none⟩ = some (.string fv):=(cR 1 h6.out).trans rfl;have p2:wc.cell? ⟨k6,2,none⟩ = some (.slice fA fr.length fc):=(cR 2 h6.out).trans rfl;have r0:wc.cell? ⟨k7,0,none⟩ = some (.int .i64 fs):=(cR 0 h7.out).trans rfl;have r1:wc.cell? ⟨k7,1,none⟩ = some (.string fv):=(cR 1 h7.out).trans rfl;have r2:wc.cell? ⟨k7,2,none⟩ = some (.slice gA fr.length gc):=(cR 2 h7.out).trans rfl;have q6:(fs != fs) = false:=(by simp);have CT:=zH (Zdg fA gA fc gc fr wc (HRF.out.below HBX.out) (HRG.out.below HBX.out) (by omega));clear h6 h7 c0 d0 x0 x1 x2 y0 y1 y2;go_wp2_with fail;refine CT.out.mono ?_;rintro e w1 ⟨rfl,hb1⟩;have HB1:=zH (HWX.out.trans (hb1.mono HWX.out.size));clear hb1 CT;go_wp2_with fail;exact ⟨⟨k + 1,by omega,by go_num,HB1⟩,by simp [intOf];omega⟩
  ·go_wp2_with fail;go_ret;exact ⟨rfl,HB0.out.trans (HB.out.mono HB0.out.size)⟩
theorem Qw:Tryz.prog.stoodInHeld 69 = false:=by kernel_rfl
theorem Zcl (a d:Int) (b:Bool) (v:BA) (w:World):(binOp .eql 69 (.agg #[.int .i64 a,.bool b,.string v,.int .i64 d]) (.agg #[.int .i64 a,.bool b,.string v,.int .i64 d])).run Tryz.prog w = .ok (.bool true) w:=by
 obtain ⟨f0,f1,f2,f3,hu,e0,e1,e2,e3,o0,o1,o2,o3⟩:∃ f0 f1 f2 f3:Field,Tryz.prog.underlying 69 = some (.struct #[f0,f1,f2,f3]) /\ f0.type = 3 /\ f1.type = 4 /\ f2.type = 9 /\ f3.type = 3 /\ f0.offset = 0 /\ f1.offset = 1 /\ f2.offset = 2 /\ f3.offset = 3:=⟨_,_,_,_,Tryz.underlying69,rfl,rfl,rfl,rfl,rfl,rfl,rfl,rfl⟩;have hf:Tryz.prog.fieldsOf 69 = #[f0,f1,f2,f3]:=by unfold Program.fieldsOf;rw [hu]
 rw [run_eql_struct,run_equalIn_agg w _ _ _ _ (by rw [hf,hu]) Qw,hf];simp [Op.eqFields,part,isAgg,e0,e1,e2,e3,o0,o1,o2,o3,run_underlying Tryz.underlying3,run_underlying Tryz.underlying4,run_underlying Tryz.underlying9,run_equalIn_int w _ _ _ _ _ _ Tryz.underlying3,run_equalIn_bool w _ _ _ _ Tryz.underlying4,run_equalIn_string w _ _ _ _ Tryz.underlying9]
theorem ZhY (D:PDl):∃ qs qc qv qf,(UI D).1 = .agg #[.int .i64 qs,.bool qc,.string qv,.int .i64 qf]:=by
 unfold UI;split
 ·exact ⟨_,_,_,_,rfl⟩
 ·exact ⟨_,_,_,_,rfl⟩
theorem QT (n:Int) (bs:Nat) (S:List PSl) (a:DlA) (b:RdA) (D:PDl) (w:World) (hd:DlM w bs a D) (hr:RdM w b D) (hK:DlK n D) (hn:n <= 1000000) (hS:StdK D) (hG:GrI S D) :
  Calls Tryz.prog 32 #[.pointer (some ⟨a.q,0,none⟩),.pointer (some ⟨b.q,0,none⟩)] w (Qp true w):=by
 obtain ⟨hl1,hl2⟩:=hd.lens;have hfw:=hK.few;have hna:a.Fm.length <= 1000000:=by omega
 have hbl:b.Fm.length = D.F.length:=by rw [<- hr.pure];simp
 have hnb:b.Fm.length <= 1000000:=by omega
 have HRL:Hid (∀ f ∈ D.F,f.ref.length <= 1000000):=zH (fun f hf=>by have:=hK.ref f hf;omega);have HRA:Hid (∀ f ∈ a.Fm,f.ref.length <= 1000000):=zH (fun f hf=>HRL.out f.pure (by rw [<- hd.pure];exact WV hf));have HD:=zH hd;have HR:=zH hr;have HK:=zH hK;have HSK:=zH hS;obtain ⟨q1,q2,q3⟩:=ZgH hG hS hK.ask;obtain ⟨qs,qc,qv,qf,hq⟩:=ZhY D;have HQ1:Hid ((ZgI D).1 = .agg #[.int .i64 qs,.bool qc,.string qv,.int .i64 qf]):=zH (q1.trans hq);have HQ2:=zH q2;have HQ3:=zH q3;have HQU:=zH hq;have CS:=zH (ZbN bs a D w hd hna HRA);clear hd hr hK hS hG hl1 hl2 hfw q1 q2 q3 hq hbl;go_enter Tryz.func32,Tryz.ntmps32;go_wp2_with fail;refine CS.out.mono ?_;rintro e w1 ⟨A,c,Fm,rfl,ho1,hor,hpu,hb1⟩;have HO1:=zH ho1;have HOR:=zH hor;have HPU1:=zH hpu;have HB1:=zH hb1;clear ho1 hor hpu hb1 CS;obtain ⟨W2,hW2⟩:∃ W2:World,W2 = w1.alloc (.cells #[.slice A Fm.length c,.int .i64 D.bad,.bool (D.stand == 1),.bool (D.stand == 2),.int .i64 D.cuts] 65):=⟨_,rfl⟩;have HX2:Hid (W2.heap[w1.heap.size]? = some (.cells #[.slice A Fm.length c,.int .i64 D.bad,.bool (D.stand == 1),.bool (D.stand == 2),.int .i64 D.cuts] 65 (0,0))):=zH (by rw [hW2];exact Wg w1 _);have HBa:Hid (Below w1.heap.size w1 W2):=zH (by rw [hW2];exact bR.alloc nR _);have HB2:Hid (Below w.heap.size w W2):=zH (HB1.out.trans (HBa.out.mono HB1.out.size));go_upto_region 2 with fail;rw [<- hW2];clear hW2;have CA:=Zfs n bs a D W2 (HD.out.below HB2.out) HK.out;rw [HQ1.out] at CA;replace CA:=zH CA;go_wp2_with fail;refine CA.out.mono ?_;rintro e w3 ⟨rfl,hb3⟩;have HB3:=zH hb3;clear hb3 CA;obtain ⟨W4,hW4⟩:∃ W4:World,W4 = w3.alloc (.cells #[.int .i64 qs,.bool qc,.string qv,.int .i64 qf] 69):=⟨_,rfl⟩;have HX4:Hid (W4.heap[w3.heap.size]? = some (.cells #[.int .i64 qs,.bool qc,.string qv,.int .i64 qf] 69 (0,0))):=zH (by rw [hW4];exact Wg w3 _);have HBb:Hid (Below w3.heap.size w3 W4):=zH (by rw [hW4];exact bR.alloc nR _);have HB4:Hid (Below W2.heap.size W2 W4):=zH (HB3.out.trans (HBb.out.mono HB3.out.size));have HC4:Hid (Below w.heap.size w W4):=zH (HB2.out.trans (HB4.out.mono HB2.out.size));go_upto_region 3 with fail;rw [<- hW4];clear hW4;have CU:=ZfC b D W4 (HR.out.below HC4.out) HSK.out hnb;rw [HQU.out] at CU;replace CU:=zH CU;go_wp2_with fail;refine CU.out.mono ?_;rintro e w5 ⟨rfl,hb5⟩;have HB5:=zH hb5;clear hb5 CU;obtain ⟨V,hV⟩:∃ V:World,V = w5.alloc (.cells #[.int .i64 qs,.bool qc,.string qv,.int .i64 qf] 69):=⟨_,rfl⟩;have HX6:Hid (V.heap[w5.heap.size]? = some (.cells #[.int .i64 qs,.bool qc,.string qv,.int .i64 qf] 69 (0,0))):=zH (by rw [hV];exact Wg w5 _);have HBc:Hid (Below w5.heap.size w5 V):=zH (by rw [hV];exact bR.alloc nR _);have HB6:Hid (Below W4.heap.size W4 V):=zH (HB5.out.trans (HBc.out.mono HB5.out.size));have HC6:Hid (Below w.heap.size w V):=zH (HC4.out.trans (HB6.out.mono HC4.out.size));have HV2:Hid (Below W2.heap.size W2 V):=zH (HB4.out.trans (HB6.out.mono HB4.out.size));go_upto_region 4 with fail;rw [<- hV];clear hV;have HV1:Hid (Below w1.heap.size w1 V):=zH (HBa.out.trans (HV2.out.mono HBa.out.size));have HSV:Hid (StM V A Fm):=zH ⟨(Lies.of_own HO1.out).below HV1.out,fun f hf=>(Lies.of_own (HOR.out f hf)).below HV1.out⟩;have HRV:=zH (HR.out.below HC6.out);have HRS:Hid (StM V b.LA b.Fm):=zH ⟨HRV.out.row,HRV.out.ref⟩;have HPU:Hid (Fm.map FlM.pure = b.Fm.map FlM.pure):=zH (by rw [HPU1.out,HRV.out.pure]);have hnf:Fm.length <= 1000000:=by have:=WaF List.length HPU.out;simp at this;omega
 have hrf:Hid (∀ f ∈ Fm,f.ref.length <= 1000000):=zH (fun f hf=>HRL.out f.pure (by rw [<- HPU1.out];exact WV hf));have HSC:Hid (∀ u,Below V.heap.size V u -> u.cell? ⟨w1.heap.size,0,none⟩ = some (.slice A Fm.length c) /\ u.cell? ⟨w1.heap.size,1,none⟩ = some (.int .i64 D.bad) /\ u.cell? ⟨w1.heap.size,2,none⟩ = some (.bool (D.stand == 1)) /\ u.cell? ⟨w1.heap.size,3,none⟩ = some (.bool (D.stand == 2)) /\ u.cell? ⟨w1.heap.size,4,none⟩ = some (.int .i64 D.cuts) /\ u.cell? ⟨w3.heap.size,0,none⟩ = some (.int .i64 qs) /\ u.cell? ⟨w3.heap.size,1,none⟩ = some (.bool qc) /\ u.cell? ⟨w3.heap.size,2,none⟩ = some (.string qv) /\ u.cell? ⟨w3.heap.size,3,none⟩ = some (.int .i64 qf) /\ u.cell? ⟨w5.heap.size,0,none⟩ = some (.int .i64 qs) /\ u.cell? ⟨w5.heap.size,1,none⟩ = some (.bool qc) /\ u.cell? ⟨w5.heap.size,2,none⟩ = some (.string qv) /\ u.cell? ⟨w5.heap.size,3,none⟩ = some (.int .i64 qf)):=zH (fun u hu=>by
  have g5:=((HV2.out.trans (hu.mono HV2.out.size)).block _ (aE HX2.out).1).trans HX2.out;have g7:=((HB6.out.trans (hu.mono HB6.out.size)).block _ (aE HX4.out).1).trans HX4.out;have g9:=(hu.block _ (aE HX6.out).1).trans HX6.out;exact ⟨(cR 0 g5).trans rfl,(cR 1 g5).trans rfl,(cR 2 g5).trans rfl,(cR 3 g5).trans rfl,(cR 4 g5).trans rfl,(cR 0 g7).trans rfl,(cR 1 g7).trans rfl,(cR 2 g7).trans rfl,(cR 3 g7).trans rfl,(cR 0 g9).trans rfl,(cR 1 g9).trans rfl,(cR 2 g9).trans rfl,(cR 3 g9).trans rfl⟩)
 have hqe:=fun W=>Zcl qs qf qc qv W;clear HO1 HOR HPU1 HX2 HX4 HX6 HBa HBb HBc HB1 HB2 HB3 HB4 HB5 HB6 HC4 HD HR HK HQ1 HQU HRA HRL HV1 HV2;generalize w1.heap.size = k5 at *
 generalize w3.heap.size = k7 at *
 generalize w5.heap.size = k9 at *
 rw [HQ2.out,HQ3.out];by_cases h0:D.stand = 0
 ·rw [WA h0,Wi h0];clear h0 HQ2 HQ3;refine Jd (S:=fun w'=>w'.cell? ⟨k5,0,none⟩ = some (.slice A Fm.length c) /\ w'.cell? ⟨k5,1,none⟩ = some (.int .i64 D.bad) /\ w'.cell? ⟨k5,2,none⟩ = some (.bool (D.stand == 1)) /\ w'.cell? ⟨k5,3,none⟩ = some (.bool (D.stand == 2)) /\ w'.cell? ⟨k5,4,none⟩ = some (.int .i64 D.cuts) /\ w'.cell? ⟨k7,0,none⟩ = some (.int .i64 qs) /\ w'.cell? ⟨k7,1,none⟩ = some (.bool qc) /\ w'.cell? ⟨k7,2,none⟩ = some (.string qv) /\ w'.cell? ⟨k7,3,none⟩ = some (.int .i64 qf) /\ w'.cell? ⟨k9,0,none⟩ = some (.int .i64 qs) /\ w'.cell? ⟨k9,1,none⟩ = some (.bool qc) /\ w'.cell? ⟨k9,2,none⟩ = some (.string qv) /\ w'.cell? ⟨k9,3,none⟩ = some (.int .i64 qf)) 28 rfl (by kernel_rfl) (HSC.out V.drew bR.drew) (fun hHeld=>?_);iterate 5 (((refine Ja (v:=?_) rfl (by kernel_rfl) (fun _ _ _ h=>h) ⟨by rfl,?_⟩ hHeld ?_;rotate_left;· intro w' sw;obtain ⟨s0,s1,s2,s3,s4,s5,s6,s7,s8,s9,s10,s11,s12⟩:=sw;go_simp;try with_reducible rfl);simp only [zA,zB,zC]))
  refine Jk 5 rfl (by kernel_rfl) (by rfl) (fun K hK=>?_);go_simp;refine (QO b D V.drew (HRV.out.below bR.drew) HSK.out hnb).mono ?_;rintro e U ⟨rfl,hb1⟩;have HB1:=zH (Jg hb1);have hC1:=HSC.out U HB1.out;have HSU:=zH (HSV.out.below HB1.out);have HRU:=zH (HRS.out.below HB1.out);clear hb1;go_simp;refine hK _ _ hC1 (fun hHeld=>?_);clear hK K;refine Jk 6 rfl (by kernel_rfl) (by rfl) (fun K hK=>?_);go_simp;refine (YS A b.LA c b.lc Fm b.Fm D.bad D.cuts (D.stand == 1) (D.stand == 2) U HSU.out HRU.out HPU.out hnf hrf.out).mono ?_;rintro e U2 ⟨rfl,hb2⟩;have HB2:=zH (HB1.out.trans (hb2.mono HB1.out.size));have hC2:=HSC.out U2 HB2.out;clear hb2;go_simp;refine hK _ _ hC2 (fun hHeld=>?_);clear hK K;iterate 21 (first | ((refine Ja (v:=?_) rfl (by kernel_rfl) (fun _ _ _ h=>h) ⟨by rfl,?_⟩ hHeld ?_;rotate_left;· intro w' sw;obtain ⟨s0,s1,s2,s3,s4,s5,s6,s7,s8,s9,s10,s11,s12⟩:=sw;go_simp;try with_reducible rfl);simp only [zA,zB,zC]) | (refine Jn rfl (by kernel_rfl) (fun _ _ _ h=>h) (by rfl) hHeld ?_;simp only [zA,zB,zC]))
  refine WC (by kernel_rfl) ?_ _;go_wp2_with fail;go_ret;exact ⟨rfl,HC6.out.trans (HB2.out.mono HC6.out.size)⟩
 ·rw [Ww h0,dF h0];clear h0 HQ2 HQ3;refine Jd (S:=fun w'=>w'.cell? ⟨k5,0,none⟩ = some (.slice A Fm.length c) /\ w'.cell? ⟨k5,1,none⟩ = some (.int .i64 D.bad) /\ w'.cell? ⟨k5,2,none⟩ = some (.bool (D.stand == 1)) /\ w'.cell? ⟨k5,3,none⟩ = some (.bool (D.stand == 2)) /\ w'.cell? ⟨k5,4,none⟩ = some (.int .i64 D.cuts) /\ w'.cell? ⟨k7,0,none⟩ = some (.int .i64 qs) /\ w'.cell? ⟨k7,1,none⟩ = some (.bool qc) /\ w'.cell? ⟨k7,2,none⟩ = some (.string qv) /\ w'.cell? ⟨k7,3,none⟩ = some (.int .i64 qf) /\ w'.cell? ⟨k9,0,none⟩ = some (.int .i64 qs) /\ w'.cell? ⟨k9,1,none⟩ = some (.bool qc) /\ w'.cell? ⟨k9,2,none⟩ = some (.string qv) /\ w'.cell? ⟨k9,3,none⟩ = some (.int .i64 qf)) 28 rfl (by kernel_rfl) (HSC.out V.drew bR.drew) (fun hHeld=>?_);iterate 5 (((refine Ja (v:=?_) rfl (by kernel_rfl) (fun _ _ _ h=>h) ⟨by rfl,?_⟩ hHeld ?_;rotate_left;· intro w' sw;obtain ⟨s0,s1,s2,s3,s4,s5,s6,s7,s8,s9,s10,s11,s12⟩:=sw;go_simp;try with_reducible rfl);simp only [zA,zB,zC]))
  refine Jk 5 rfl (by kernel_rfl) (by rfl) (fun K hK=>?_);go_simp;refine (QO b D V.drew (HRV.out.below bR.drew) HSK.out hnb).mono ?_;rintro e U ⟨rfl,hb1⟩;have HB1:=zH (Jg hb1);have hC1:=HSC.out U HB1.out;have HSU:=zH (HSV.out.below HB1.out);have HRU:=zH (HRS.out.below HB1.out);clear hb1;go_simp;refine hK _ _ hC1 (fun hHeld=>?_);clear hK K;refine Jk 6 rfl (by kernel_rfl) (by rfl) (fun K hK=>?_);go_simp;refine (YS A b.LA c b.lc Fm b.Fm D.bad D.cuts (D.stand == 1) (D.stand == 2) U HSU.out HRU.out HPU.out hnf hrf.out).mono ?_;rintro e U2 ⟨rfl,hb2⟩;have HB2:=zH (HB1.out.trans (hb2.mono HB1.out.size));have hC2:=HSC.out U2 HB2.out;clear hb2;go_simp;refine hK _ _ hC2 (fun hHeld=>?_);clear hK K;iterate 21 (((refine Ja (v:=?_) rfl (by kernel_rfl) (fun _ _ _ h=>h) ⟨by rfl,?_⟩ hHeld ?_;rotate_left;· intro w' sw;obtain ⟨s0,s1,s2,s3,s4,s5,s6,s7,s8,s9,s10,s11,s12⟩:=sw;go_simp;try with_reducible rfl);simp only [zA,zB,zC]))
  refine WC (by kernel_rfl) ?_ _;go_wp2_with fail;go_ret;exact ⟨rfl,HC6.out.trans (HB2.out.mono HC6.out.size)⟩
end Go.Proofs.YtcjicjfbippmnaaGreat
namespace Ear
open Go.Proofs.YtcjicjfbippmnaaGreat

theorem ZbW:∀ (l seen r:List BA),J0 seen l = some r -> r = seen ++ l /\ ∀ v ∈ l,v ∉ seen:=by
 intro l
 induction l with
 | nil=>intro seen r h;simp [J0] at h;exact ⟨by simp [h],fun v hv=>by cases hv⟩
 | cons v l ih=>
  intro seen r h;have e:J0 seen (v :: l) = if Xd v = true /\ v ∉ seen then J0 (seen ++ [v]) l else none:=rfl;rw [e] at h;by_cases hc:Xd v = true /\ v ∉ seen
  ·rw [WA hc] at h;obtain ⟨h1,h2⟩:=ih _ _ h;refine ⟨by rw [h1];simp,fun x hx=>?_⟩;rcases WE.1 hx with rfl | hx
   ·exact hc.2
   ·intro hs;exact h2 x hx (by simp [hs])
  ·rw [Ww hc] at h;cases h
theorem Zdw:∀ (S:List PSl) (names values:List BA),YK names values S = true ->
  (∀ s ∈ S,1 <= s.vs.length /\ Xp s.le = true /\ Xp s.su = true /\ ¬ 0 < XH (s.le + -s.su) /\ ∀ v ∈ s.vs,v ∉ values) /\ S.Pairwise (fun s t=>∀ v ∈ s.vs,v ∉ t.vs):=by
 intro S
 induction S with
 | nil=>intro _ _ _;exact ⟨fun s hs=>(by cases hs),.nil⟩
 | cons s l ih=>
  intro names values h;rw [XQ,Wy] at h;obtain ⟨h1,h2⟩:=h;obtain ⟨-,-,-,-,a1,-,a2,a3,a4⟩:=Zo.1 h1;cases hv:J0 values s.vs with
  | none=>rw [hv] at h2;cases h2
  | some v=>
   rw [hv] at h2;obtain ⟨e,hn⟩:=ZbW _ _ _ hv;obtain ⟨i1,i2⟩:=ih _ _ h2;subst e;refine ⟨fun t ht=>?_,WfD.2 ⟨fun t ht x hx hxt=>?_,i2⟩⟩
   ·rcases WE.1 ht with rfl | ht
    ·exact ⟨a1,a2,a3,a4,hn⟩
    ·obtain ⟨b1,b2,b3,b4,b5⟩:=i1 t ht;exact ⟨b1,b2,b3,b4,fun x hx hxv=>b5 x hx (by simp [hxv])⟩
   ·exact (i1 t ht).2.2.2.2 x hxt (by simp [hx])
theorem Zbj {pat prm need:Int} {S:List PSl} (h:Zq pat prm need S = true):XC S.length pat prm need /\
  (∀ s ∈ S,1 <= s.vs.length /\ Xp s.le = true /\ Xp s.su = true /\ ¬ 0 < XH (s.le + -s.su)) /\ S.Pairwise (fun s t=>∀ v ∈ s.vs,v ∉ t.vs):=by
 unfold Zq at h;rw [Wy] at h;obtain ⟨h1,h2⟩:=Zdw _ _ _ h.2;exact ⟨WaB h.1,fun s hs=>by obtain ⟨a,b,c,d,-⟩:=h1 s hs;exact ⟨a,b,c,d⟩,h2⟩
end Ear
