/- TalkHears -/
import Derived.Test.YtcjicjfbippmnaaGreatMTHear37
set_option maxRecDepth 100000
set_option maxHeartbeats 32000000
namespace Ear
open Go.Proofs.YtcjicjfbippmnaaGreat
def Zik (S:List PSl) (x:BA) (k:Nat) (v:Int):Prop:=(v = -1 /\ ∀ (j:Nat) (hj:j < S.length),j < k -> x ∉ S[j].vs) ∨ ∃ (j:Nat) (hj:j < S.length),v = j /\ j < k /\ x ∈ S[j].vs
def uniqV (S:List PSl) (x:BA):Prop:=∀ (i j:Nat) (hi:i < S.length) (hj:j < S.length),x ∈ S[i].vs -> x ∈ S[j].vs -> i = j
theorem ZfG {S:List PSl} {x:BA} {v:Int} (h:Zik S x S.length v) (hu:uniqV S x):v = ZbR S x:=by
 rcases h with ⟨rfl,h⟩ | ⟨j,hj,rfl,-,hx⟩
 ·exact (Za6 (fun j hj=>h j hj hj)).symm
 ·exact (Zd3 hj hx (fun i hi hij hxi=>by have:=hu i j hi hj hxi hx;omega)).symm
theorem Zhj {S:List PSl} {x:BA} {k:Nat} {v:Int} (hk:k < S.length) (hx:x ∈ S[k].vs):Zik S x (k + 1) k:=.inr ⟨k,hk,rfl,by omega,hx⟩
theorem ZfF {S:List PSl} {x:BA} {k:Nat} {v:Int} (h:Zik S x k v) (hk:k < S.length) (hx:x ∉ S[k].vs):Zik S x (k + 1) v:=by
 rcases h with ⟨rfl,h⟩ | ⟨j,hj,rfl,h1,h2⟩
 ·refine .inl ⟨rfl,fun j hj hjk=>?_⟩;by_cases e:j = k
  ·subst e;exact hx
  ·exact h j hj (by omega)
 ·exact .inr ⟨j,hj,rfl,by omega,h2⟩
def Zhc (D:PDl) (x:BA) (q:Rat):Bool × PDl:=
 match D.F[Zi D.S x]?,D.S[Zi D.S x]? with
 | some f,some s=>(match ZaR f s q x with | some f'=>(true,D.put (Zi D.S x) f') | none=>(false,D))
 | _,_=>(false,D)
theorem Zgy (D:PDl) (E:PEv) (h:E.kind = 4):YC D E = Zhc D E.val E.q:=by
 unfold YC Zhc;rw [Ww (by omega),WA h];cases D.F[Zi D.S E.val]? <;> cases D.S[Zi D.S E.val]? <;> rfl
theorem Zd1 {D:PDl} {x:BA} (q:Rat) (h:ZbR D.S x < 0):Zhc D x q = (false,D):=by
 unfold ZbR at h;split at h
 ·omega
 ·rename_i hn;unfold Zhc;rw [WF (l:=D.S) (by omega)];cases D.F[Zi D.S x]? <;> rfl
theorem Zd2 {S:List PSl} {x:BA} (h:¬ ZbR S x < 0):Zi S x < S.length /\ ZbR S x = Zi S x:=by
 unfold ZbR at h ⊢;split at h
 ·rename_i hn;exact ⟨hn,WA hn⟩
 ·omega
theorem Zhb {D:PDl} {x:BA} (q:Rat) {f:PFl} {s:PSl} (hf:D.F[Zi D.S x]? = some f) (hs:D.S[Zi D.S x]? = some s):Zhc D x q = (match ZaR f s q x with | some f'=>(true,D.put (Zi D.S x) f') | none=>(false,D)):=by
 unfold Zhc;rw [hf,hs]
end Ear
namespace Go.Proofs.YtcjicjfbippmnaaGreat
open Go.RowKit Ear

structure RCh (w w':World) (a a':RdA):Prop where
 grown:w.grownBy w' (some a.q)
 q:a'.q = a.q
 pl:a'.PA = a.PA /\ a'.pc = a.pc /\ a'.Ss = a.Ss
 row:a'.LA = a.LA ∨ ∃ g,a'.LA = some ⟨g,0,none⟩ /\ w.heap.size <= g /\ g < w'.heap.size
 ref:∀ f ∈ a'.Fm,∀ b,blk f.A = some b -> (∃ g ∈ a.Fm,blk g.A = some b) ∨ (w.heap.size <= b /\ b < w'.heap.size)
theorem RCh.of_below {w w':World} {a:RdA} (h:Below w.heap.size w w'):RCh w w' a a:=
 ⟨⟨h.os,h.tape,h.output,h.size,fun k hk _=>h.block k hk⟩,rfl,⟨rfl,rfl,rfl⟩,.inl rfl,fun f hf b hb=>.inl ⟨f,hf,hb⟩⟩
theorem RCh.trans {w w' w'':World} {a a' a'':RdA} (h:RCh w w' a a') (k:RCh w' w'' a' a''):RCh w w'' a a'':=
 ⟨⟨k.grown.os.trans h.grown.os,k.grown.tape.trans h.grown.tape,k.grown.output.trans h.grown.output,tR h.grown.size k.grown.size,fun b hb hn=>(k.grown.block b (Wk hb h.grown.size) (by rw [h.q];exact hn)).trans (h.grown.block b hb hn)⟩,k.q.trans h.q,
  ⟨k.pl.1.trans h.pl.1,k.pl.2.1.trans h.pl.2.1,k.pl.2.2.trans h.pl.2.2⟩,
  by
   rcases k.row with e | ⟨g,e,hg,hl⟩
   ·rw [e];rcases h.row with e | ⟨g,e,hg,hl⟩
    ·exact .inl e
    ·exact .inr ⟨g,e,hg,Wk hl k.grown.size⟩
   ·exact .inr ⟨g,e,tR h.grown.size hg,hl⟩,
  fun f hf b hb=>by
   rcases k.ref f hf b hb with ⟨g,hg,e⟩ | ⟨h1,h2⟩
   ·rcases h.ref g hg b e with h3 | ⟨h3,h4⟩
    ·exact .inl h3
    ·exact .inr ⟨h3,Wk h4 k.grown.size⟩
   ·exact .inr ⟨tR h.grown.size h1,h2⟩⟩
theorem RCh.of_set {w W' w9:World} {a:RdA} {g c k:Nat} {Y:FlM} (hb:Below w.heap.size w W') (hG:W'.grownBy w9 (some a.q)) (hg:W'.heap.size <= g /\ g < w9.heap.size) (hY:∀ b,blk Y.A = some b -> (∃ g ∈ a.Fm,blk g.A = some b) ∨ (w.heap.size <= b /\ b < W'.heap.size)):RCh w w9 a (a.set g c k Y):=
 ⟨⟨hG.os.trans hb.os,hG.tape.trans hb.tape,hG.output.trans hb.output,tR hb.size hG.size,fun b h1 h2=>(hG.block b (Wk h1 hb.size) h2).trans (hb.block b h1)⟩,rfl,⟨rfl,rfl,rfl⟩,.inr ⟨g,rfl,tR hb.size hg.1,hg.2⟩,fun f hf b h1=>by
  rcases YZ hf with rfl | ⟨j,hj,hne,rfl⟩
  ·rcases hY b h1 with h2 | ⟨h2,h3⟩
   ·exact .inl h2
   ·exact .inr ⟨h2,Wk h3 hG.size⟩
  ·exact .inl ⟨_,gM hj,h1⟩⟩
theorem Zig (A:Option Addr) (c:Nat) (l:List BA) (x:BA) (w:World) (h:Lies w A (sbs l)) (hn:l.length <= 9223372036854775807) (r:Bool) (hr:decide (x ∈ l) = r):Calls Tryz.prog 79 #[.slice A l.length c,.string x] w fun e w'=>e = .returned (.bool r) /\ ∃ k,w' = w.drewN k:=
 (Y7 A c l x w h hn r (zH hr)).mono fun _ _ ⟨he,hw⟩=>⟨he,0,hw.symm⟩
theorem Zdf (a:RdA) (D:PDl) (E:EvM) (q:Rat) (w:World) (h:RdM w a D) (hE:Fv w E.W q) (fE:Few E.W 40000) (hn:a.Fm.length <= 1000000) (hvs:∀ p ∈ D.S,p.vs.length <= 1000000) (hrf:∀ f ∈ D.F,f.ref.length <= 1000000) (hu:uniqV D.S E.val) (hfw:∀ s ∈ a.Ss,Few s.L 40000 /\ Few s.S 40000) (R:Bool × PDl) (hR:Hid (Zhc D E.val q = R)) :
  Calls Tryz.prog 91 #[.pointer (some ⟨a.q,0,none⟩),E.v] w fun e w'=>e = .returned (.bool R.1) /\ ∃ a',RdM w' a' R.2 /\ RCh w w' a a':=by
 obtain ⟨W0,hW0⟩:∃ W0:World,W0 = w.alloc (.cells (eB E) 61):=⟨_,rfl⟩;have HB0:Hid (Below w.heap.size w W0):=zH (by rw [hW0];exact bR.alloc nR _);have HX0:Hid (W0.heap[w.heap.size]? = some (.cells (eB E) 61 (0,0))):=zH (by rw [hW0];exact Wg w _);have HM:=zH (h.below HB0.out);have HE0:=zH (hE.below HB0.out);have hws:w.heap.size < W0.heap.size:=(aE HX0.out).1;have HL:Hid (a.Ss.length = D.S.length):=zH HM.out.plan.len;have hln:a.Ss.length <= 1000000:=by rw [<- h.len];exact hn
 have HU:=zH hu;have HVS:=zH hvs;have HRF:=zH hrf;have HFE:=zH fE;have HEC:Hid (∀ u,Below W0.heap.size W0 u -> u.cell? ⟨w.heap.size,1,none⟩ = some (.string E.val) /\ u.cell? ⟨w.heap.size,2,none⟩ = some (.bool E.W.neg) /\ u.cell? ⟨w.heap.size,3,none⟩ = some (.slice E.W.A E.W.N.length E.W.c) /\ u.cell? ⟨w.heap.size,4,none⟩ = some (.slice E.W.B E.W.D.length E.W.d)):=zH (fun u hu=>by
  have hx:=(hu.block _ hws).trans HX0.out;exact ⟨(cR 1 hx).trans rfl,(cR 2 hx).trans rfl,(cR 3 hx).trans rfl,(cR 4 hx).trans rfl⟩)
 clear h hE fE hu hvs hrf HX0;unfold EvM.v;go_enter Tryz.func91,Tryz.ntmps91;go_upto_region 1 with fail;rw [<- hW0];clear hW0;go_wp2_with fail;go_loopw [5,6] (fun t5 t6 wr=>∃ (v:Int) (k:Nat),k <= a.Ss.length /\ t6 = .int .i64 k /\ t5 = .int .i64 v /\ Hid (Zik D.S E.val k v) /\ Hid (Below W0.heap.size W0 wr)) (fun _ t6 _=>a.Ss.length - (intOf t6).toNat)
 case atStart=>exact ⟨-1,0,by omega,rfl,rfl,zH (.inl ⟨rfl,fun j hj h=>by omega⟩),zH bR⟩
 case round=>
  obtain ⟨v,k,hk,rfl,rfl,HS,HB⟩:=hrel;obtain ⟨Wr,rfl⟩:∃ X,X = wr:=⟨_,rfl⟩;have HMr:=zH (HM.out.below HB.out);have c0:=HMr.out.cells.1;by_cases hlt:k < a.Ss.length
  ·have hlt':(k:Int) < (a.Ss.length:Int):=by omega
   have hltS:k < D.S.length:=(by rw [<- HL.out];exact hlt);obtain ⟨gb,go,eA,hgb,hcell⟩:=HMr.out.plan.at_ hlt;have hok:=HMr.out.plan.ok k _ _ (gE hlt) (gE hltS);have HLS:=zH hok.lies;have HVK:Hid (a.Ss[k].vs = D.S[k].vs):=zH hok.vs;have hvl:a.Ss[k].vs.length <= 1000000:=(by rw [hok.vs];exact HVS.out _ (gM hltS));rw [eA] at c0;have k1:=hcell 1 _ rfl;obtain ⟨e1,-,-,-⟩:=HEC.out Wr HB.out;clear hok hcell eA;generalize a.Ss[k] = s at *
   obtain ⟨b,hb⟩:∃ b,decide (E.val ∈ s.vs) = b:=⟨_,rfl⟩;have HQ:Hid (∀ m,Calls Tryz.prog 79 #[.slice s.A s.vs.length s.c,.string E.val] (Wr.drewN m) fun e w'=>e = .returned (.bool b) /\ ∃ k,w' = (Wr.drewN m).drewN k):=zH (fun m=>Zig s.A s.c s.vs E.val (Wr.drewN m) HLS.out (by omega) b hb);have HBB:=zH hb;clear hb HLS;go_upto_region 5 with fail;go_quiet ((go_at_call 79;exact WeD (HQ.out _)));have HBN:Hid (Below W0.heap.size W0 (Wr.drewN nq)):=zH (HB.out.trans (Jb _ _));cases b with
   | true=>
    have hin:=WaB HBB.out;rw [HVK.out] at hin;have HN:=zH (Zhj (v:=v) hltS hin);clear hin HQ HBB;go_wp2_with fail;exact ⟨⟨k,k + 1,by omega,by go_num,rfl,HN,HBN⟩,by simp [intOf];omega⟩
   | false=>
    have hin:=Wa7 HBB.out;rw [HVK.out] at hin;have HN:=zH (ZfF HS.out hltS hin);clear hin HQ HBB;go_wp2_with fail;exact ⟨⟨v,k + 1,by omega,by go_num,rfl,HN,HBN⟩,by simp [intOf];omega⟩
  ·have hlt':¬ (k:Int) < (a.Ss.length:Int):=by omega
   have hkn:k = a.Ss.length:=(by omega);have HVI:Hid (v = ZbR D.S E.val):=zH (ZfG (by have:=HS.out;rw [hkn,HL.out] at this;exact this) HU.out);clear HS HU hkn hlt;by_cases hv:v < 0
   ·obtain rfl:R = (false,D):=(by rw [<- hR.out,Zd1 q (by rw [<- HVI.out];exact hv)]);go_wp2_with fail;go_ret;exact ⟨rfl,a,HMr.out,RCh.of_below (HB0.out.trans (HB.out.mono HB0.out.size))⟩
   ·have hv2:=hv;rw [HVI.out] at hv2;obtain ⟨hvn,hve⟩:=Zd2 hv2;obtain ⟨k0,hk0⟩:∃ k0,k0 = Zi D.S E.val:=⟨_,rfl⟩;obtain rfl:v = (k0:Int):=(by rw [HVI.out,hve,hk0]);have hkS:k0 < a.Ss.length:=(by rw [HL.out,hk0];exact hvn);have hkF:k0 < a.Fm.length:=(by rw [HMr.out.len];exact hkS);have hvnD:k0 < D.S.length:=(by rw [<- HL.out];exact hkS);have hkSi:(k0:Int) < (a.Ss.length:Int):=(by omega);have hkFi:(k0:Int) < (a.Fm.length:Int):=(by omega);obtain ⟨gb,go,eA,hgb,hcell⟩:=HMr.out.plan.at_ hkS;have HOK:=zH (HMr.out.plan.ok k0 _ _ (gE hkS) (gE hvnD));obtain ⟨fb,fo,eL,hfb,hfc⟩:=HMr.out.row (by rw [JN];omega);have l0:=hfc (k0 * 3 + 0) (.int .i64 a.Fm[k0].st) (by rw [JW a.Fm hkF 0 (by omega)];rfl);have l1:=hfc (k0 * 3 + 1) (.string a.Fm[k0].val) (by rw [JW a.Fm hkF 1 (by omega)];rfl);have l2:=hfc (k0 * 3 + 2) (.slice a.Fm[k0].A a.Fm[k0].ref.length a.Fm[k0].c) (by rw [JW a.Fm hkF 2 (by omega)];rfl);rw [WaV] at l0;rw [<- WbJ] at l1 l2;have hFD:D.F[k0]? = some a.Fm[k0].pure:=(by rw [<- HMr.out.pure,WL,gE hkF];rfl);have HRR:Hid (R = match ZaR a.Fm[k0].pure D.S[k0] q E.val with | some f'=>(true,D.put k0 f') | none=>(false,D)):=zH (by
     rw [<- hR.out,Zhb q (f:=a.Fm[k0].pure) (s:=D.S[k0]) (by rw [<- hk0];exact hFD) (by rw [<- hk0];exact gE hvnD),<- hk0])
    have HFW:=zH (hfw _ (gM hkS));have hrl:a.Fm[k0].ref.length <= 1000000:=HRF.out _ (WO hFD);have HFR:=zH (HMr.out.ref _ (gM hkF));have HFN:=zH (HMr.out.nil _ (gM hkF));have c4:=HMr.out.cells.2.2.2.2.1;rw [eA] at c0;rw [eL] at c4;have hql:a.q < Wr.heap.size:=(aE HMr.out.cell).1;have k0c:=hcell 0 _ rfl;have k1c:=hcell 1 _ rfl;have k2c:=hcell 2 _ rfl;have k3c:=hcell 3 _ rfl;have k4c:=hcell 4 _ rfl;have k5c:=hcell 5 _ rfl;have k6c:=hcell 6 _ rfl;have k7c:=hcell 7 _ rfl;rw [WaV] at k0c;have HFM:Hid (∃ hk:k0 < a.Fm.length,a.Fm[k0] = a.Fm[k0]):=zH ⟨hkF,rfl⟩;have HFE0:Hid (a.Fm[k0]? = some a.Fm[k0]):=zH (gE hkF);clear hcell hfc eA eL hfw hR hv2 hvn hve hk0 HVI hFD HFM;generalize a.Ss[k0] = s at *
    generalize D.S[k0] = p at *
    generalize a.Fm[k0] = fm at *
    obtain ⟨fs,fv,fA,fc,fr⟩:=fm;simp only [FlM.pure] at *
    have HSC:Hid (∀ u,Below Wr.heap.size Wr u -> u.cell? ⟨a.q,0,none⟩ = some (.slice (some ⟨gb,go,none⟩) a.Ss.length a.pc) /\ u.cell? ⟨a.q,4,none⟩ = some (.slice (some ⟨fb,fo,none⟩) a.Fm.length a.lc) /\ u.cell? ⟨gb,go + k0 * 8,none⟩ = some (.string s.nm) /\ u.cell? ⟨gb,go + k0 * 8 + 1,none⟩ = some (.slice s.A s.vs.length s.c) /\ u.cell? ⟨gb,go + k0 * 8 + 2,none⟩ = some (.bool s.L.neg) /\ u.cell? ⟨gb,go + k0 * 8 + 3,none⟩ = some (.slice s.L.A s.L.N.length s.L.c) /\ u.cell? ⟨gb,go + k0 * 8 + 4,none⟩ = some (.slice s.L.B s.L.D.length s.L.d) /\ u.cell? ⟨gb,go + k0 * 8 + 5,none⟩ = some (.bool s.S.neg) /\ u.cell? ⟨gb,go + k0 * 8 + 6,none⟩ = some (.slice s.S.A s.S.N.length s.S.c) /\ u.cell? ⟨gb,go + k0 * 8 + 7,none⟩ = some (.slice s.S.B s.S.D.length s.S.d) /\ u.cell? ⟨fb,fo + k0 * 3,none⟩ = some (.int .i64 fs) /\ u.cell? ⟨fb,fo + k0 * 3 + 1,none⟩ = some (.string fv) /\ u.cell? ⟨fb,fo + k0 * 3 + 2,none⟩ = some (.slice fA fr.length fc)):=zH (fun u hu=>⟨(hu.cell (p:=⟨a.q,0,none⟩) hql).trans c0,(hu.cell (p:=⟨a.q,4,none⟩) hql).trans c4,(hu.cell (p:=⟨gb,go + k0 * 8,none⟩) hgb).trans k0c,(hu.cell (p:=⟨gb,go + k0 * 8 + 1,none⟩) hgb).trans k1c,(hu.cell (p:=⟨gb,go + k0 * 8 + 2,none⟩) hgb).trans k2c,(hu.cell (p:=⟨gb,go + k0 * 8 + 3,none⟩) hgb).trans k3c,(hu.cell (p:=⟨gb,go + k0 * 8 + 4,none⟩) hgb).trans k4c,(hu.cell (p:=⟨gb,go + k0 * 8 + 5,none⟩) hgb).trans k5c,(hu.cell (p:=⟨gb,go + k0 * 8 + 6,none⟩) hgb).trans k6c,(hu.cell (p:=⟨gb,go + k0 * 8 + 7,none⟩) hgb).trans k7c,(hu.cell (p:=⟨fb,fo + k0 * 3,none⟩) hfb).trans l0,(hu.cell (p:=⟨fb,fo + k0 * 3 + 1,none⟩) hfb).trans l1,(hu.cell (p:=⟨fb,fo + k0 * 3 + 2,none⟩) hfb).trans l2⟩);go_upto_region 9 with fail;clear c0 c4 k0c k1c k2c k3c k4c k5c k6c k7c l0 l1 l2;go_cut [7,8] from 38 (fun t7 t8 wx=>∃ g7 g8,t7 = .pointer (some ⟨g7,0,none⟩) /\ t8 = .pointer (some ⟨g8,0,none⟩) /\ Hid (wx.heap[g7]? = some (.cells #[.string s.nm,.slice s.A s.vs.length s.c,.bool s.L.neg,.slice s.L.A s.L.N.length s.L.c,.slice s.L.B s.L.D.length s.L.d,.bool s.S.neg,.slice s.S.A s.S.N.length s.S.c,.slice s.S.B s.S.D.length s.S.d] 79 (0,0))) /\ Hid (wx.heap[g8]? = some (.cells #[.int .i64 fs,.string fv,.slice fA fr.length fc] 76 (0,0))) /\ Hid (Below Wr.heap.size Wr wx))
    case first=>
     refine Jd (S:=fun w'=>w'.cell? ⟨a.q,0,none⟩ = some (.slice (some ⟨gb,go,none⟩) a.Ss.length a.pc) /\ w'.cell? ⟨a.q,4,none⟩ = some (.slice (some ⟨fb,fo,none⟩) a.Fm.length a.lc) /\ w'.cell? ⟨gb,go + k0 * 8,none⟩ = some (.string s.nm) /\ w'.cell? ⟨gb,go + k0 * 8 + 1,none⟩ = some (.slice s.A s.vs.length s.c) /\ w'.cell? ⟨gb,go + k0 * 8 + 2,none⟩ = some (.bool s.L.neg) /\ w'.cell? ⟨gb,go + k0 * 8 + 3,none⟩ = some (.slice s.L.A s.L.N.length s.L.c) /\ w'.cell? ⟨gb,go + k0 * 8 + 4,none⟩ = some (.slice s.L.B s.L.D.length s.L.d) /\ w'.cell? ⟨gb,go + k0 * 8 + 5,none⟩ = some (.bool s.S.neg) /\ w'.cell? ⟨gb,go + k0 * 8 + 6,none⟩ = some (.slice s.S.A s.S.N.length s.S.c) /\ w'.cell? ⟨gb,go + k0 * 8 + 7,none⟩ = some (.slice s.S.B s.S.D.length s.S.d) /\ w'.cell? ⟨fb,fo + k0 * 3,none⟩ = some (.int .i64 fs) /\ w'.cell? ⟨fb,fo + k0 * 3 + 1,none⟩ = some (.string fv) /\ w'.cell? ⟨fb,fo + k0 * 3 + 2,none⟩ = some (.slice fA fr.length fc)) 19 rfl (by kernel_rfl) (HSC.out _ (Wp Wr.heap.size Wr).drew) (fun hd=>?_);iterate 15 (((refine Ja (v:=?_) rfl (by kernel_rfl) (fun _ _ _ h=>h) ⟨by rfl,?_⟩ hd ?_;rotate_left;· intro w' sw;obtain ⟨s0,s1,s2,s3,s4,s5,s6,s7,s8,s9,s10,s11,s12⟩:=sw;go_simp;try with_reducible rfl);simp only [zA,zB,zC]))
     refine Y6 15 16 rfl rfl (by kernel_rfl) rfl rfl (fun K hK=>?_) (fun K hK=>?_)
     ·go_simp;refine hK.out _ _ (HSC.out _ ((Wp Wr.heap.size Wr).drew.alloc nR _)) (fun hd=>?_);clear hK K;try simp only [zA,zB,zC]
      refine Je 16 rfl (by kernel_rfl) rfl (fun K hK=>?_);go_simp;refine hK.out _ _ (HSC.out _ (((Wp Wr.heap.size Wr).drew.alloc nR _).alloc (by simp) _)) (fun hd=>?_);clear hK K;try simp only [zA,zB,zC]
      refine Je 17 rfl (by kernel_rfl) rfl (fun K hK=>?_);go_simp;refine hK.out _ _ (HSC.out _ (((Wp Wr.heap.size Wr).drew.alloc nR _).alloc (by simp) _)) (fun hd=>?_);clear hK K;try simp only [zA,zB,zC]
      refine Je 18 rfl (by kernel_rfl) rfl (fun K hK=>?_);go_simp;refine hK.out _ _ (HSC.out _ (((Wp Wr.heap.size Wr).drew.alloc nR _).alloc (by simp) _)) (fun hd=>?_);clear hK K;try simp only [zA,zB,zC]
      refine WC (by kernel_rfl) ?_ _;go_wp2_with fail;go_meet;exact ⟨_,_,rfl,rfl,zH (ZZ _ _ _),zH (ZY _ _ _),zH (Ze (al2 _ _ _))⟩
     ·go_simp;refine hK.out _ _ (HSC.out _ ((Wp Wr.heap.size Wr).drew.alloc nR _)) (fun hd=>?_);clear hK K;try simp only [zA,zB,zC]
      refine Je 15 rfl (by kernel_rfl) rfl (fun K hK=>?_);go_simp;refine hK.out _ _ (HSC.out _ (((Wp Wr.heap.size Wr).drew.alloc nR _).alloc (by simp) _)) (fun hd=>?_);clear hK K;try simp only [zA,zB,zC]
      refine Je 17 rfl (by kernel_rfl) rfl (fun K hK=>?_);go_simp;refine hK.out _ _ (HSC.out _ (((Wp Wr.heap.size Wr).drew.alloc nR _).alloc (by simp) _)) (fun hd=>?_);clear hK K;try simp only [zA,zB,zC]
      refine Je 18 rfl (by kernel_rfl) rfl (fun K hK=>?_);go_simp;refine hK.out _ _ (HSC.out _ (((Wp Wr.heap.size Wr).drew.alloc nR _).alloc (by simp) _)) (fun hd=>?_);clear hK K;try simp only [zA,zB,zC]
      refine WC (by kernel_rfl) ?_ _;go_wp2_with fail;go_meet;exact ⟨_,_,rfl,rfl,zH (ZY _ _ _),zH (ZZ _ _ _),zH (Ze (al2 _ _ _))⟩
    case rest=>
     obtain ⟨g7,g8,rfl,rfl,H7,H8,HBX⟩:=hcut;obtain ⟨V,rfl⟩:∃ x,x = wc:=⟨_,rfl⟩;have HWV:Hid (Below W0.heap.size W0 V):=zH (HB.out.trans (HBX.out.mono HB.out.size));have HCV:Hid (∀ u,Below V.heap.size V u -> u.cell? ⟨g8,0,none⟩ = some (.int .i64 fs) /\ u.cell? ⟨g8,1,none⟩ = some (.string fv) /\ u.cell? ⟨g8,2,none⟩ = some (.slice fA fr.length fc) /\ u.cell? ⟨g7,2,none⟩ = some (.bool s.L.neg) /\ u.cell? ⟨g7,3,none⟩ = some (.slice s.L.A s.L.N.length s.L.c) /\ u.cell? ⟨g7,4,none⟩ = some (.slice s.L.B s.L.D.length s.L.d) /\ u.cell? ⟨g7,5,none⟩ = some (.bool s.S.neg) /\ u.cell? ⟨g7,6,none⟩ = some (.slice s.S.A s.S.N.length s.S.c) /\ u.cell? ⟨g7,7,none⟩ = some (.slice s.S.B s.S.D.length s.S.d)):=zH (fun u hu=>by
      have g1:=(hu.block _ (aE H7.out).1).trans H7.out;have g2:=(hu.block _ (aE H8.out).1).trans H8.out;exact ⟨(cR 0 g2).trans rfl,(cR 1 g2).trans rfl,(cR 2 g2).trans rfl,(cR 2 g1).trans rfl,(cR 3 g1).trans rfl,(cR 4 g1).trans rfl,(cR 5 g1).trans rfl,(cR 6 g1).trans rfl,(cR 7 g1).trans rfl⟩)
     have HOV:=zH (HOK.out.below HBX.out);have HEV:=zH (HE0.out.below HWV.out);have HFV:=zH (HFR.out.below HBX.out);have HMV:=zH (HMr.out.below HBX.out);have HEC2:Hid (∀ u,Below V.heap.size V u -> u.cell? ⟨w.heap.size,1,none⟩ = some (.string E.val) /\ u.cell? ⟨w.heap.size,2,none⟩ = some (.bool E.W.neg) /\ u.cell? ⟨w.heap.size,3,none⟩ = some (.slice E.W.A E.W.N.length E.W.c) /\ u.cell? ⟨w.heap.size,4,none⟩ = some (.slice E.W.B E.W.D.length E.W.d)):=zH (fun u hu=>HEC.out u (HWV.out.trans (hu.mono HWV.out.size)));have HW9:Hid (Below w.heap.size w V):=zH (HB0.out.trans (HWV.out.mono HB0.out.size));have HMN:Hid (RdM V a D):=HMV;obtain ⟨z1,hz1⟩:∃ z,XH (q + -p.su) = z:=⟨_,rfl⟩;obtain ⟨z2,hz2⟩:∃ z,XH (q + -p.le) = z:=⟨_,rfl⟩;have HZ1:=zH hz1;have HZ2:=zH hz2;obtain ⟨bad,hbad⟩:∃ b,decide (z2 < 0 ∨ (z1 < 0 /\ E.val ∈ fr)) = b:=⟨_,rfl⟩;obtain ⟨cnd,hcnd⟩:∃ b,decide ((fs = 3 /\ fv = E.val) ∨ (¬ fs = 3 /\ (0 <= z1 ∨ (fs = 2 /\ fv = E.val)))) = b:=⟨_,rfl⟩;have HR1:Hid (bad = true -> R = (false,D)):=zH (fun hc=>by
      rw [<- hbad] at hc;have hc:=WaB hc;rw [HRR.out];unfold ZaR;rw [hz1,hz2,WA (by rcases hc with h | h;exact .inl h;exact .inr ⟨by omega,h.2⟩)])
     have HR2:Hid (bad = false -> R = (true,D.put k0 ⟨if cnd = true then 3 else 2,E.val,wo E.val fr⟩)):=zH (fun hc=>by
      rw [<- hbad] at hc;have hc:=Wa7 hc;rw [HRR.out];unfold ZaR;rw [hz1,hz2,Ww (fun h=>hc (by rcases h with h | h;exact .inl h;exact .inr ⟨by omega,h.2⟩)),<- hcnd];simp only [decide_eq_true_eq];by_cases h3:fs = 3
      ·by_cases hv:fv = E.val
       ·rw [WA ⟨h3,hv⟩,WA (.inl ⟨h3,hv⟩)]
       ·rw [Ww (fun h=>hv h.2),WA h3,Ww (fun h=>by rcases h with h | h;exact hv h.2;exact h.1 h3)]
      ·rw [Ww (fun h=>h3 h.1),Ww h3];by_cases h4 : 0 <= z1 ∨ (fs = 2 /\ fv = E.val)
       ·rw [WA h4,WA (.inr ⟨h3,h4⟩)]
       ·rw [Ww h4,Ww (fun h=>by rcases h with h | h;exact h3 h.1;exact h4 h.2)])
     have HBD:=zH hbad;have HCD:=zH hcnd;clear hbad hcnd;clear hz1 hz2 HRR HBX H7 H8 HSC HFR HOK HMr HE0 HEC HB0 HB HWV HMV
     as_aux_lemma=>
     obtain ⟨e1,e2,e3,e4⟩:=HEC2.out V bR;obtain ⟨f0,f1,f2,b2,b3,b4,b5,b6,b7⟩:=HCV.out V bR;go_upto_region 10 with fail;go_wp2_with fail;refine (Zp E.W s.S q p.su V HEV.out HOV.out.S HFE.out HFW.out.2 z1 HZ1).mono ?_;rintro e V1 ⟨rfl,hb1⟩;have HB1:=zH hb1;clear e1 e2 e3 e4 f0 f1 f2 b2 b3 b4 b5 b6 b7 hb1;obtain ⟨e1,e2,e3,e4⟩:=HEC2.out V1 HB1.out;obtain ⟨f0,f1,f2,b2,b3,b4,b5,b6,b7⟩:=HCV.out V1 HB1.out;go_upto_region 11 with fail;go_cut [9,75] from 53 (fun t9 t wx=>t9 = .bool (decide (0 <= z1)) /\ t = .bool bad /\ Hid (Below V.heap.size V wx))
     case first=>
      go_wp2_with fail;refine (Zp E.W s.L q p.le V1 (HEV.out.below HB1.out) (HOV.out.L.below HB1.out) HFE.out HFW.out.1 z2 HZ2).mono ?_;rintro e V2 ⟨rfl,hb2⟩;have HB2:Hid (Below V.heap.size V V2):=zH (HB1.out.trans (hb2.mono HB1.out.size));clear e1 e2 e3 e4 f0 f1 f2 b2 b3 b4 b5 b6 b7 hb2;obtain ⟨e1,e2,e3,e4⟩:=HEC2.out V2 HB2.out;obtain ⟨f0,f1,f2,b2,b3,b4,b5,b6,b7⟩:=HCV.out V2 HB2.out;by_cases hz:z2 < 0
      ·obtain rfl:bad = true:=(by rw [<- HBD.out];exact Wi (.inl hz));have gz:decide (z2 < 0) = true:=Wi hz;clear HBD;go_wp2_with fail;go_meet;exact ⟨by first | rfl | rw [g1],rfl,HB2⟩
      ·have gz:decide (z2 < 0) = false:=dF hz;have CH:=zH (Y7 fA fc fr E.val V2 (HFV.out.below HB2.out) (by omega) (decide (E.val ∈ fr)) (zH rfl));go_wp2_with fail;refine CH.out.mono ?_;rintro e w2 ⟨rfl,rfl⟩;by_cases hm:E.val ∈ fr
       ·have gm:decide (E.val ∈ fr) = true:=Wi hm;rw [gm];by_cases h1 : 0 <= z1
        ·obtain rfl:bad = false:=(by rw [<- HBD.out];exact dF (fun h=>by rcases h with h | h;omega;have:=h.1;omega));have g1:decide (0 <= z1) = true:=Wi h1;clear HBD;go_wp2_with fail;go_meet;exact ⟨by first | rfl | rw [g1],rfl,HB2⟩
        ·obtain rfl:bad = true:=(by rw [<- HBD.out];exact Wi (.inr ⟨by omega,hm⟩));have g1:decide (0 <= z1) = false:=dF h1;clear HBD;go_wp2_with fail;go_meet;exact ⟨by first | rfl | rw [g1],rfl,HB2⟩
       ·have gm:decide (E.val ∈ fr) = false:=dF hm;rw [gm];obtain rfl:bad = false:=(by rw [<- HBD.out];exact dF (fun h=>by rcases h with h | h;omega;exact hm h.2));clear HBD;go_wp2_with fail;go_meet;exact ⟨by first | rfl | rw [g1],rfl,HB2⟩
     case rest=>
      obtain ⟨rfl,rfl,HB2⟩:=hcut;obtain ⟨V2,rfl⟩:∃ x,x = wc:=⟨_,rfl⟩;clear e1 e2 e3 e4 f0 f1 f2 b2 b3 b4 b5 b6 b7 HB1;cases bad with
      | true=>
       obtain rfl:=HR1.out rfl;clear HR1 HR2 HBD;go_wp2_with fail;go_ret;exact ⟨rfl,a,HMN.out.below HB2.out,RCh.of_below (HW9.out.trans (HB2.out.mono HW9.out.size))⟩
      | false=>
       obtain rfl:=HR2.out rfl;clear HR1 HR2 HBD;have HM2:=zH (HMN.out.below HB2.out);have HW2:Hid (Below w.heap.size w V2):=zH (HW9.out.trans (HB2.out.mono HW9.out.size));have HF2:=zH (HFV.out.below HB2.out);have HC2:Hid (∀ u,Below V2.heap.size V2 u -> u.cell? ⟨g8,0,none⟩ = some (.int .i64 fs) /\ u.cell? ⟨g8,1,none⟩ = some (.string fv) /\ u.cell? ⟨g8,2,none⟩ = some (.slice fA fr.length fc) /\ u.cell? ⟨g7,2,none⟩ = some (.bool s.L.neg) /\ u.cell? ⟨g7,3,none⟩ = some (.slice s.L.A s.L.N.length s.L.c) /\ u.cell? ⟨g7,4,none⟩ = some (.slice s.L.B s.L.D.length s.L.d) /\ u.cell? ⟨g7,5,none⟩ = some (.bool s.S.neg) /\ u.cell? ⟨g7,6,none⟩ = some (.slice s.S.A s.S.N.length s.S.c) /\ u.cell? ⟨g7,7,none⟩ = some (.slice s.S.B s.S.D.length s.S.d)):=zH (fun u hu=>HCV.out u (HB2.out.trans (hu.mono HB2.out.size)));have HE2:Hid (∀ u,Below V2.heap.size V2 u -> u.cell? ⟨w.heap.size,1,none⟩ = some (.string E.val) /\ u.cell? ⟨w.heap.size,2,none⟩ = some (.bool E.W.neg) /\ u.cell? ⟨w.heap.size,3,none⟩ = some (.slice E.W.A E.W.N.length E.W.c) /\ u.cell? ⟨w.heap.size,4,none⟩ = some (.slice E.W.B E.W.D.length E.W.d)):=zH (fun u hu=>HEC2.out u (HB2.out.trans (hu.mono HB2.out.size)));obtain ⟨i0,hi0,hy0,hy1,hy2⟩:=WaI Yt;have TI:=zH hi0;have TZ0:=zH hy0;have TZ1:=zH hy1;have TZ2:=zH hy2;clear hi0 hy0 hy1 hy2 HMN HW9 HFV HCV HEC2 HB2 HEV HOV HZ1 HZ2
       as_aux_lemma=>
       obtain ⟨-,-,f2,-⟩:=HC2.out V2 bR;go_wp2_with fail;go_loopw [10,11] (fun t10 t11 wr=>∃ (k:Nat) (A:Option Addr) (c:Nat) (L:List BA),k <= fr.length /\ t11 = .int .i64 k /\ t10 = .slice A L.length c /\ L.length <= k /\ Hid (L = wo E.val (fr.take k)) /\ Hid (wr.ownsRow V2.heap.size 9 1 (.slice A L.length c) L.length (sbs L)) /\ Hid (Below V2.heap.size V2 wr)) (fun _ t11 _=>fr.length - (intOf t11).toNat)
       case atStart=>exact ⟨0,none,0,[],by omega,rfl,rfl,by simp,zH rfl,zH (WJ _ _ _ _),zH bR⟩
       case round=>
        obtain ⟨k,A,c,L,hk,rfl,rfl,hLk,HL,HO,HBk⟩:=hrel;obtain ⟨Wr,rfl⟩:∃ X,X = wr:=⟨_,rfl⟩;have hsz:=HBk.out.size;clear f2;by_cases hlt:k < fr.length
        ·have hlt':(k:Int) < (fr.length:Int):=(by omega);obtain ⟨rb,ro,rfl,hrb,hrc⟩:=HF2.out (by simpa using Wa9 (WaU k) hlt);have hcr:=(HBk.out.cell (p:=⟨rb,ro + k,none⟩) hrb).trans (hrc k (.string fr[k]) (by simp [gE hlt]));obtain ⟨f0,f1,f2,-⟩:=HC2.out Wr HBk.out;obtain ⟨e1,-⟩:=HE2.out Wr HBk.out;have HT:Hid (fr.take (k + 1) = fr.take k ++ [fr[k]]):=zH (Wo hlt);generalize fr[k] = y at *
         clear hrc;by_cases hy:y = E.val
         ·have HN:Hid (L = wo E.val (fr.take (k + 1))):=zH (by rw [HT.out,UH,WA hy,Wa1];exact HL.out);have g1:(y.toList == E.val.toList) = true:=(by rw [hy];exact beq_self_eq_true _);have g2:(y.toList != E.val.toList) = false:=(by rw [bne,g1];rfl);clear hy HT HL;go_upto_region 17 with fail;go_quiet (fail);have HBN:Hid (Below V2.heap.size V2 (Wr.drewN nq)):=zH (HBk.out.trans (Jb _ _));have HON:Hid ((Wr.drewN nq).ownsRow V2.heap.size 9 1 (.slice A L.length c) L.length (sbs L)):=HO;go_wp2_with fail;exact ⟨⟨k + 1,A,c,L,by omega,by go_num,rfl,by omega,HN,HON,HBN⟩,by simp [intOf];omega⟩
         ·have HN:Hid (L ++ [y] = wo E.val (fr.take (k + 1))):=zH (by rw [HT.out,UH,Ww hy,<- HL.out]);have g1:(y.toList == E.val.toList) = false:=by
           rw [Wz,Wa2,Wa2];exact fun e=>hy (by cases y;cases hq:E.val;rw [hq] at e;simpa using e)
          have g2:(y.toList != E.val.toList) = true:=(by rw [bne,g1];rfl);clear hy HT HL;go_upto_region 17 with fail;go_quiet (fail);have HB9:Hid (Below V2.heap.size V2 (Wr.drewN nq)):=zH (HBk.out.trans (Jb _ _));have HO9:Hid ((Wr.drewN nq).ownsRow V2.heap.size 9 1 (.slice A L.length c) L.length (sbs L)):=HO;have hcr9:(Wr.drewN nq).cell? ⟨rb,ro + k,none⟩ = some (.string y):=hcr;have f29:(Wr.drewN nq).cell? ⟨g8,2,none⟩ = some (.slice (some ⟨rb,ro,none⟩) fr.length fc):=f2;have hsz9:V2.heap.size <= (Wr.drewN nq).heap.size:=hsz;clear HBk HO hcr f0 f1 f2 e1 hsz;generalize Wr.drewN nq = W9 at *
          go_wp2_with (at_builtin;refine Jf _ rfl (.tmp 91) (.tmp 97) _ rfl V2.heap.size 9 i0 _ 1 16 Tryz.underlying74 TI.out TZ0.out TZ1.out TZ2.out rfl (by omega) (.slice A L.length c) L.length (sbs L) rfl (HO9.out.alloc _) (some ⟨W9.heap.size,0,none⟩) 1 1 [.string y] rfl (fun e=>by cases e) (Yh _ _ _) (by simp) (by simp [Value.oneCell']) (by unfold maxLen;omega) (by omega) (by simp;omega) (L.length + 1) rfl ?_;intro A5 c5 w5 ho5 hg5 hn5;have HO5:=zH ho5;have HG5:=zH hg5;clear ho5 hg5 hn5);have hbn:Below W9.heap.size W9 (W9.alloc (.cells #[.string y] 9)):=bR.alloc nR _;have HB5:Hid (Below V2.heap.size V2 w5):=zH ((HB9.out.trans (hbn.mono HB9.out.size)).grown HG5.out (by simp;omega) (fun b hb=>((Jh HO9.out hbn).lt b hb).1));have HO6:Hid (w5.ownsRow V2.heap.size 9 1 (.slice A5 (L ++ [y]).length c5) (L ++ [y]).length (sbs (L ++ [y]))):=zH (by
           have h:=HO5.out;rw [WI];simpa using h)
          exact ⟨⟨k + 1,A5,c5,L ++ [y],by omega,by go_num,by simp,by simp;omega,HN,HO6,HB5⟩,by simp [intOf];omega⟩
        ·have hlt':¬ (k:Int) < (fr.length:Int):=(by omega);have HLE:Hid (L = wo E.val fr):=zH (by have h:=HL.out;rw [Wm (by omega)] at h;exact h);obtain ⟨f0,f1,f2,-⟩:=HC2.out Wr HBk.out;obtain ⟨e1,-⟩:=HE2.out Wr HBk.out;obtain ⟨Wn,hWn⟩:∃ X:World,X = Wr.alloc (.cells #[.int .i64 2,.string E.val,.slice A L.length c] 76):=⟨_,rfl⟩;have HXn:Hid (Wn.heap[Wr.heap.size]? = some (.cells #[.int .i64 2,.string E.val,.slice A L.length c] 76 (0,0))):=zH (by rw [hWn];exact Wg Wr _);have HBn:Hid (Below Wr.heap.size Wr Wn):=zH (by rw [hWn];exact bR.alloc nR _);go_upto_region 20 with fail;rw [<- hWn];clear hWn f0 f1 f2 e1;obtain ⟨f0,f1,f2,-⟩:=HC2.out Wn (HBk.out.trans (HBn.out.mono HBk.out.size));obtain ⟨e1,-⟩:=HE2.out Wn (HBk.out.trans (HBn.out.mono HBk.out.size));go_cut [9,132] from 53 (fun t9 t wx=>t = .bool cnd /\ wx = Wn)
         case first=>
          as_aux_lemma=>
          have hcd:=HCD.out;by_cases h3:fs = 3
          ·have q1:(fs == 3) = true:=(by rw [h3];rfl);have q2:(fs != 3) = false:=(by rw [h3];rfl);by_cases hv:fv = E.val
           ·have q3:(fv.toList == E.val.toList) = true:=(by rw [hv];exact beq_self_eq_true _);rw [Wi (.inl ⟨h3,hv⟩)] at hcd;subst hcd;clear h3 hv;go_wp2_with fail;go_meet;exact ⟨rfl,rfl⟩
           ·have q3:=VZ hv;rw [dF (fun h=>by rcases h with h | h;exact hv h.2;exact h.1 h3)] at hcd;subst hcd;clear h3 hv;go_wp2_with fail;go_meet;exact ⟨rfl,rfl⟩
          ·have q1:(fs == 3) = false:=Wz.2 h3;have q2:(fs != 3) = true:=WeU.2 h3;by_cases h1 : 0 <= z1
           ·have g1:decide (0 <= z1) = true:=Wi h1;rw [Wi (.inr ⟨h3,.inl h1⟩)] at hcd;subst hcd;clear h3 h1;go_wp2_with fail;go_meet;exact ⟨rfl,rfl⟩
           ·have g1:decide (0 <= z1) = false:=dF h1;by_cases h2:fs = 2
            ·have q4:(fs == 2) = true:=(by rw [h2];rfl);by_cases hv:fv = E.val
             ·have q3:(fv.toList == E.val.toList) = true:=(by rw [hv];exact beq_self_eq_true _);rw [Wi (.inr ⟨h3,.inr ⟨h2,hv⟩⟩)] at hcd;subst hcd;clear h3 h1 h2 hv;go_wp2_with fail;go_meet;exact ⟨rfl,rfl⟩
             ·have q3:=VZ hv;rw [dF (fun h=>by rcases h with h | ⟨-,h | h⟩;exact h3 h.1;exact h1 h;exact hv h.2)] at hcd;subst hcd;clear h3 h1 h2 hv;go_wp2_with fail;go_meet;exact ⟨rfl,rfl⟩
            ·have q4:(fs == 2) = false:=Wz.2 h2;rw [dF (fun h=>by rcases h with h | ⟨-,h | h⟩;exact h3 h.1;exact h1 h;exact h2 h.1)] at hcd;subst hcd;clear h3 h1 h2;go_wp2_with fail;go_meet;exact ⟨rfl,rfl⟩
         case rest=>
          obtain ⟨rfl,rfl⟩:=hcut;have HMw:=zH (HM2.out.below (HBk.out.trans (HBn.out.mono HBk.out.size)));have HOw:Hid (wc.ownsRow V2.heap.size 9 1 (.slice A L.length c) L.length (sbs L)):=zH (Jh HO.out HBn.out);have HBw:Hid (Below w.heap.size w wc):=zH (HW2.out.trans ((HBk.out.trans (HBn.out.mono HBk.out.size)).mono HW2.out.size));obtain ⟨x0,x1,x2⟩:wc.cell? ⟨Wr.heap.size,0,none⟩ = some (.int .i64 2) /\ wc.cell? ⟨Wr.heap.size,1,none⟩ = some (.string E.val) /\ wc.cell? ⟨Wr.heap.size,2,none⟩ = some (.slice A L.length c):=⟨(cR 0 HXn.out).trans rfl,(cR 1 HXn.out).trans rfl,(cR 2 HXn.out).trans rfl⟩;have x3:=Js HXn.out 0;have HYB:Hid (∀ b,blk A = some b -> V2.heap.size <= b /\ b < Wr.heap.size):=zH (fun b hb=>HO.out.lt b (by rw [Jm];exact hb));have HYN:Hid (A = none -> c = 0):=zH (Ua HO.out);have hvw:=HW2.out.size;have HSZw:Hid (Wr.heap.size < wc.heap.size /\ Wr.heap.size < (wc.setCell ⟨Wr.heap.size,0,none⟩ (.int .i64 3)).heap.size):=zH ⟨(aE HXn.out).1,by simpa using (aE HXn.out).1⟩;have HMs:Hid (RdM (wc.setCell ⟨Wr.heap.size,0,none⟩ (.int .i64 3)) a D):=zH (HM2.out.below ((HBk.out.trans (HBn.out.mono HBk.out.size)).setCell (by show V2.heap.size <= Wr.heap.size;exact hsz) _));have HOs:Hid (Lies (wc.setCell ⟨Wr.heap.size,0,none⟩ (.int .i64 3)) A (sbs L)):=zH (Lies.of_own (Jr HOw.out (JO (WaY wc (some Wr.heap.size)) (.inl rfl) _) (fun b hb e=>by
           have h:=(HYB.out b (by rw [<- Jm];exact hb)).2;injection e with e
           omega)))
          clear f0 f1 f2 e1 HM2 HW2 HF2 HC2 HE2 HO HBk;cases cnd with
          | true=>
           have HBs:Hid (Below w.heap.size w (wc.setCell ⟨Wr.heap.size,0,none⟩ (.int .i64 3))):=zH (HBw.out.setCell (by show w.heap.size <= Wr.heap.size;omega) _);have CU:=zH (Vg a D _ HMs.out k0 hkF hn ⟨3,E.val,A,c,L⟩ HOs.out HYN.out);go_wp2_with fail;refine CU.out.mono ?_;rintro e w9 ⟨rfl,g,c9,hg9,hM9,hG9⟩;go_wp2_with fail;go_ret;exact ⟨rfl,a.set g c9 k0 ⟨3,E.val,A,c,L⟩,by rw [<- HLE.out];exact hM9,RCh.of_set HBs.out hG9 hg9 (fun b hb=>.inr (by have:=HYB.out b hb;have:=HSZw.out;omega))⟩
          | false=>
           have CU:=zH (Vg a D wc HMw.out k0 hkF hn ⟨2,E.val,A,c,L⟩ (Lies.of_own HOw.out) HYN.out);go_wp2_with fail;refine CU.out.mono ?_;rintro e w9 ⟨rfl,g,c9,hg9,hM9,hG9⟩;go_wp2_with fail;go_ret;exact ⟨rfl,a.set g c9 k0 ⟨2,E.val,A,c,L⟩,by rw [<- HLE.out];exact hM9,RCh.of_set HBw.out hG9 hg9 (fun b hb=>.inr (by have:=HYB.out b hb;have:=HSZw.out;omega))⟩
theorem Zju {t:TypeId} {w:World} {k:Nat} {u0 u1 u2 u3 u4:Value} (h:w.heap[k]? = some (.cells #[u0,u1,u2,u3,u4] t (0,0))) (v0 v1 v2 v3 v4:Value):(((((w.setCell ⟨k,0,none⟩ v0).setCell ⟨k,1,none⟩ v1).setCell ⟨k,2,none⟩ v2).setCell ⟨k,3,none⟩ v3).setCell ⟨k,4,none⟩ v4).heap[k]? = some (.cells #[v0,v1,v2,v3,v4] t (0,0)):=by
 have h0:(w.setCell ⟨k,0,none⟩ v0).heap[k]? = some (.cells #[v0,u1,u2,u3,u4] t (0,0)):=(JE h 0 _).trans rfl;have h1:((w.setCell ⟨k,0,none⟩ v0).setCell ⟨k,1,none⟩ v1).heap[k]? = some (.cells #[v0,v1,u2,u3,u4] t (0,0)):=(JE h0 1 _).trans rfl;have h2:(((w.setCell ⟨k,0,none⟩ v0).setCell ⟨k,1,none⟩ v1).setCell ⟨k,2,none⟩ v2).heap[k]? = some (.cells #[v0,v1,v2,u3,u4] t (0,0)):=(JE h1 2 _).trans rfl;have h3:((((w.setCell ⟨k,0,none⟩ v0).setCell ⟨k,1,none⟩ v1).setCell ⟨k,2,none⟩ v2).setCell ⟨k,3,none⟩ v3).heap[k]? = some (.cells #[v0,v1,v2,v3,u4] t (0,0)):=(JE h2 3 _).trans rfl;have h4:(((((w.setCell ⟨k,0,none⟩ v0).setCell ⟨k,1,none⟩ v1).setCell ⟨k,2,none⟩ v2).setCell ⟨k,3,none⟩ v3).setCell ⟨k,4,none⟩ v4).heap[k]? = some (.cells #[v0,v1,v2,v3,v4] t (0,0)):=(JE h3 4 _).trans rfl;exact h4
theorem Zjz {b k:Nat} {w0 w:World} (h:Below b w0 w) (hk:b <= k) (v0 v1 v2 v3 v4:Value):Below b w0 (((((w.setCell ⟨k,0,none⟩ v0).setCell ⟨k,1,none⟩ v1).setCell ⟨k,2,none⟩ v2).setCell ⟨k,3,none⟩ v3).setCell ⟨k,4,none⟩ v4):=
 (((((h).setCell (p:=⟨k,0,none⟩) hk _).setCell (p:=⟨k,1,none⟩) hk _).setCell (p:=⟨k,2,none⟩) hk _).setCell (p:=⟨k,3,none⟩) hk _).setCell (p:=⟨k,4,none⟩) hk _
theorem QO (a:RdA) (D:PDl) (w:World) (h:RdM w a D) (hK:StdK D) (hn:a.Fm.length <= 1000000):Calls Tryz.prog 82 #[.pointer (some ⟨a.q,0,none⟩)] w fun e w'=>e = .returned (.agg #[.slice a.LA a.Fm.length a.lc,.int .i64 D.bad,.bool (D.stand == 1),.bool (D.stand == 2),.int .i64 D.cuts]) /\ Below w.heap.size w w':=by
 obtain ⟨W0,hW0⟩:∃ W0:World,W0 = w.alloc (.cells #[.slice none 0 0,.int .i64 0,.bool false,.bool false,.int .i64 0] 65):=⟨_,rfl⟩;have HB0:Hid (Below w.heap.size w W0):=zH (by rw [hW0];exact bR.alloc nR _);have HX0:Hid (W0.heap[w.heap.size]? = some (.cells #[.slice none 0 0,.int .i64 0,.bool false,.bool false,.int .i64 0] 65 (0,0))):=zH (by rw [hW0];exact Wg w _);have HM:=zH (h.below HB0.out);obtain ⟨R,hR⟩:∃ R,Vb D.F = R:=⟨_,rfl⟩;have CA:=zH (Zan a D W0.drew (HM.out.below (Wp _ W0).drew) hn R (zH hR));have HS:Hid (decide (R < 0) = (D.stand == 1)):=zH (by
  rw [<- hR];by_cases h1:D.stand = 1
  ·rw [Wi (hK.2.1.1 h1),h1];rfl
  ·rw [dF (fun e=>h1 (hK.2.1.2 e)),Wz.2 h1])
 obtain ⟨-,-,-,-,c4,c5,c6,c7,c8⟩:=HM.out.cells;have d0:W0.cell? ⟨w.heap.size,0,none⟩ = some (.slice none 0 0):=(cR 0 HX0.out).trans rfl;have d1:W0.cell? ⟨w.heap.size,1,none⟩ = some (.int .i64 0):=(cR 1 HX0.out).trans rfl;have d2:W0.cell? ⟨w.heap.size,2,none⟩ = some (.bool false):=(cR 2 HX0.out).trans rfl;have d3:W0.cell? ⟨w.heap.size,3,none⟩ = some (.bool false):=(cR 3 HX0.out).trans rfl;have d4:W0.cell? ⟨w.heap.size,4,none⟩ = some (.int .i64 0):=(cR 4 HX0.out).trans rfl;have f0:=Js HX0.out 0;have f1:=Js HX0.out 1;have f2:=Js HX0.out 2;have f3:=Js HX0.out 3;have f4:=Js HX0.out 4;clear h hR hK;go_enter Tryz.func82,Tryz.ntmps82;go_upto_region 1 with fail;rw [<- hW0];clear hW0;go_still_tail 20,(by kernel_rfl);still_call CA.out;repeat still_step
 refine wpStill_nil ?_;go_wp2_with fail;rw [HS.out];have hr:(((((W0.setCell ⟨w.heap.size,0,none⟩ (.slice a.LA a.Fm.length a.lc)).setCell ⟨w.heap.size,1,none⟩ (.int .i64 D.bad)).setCell ⟨w.heap.size,2,none⟩ (.bool (D.stand == 1))).setCell ⟨w.heap.size,3,none⟩ (.bool (D.stand == 2))).setCell ⟨w.heap.size,4,none⟩ (.int .i64 D.cuts)).drew.heap[w.heap.size]? = some (.cells #[.slice a.LA a.Fm.length a.lc,.int .i64 D.bad,.bool (D.stand == 1),.bool (D.stand == 2),.int .i64 D.cuts] 65 (0,0)):=Zju HX0.out _ _ _ _ _;have g0:=(cR 0 hr).trans rfl;have g1:=(cR 1 hr).trans rfl;have g2:=(cR 2 hr).trans rfl;have g3:=(cR 3 hr).trans rfl;have g4:=(cR 4 hr).trans rfl;refine WB (v:=.agg #[.slice a.LA a.Fm.length a.lc,.int .i64 D.bad,.bool (D.stand == 1),.bool (D.stand == 2),.int .i64 D.cuts]) (by simp [results,Tryz.results82,go_sem,g0,g1,g2,g3,g4]) rfl ?_;exact ⟨rfl,(Zjz HB0.out nR _ _ _ _ _).drew⟩
end Go.Proofs.YtcjicjfbippmnaaGreat
