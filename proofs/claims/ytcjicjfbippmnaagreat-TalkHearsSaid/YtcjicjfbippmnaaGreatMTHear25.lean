/- TalkHears -/
import Derived.Test.YtcjicjfbippmnaaGreatMTHear24
import Derived.DeepKeys4
import Derived.RangeFuncNested
import Derived.RangeFuncBound
import Derived.Maps.OwnIn
import Derived.Shelf.RegionOpen
import Derived.LoopNIn
import Derived.LoopIn
set_option maxRecDepth 100000
set_option maxHeartbeats 32000000
namespace Go.Proofs.YtcjicjfbippmnaaGreat
open Go.RowKit Ear

theorem Zbi (g o:Nat) (ho:o <= 4) (W:World):(Instr.sliceAt 203 (.pointer (some ⟨g,0,none⟩)) none (some (.int .i64 (o:Int))) none).run Tryz.prog W = .ok (.slice (some ⟨g,0,none⟩) o 4) W:=by
 have e0:Tryz.prog.elem 203 = 3:=by kernel_rfl
 have e1:Tryz.prog.arrayLen 203 = 4:=by kernel_rfl
 have h2:(o:Int) <= (Tryz.prog.arrayLen 203:Nat):=by rw [e1];omega
 rw [run_sliceAt_array_h (t:=203) (a:=⟨g,0,none⟩) (ht:=by rw [e0,e1];exact Tryz.underlying203) (kh:=.i64) (h:=o) (h0:=by omega) (h2:=h2),e0,e1];have hs:(sizeOf 3).run Tryz.prog W = .ok 1 W:=by kernel_rfl
 rw [hs];simp [Result.andThen,slicedAt,Addr.add]
def Zjs (k8 base:Nat) (o v:Int) (m:List (K4 × Int)) (on:Nat) (idx:List Nat) (W:World):Prop:=
 ∃ A c L,W.heap[k8]? = some (.cells #[.int .i64 o,.int .i64 v,.slice A (L:List Gm).length c] 84 (0,0)) /\ GLo W base A c L /\ Jp L = (Zgq m ((0,0,0,0),0) idx).map (fun p=>(gmW on p.1,p.2))
def Qv (m:List (K4 × Int)):Int:=if 20000 < m.length then 5 else if ∃ p ∈ m,1073741824 < p.2 then 2 else 0
def RetCol (o:Nat) (v:Int) (m:List (K4 × Int)) (w:World) (e:Ending) (w':World):Prop:=
 Below w.heap.size w w' /\ if Qv m = 0 then ∃ A c L,e = .returned (.tuple #[.agg #[.int .i64 o,.int .i64 v,.slice A (L:List Gm).length c],.int .i64 0]) /\ GLo w' w.heap.size A c L /\ (Jp L).Perm (m.map fun p=>(gmW o p.1,p.2)) /\ L.Pairwise (fun x y=>¬ Xm y.1.2.2 x.1.2.2 < 0)
  else e = .returned (.tuple #[.agg #[.int .i64 0,.int .i64 0,.slice none 0 0],.int .i64 (Qv m)])
theorem VD (w:World) (u v:Value) (t:TypeId):Lies (w.alloc (.cells #[u,v] t)) (some ⟨w.heap.size,0,none⟩) [u,v]:=fun _=>
 ⟨w.heap.size,0,rfl,by simp,fun k x hx=>by rw [WH,Wx _ _ k _ _ _ (Wg w _)];simpa using hx⟩
theorem Ziy {k:K4} (h:kOk k):∀ y ∈ kws k,-9223372036854775808 <= y /\ y <= 9223372036854775807:=by
 obtain ⟨h0,h1,h2,h3⟩:=h;intro y hy;simp [kws] at hy;rcases hy with rfl | rfl | rfl | rfl <;> omega
theorem _root_.Go.MapIt.ne_bt {κ ν : Type} {P:Program} {K:TypeId} {ek : κ -> Value} {ev : ν -> Value} {w:World} {b r x:Nat} {e:TypeId} {m:List (κ × ν)} {idx:List Nat} (h:MapIt P K ek ev w b r m idx) (hx:BT w x e):x ≠ r:=by
 rintro rfl;obtain ⟨es,c,s,seen,c0,h1,h2,h3,h4,_⟩:=h.st;obtain ⟨cs,fz,hb⟩:=hx;rw [h4] at hb;cases hb
theorem QE (o:Nat) (v:Int) (bm:Nat) (m:List (K4 × Int)) (w:World) (hm:MI w bm m) (ho1 : 1 <= o) (ho2:o <= 4) (hml:m.length <= 20000) (hk:Hid (∀ p ∈ m,kOk p.1)) (hv:Hid (∀ p ∈ m,0 <= p.2 /\ p.2 <= 9223372036854775807)) :
  Calls Tryz.prog 158 #[.int .i64 o,.int .i64 v,.map (some bm)] w (RetCol o v m w):=by
 obtain ⟨i0,hi0,hz0,hz1,hz2⟩:=WaI Qa;have TI:=zH hi0;have TZ0:=zH hz0;have TZ1:=zH hz1;have TZ2:=zH hz2;obtain ⟨j0,hj0,hy0,hy1,hy2⟩:=WaI Za;have KI:=zH hj0;have KZ0:=zH hy0;have KZ1:=zH hy1;have KZ2:=zH hy2;clear hi0 hz0 hz1 hz2 hj0 hy0 hy1 hy2;obtain ⟨W,hW⟩:∃ W:World,W = w.alloc (.cells #[.int .i64 0,.int .i64 0,.slice none 0 0] 84):=⟨_,rfl⟩;have hWs:W.heap.size = w.heap.size + 1:=by rw [hW];simp
 have HB0:Hid (Below w.heap.size w W):=zH (by rw [hW];exact bR.alloc nR _);have HMW:=zH (hm.below HB0.out);have hlen:∀ ty,(Builtin.len_ #[198] ty #[.map (some bm)]).run Tryz.prog (w.alloc (.cells #[.int .i64 0,.int .i64 0,.slice none 0 0] 84)) = .ok (.int .i64 (m.length:Int)) (w.alloc (.cells #[.int .i64 0,.int .i64 0,.slice none 0 0] 84)):=fun ty=>by rw [<- hW];exact MI.len HMW.out ty
 go_enter Tryz.func158,Tryz.ntmps158;go_upto_region 4 with fail;obtain ⟨V,hV⟩:∃ V:World,V = (w.alloc (.cells #[.int .i64 0,.int .i64 0,.slice none 0 0] 84)).alloc (.cells #[.int .i64 o,.int .i64 v,.slice none 0 0] 84):=⟨_,rfl⟩;have hVs:V.heap.size = w.heap.size + 2:=by rw [hV];simp
 have HBV:Hid (Below w.heap.size w V):=zH (by rw [hV];exact al2 w _ _);have HMV:=zH (hm.below HBV.out);have HR6:Hid (V.heap[w.heap.size]? = some (.cells #[.int .i64 0,.int .i64 0,.slice none 0 0] 84 (0,0))):=zH (by rw [hV];exact (WaC _ _ _ (by simp)).trans (Wg w _));have HR8:Hid (V.heap[w.heap.size + 1]? = some (.cells #[.int .i64 o,.int .i64 v,.slice none 0 0] 84 (0,0))):=zH (by rw [hV];have:=Wg (w.alloc (.cells #[.int .i64 0,.int .i64 0,.slice none 0 0] 84)) (.cells #[.int .i64 o,.int .i64 v,.slice none 0 0] 84);simpa using this);rw [<- hV];clear hV hlen hW HMW HB0 hWs;have hbm:bm < w.heap.size:=hm.lt;obtain ⟨oit,hrun,hit0⟩:=MapIs.range HMV.out Tryz.underlying198;have hit0':=zH hit0;go_wp2_with fail;obtain ⟨V1,hV1⟩:∃ V1:World,V1 = V.alloc oit:=⟨_,rfl⟩;have HB1:Hid (Below V.heap.size V V1):=zH (by rw [hV1];exact bR.alloc nR _);have HIT0:Hid (MapIt Tryz.prog 203 ek (Value.int .i64) V1 bm (w.heap.size + 2) m []):=zH (by rw [hV1,<- hVs];exact hit0'.out);have hV1s:V1.heap.size = w.heap.size + 3:=by rw [hV1];simp;omega
 have HBW:Hid (Below w.heap.size w V1):=zH (HBV.out.trans (HB1.out.mono HBV.out.size));have HC0:Hid (Zjs (w.heap.size + 1) (w.heap.size + 3) o v m o [] V1):=zH ⟨none,0,[],(HB1.out.block _ (by omega)).trans HR8.out,GLo.nil _ _,rfl⟩;have H60:Hid (V1.heap[w.heap.size]? = some (.cells #[.int .i64 0,.int .i64 0,.slice none 0 0] 84 (0,0))):=zH ((HB1.out.block _ (by omega)).trans HR6.out);rw [<- hV1];have HS0:Hid (∀ i ∈ ([]:List Nat),(m[i]?.getD ((0,0,0,0),0)).2 <= 1073741824):=zH (by simp);clear hV1 hrun hit0 hit0' HR6 HR8 HMV HB1 HBV;go_loopw [23] (fun _ wr=>∃ idx,Hid (MapIt Tryz.prog 203 ek (Value.int .i64) wr bm (w.heap.size + 2) m idx) /\ Hid (Zjs (w.heap.size + 1) (w.heap.size + 3) o v m o idx wr) /\ Hid (wr.heap[w.heap.size]? = some (.cells #[.int .i64 0,.int .i64 0,.slice none 0 0] 84 (0,0))) /\ Hid (Below w.heap.size w wr) /\ Hid (∀ i ∈ idx,(m[i]?.getD ((0,0,0,0),0)).2 <= 1073741824) /\ w.heap.size + 3 <= wr.heap.size) (fun _ wr=>Zbs wr bm (w.heap.size + 2))
 case atStart=>exact ⟨[],HIT0,HC0,H60,HBW,HS0,by omega⟩
 case round=>
  obtain ⟨idx,HIT,HCI,H6,HB,HS,hws⟩:=hrel;clear HIT0 HC0 H60 HBW HS0;obtain ⟨W0,rfl⟩:∃ X,X = wr:=⟨_,rfl⟩;rcases HIT.out.next ((0,0,0,0),0) 0 with ⟨hperm,hrun⟩ | ⟨i,w1,hi,hni,hrun,hit1,hen,hgr,hsz⟩
  ·have HP:=zH hperm;clear hperm;obtain ⟨A,c,L,hk8,hL,htb⟩:=HCI.out;have HK8:=zH hk8;have HL:=zH hL;have HTB:=zH htb;have k82:W0.cell? ⟨w.heap.size + 1,2,none⟩ = some (.slice A L.length c):=(Wx W0 _ 2 _ _ _ hk8).trans rfl;clear hk8 hL htb;go_wp2_with fail;have hLl:L.length = idx.length:=(by have:=WaF List.length HTB.out;simpa [Zgq] using this);have hLm:idx.length <= m.length:=HIT.out.len_le;refine (Zee A c (w.heap.size + 3) L W0 HL.out (by omega)).mono ?_;rintro e w6 ⟨rfl,L',hp',hs',hL',hg'⟩;have hlen:L'.length = L.length:=hp'.length_eq;have hown:∀ b,(Value.slice A L.length c).ownBlock = some b -> w.heap.size + 3 <= b:=fun b e=>(HL.out.row.lt b e).1;have HBL:∀ b,b < w.heap.size + 3 -> w6.heap[b]? = W0.heap[b]?:=fun b hb=>hg'.block _ (by omega) (fun e=>by have:=hown b e.symm;omega);have h66:w6.heap[w.heap.size]? = some (.cells #[.int .i64 0,.int .i64 0,.slice none 0 0] 84 (0,0)):=(HBL _ (by omega)).trans H6.out;have h68:w6.heap[w.heap.size + 1]? = some (.cells #[.int .i64 o,.int .i64 v,.slice A L.length c] 84 (0,0)):=(HBL _ (by omega)).trans HK8.out;have hb6:Below w.heap.size w w6:=HB.out.grown hg' (by omega) (fun k e=>by have:=hown k e;omega);have H66:=zH h66;have HB6:=zH hb6;have HR:Hid (Qv m = 0):=zH (by
    unfold Qv;rw [Ww (by omega),Ww];rintro ⟨p,hp,hb⟩;have:=HP.out.mem_iff.2 hp;unfold Zgq at this;obtain ⟨q,hq,e⟩:=WaO.1 this;have:=HS.out q hq;rw [e] at this;omega)
   have e0:=(cR 0 h68).trans rfl;have e1:=(cR 1 h68).trans rfl;have e2:=(cR 2 h68).trans rfl;have d0:=(cR 0 h66).trans rfl;have d1:=(cR 1 h66).trans rfl;have d2:=(cR 2 h66).trans rfl;have f0:=Js h66 0;have f1:=Js h66 1;have f2:=Js h66 2;have HP':=zH hp';have HS':=zH hs';have HL':=zH hL';have HLEN:=zH hlen;clear h66 h68 hb6 hp' hs' hL' hg' HBL hown hlen hLl hLm;go_wp2_with fail;have hr6:=ZcE H66.out (.int .i64 o) (.int .i64 v) (.slice A L.length c);have g0:=(cR 0 hr6).trans rfl;have g1:=(cR 1 hr6).trans rfl;have g2:=(cR 2 hr6).trans rfl;refine WB (v:=.tuple #[.agg #[.int .i64 o,.int .i64 v,.slice A L.length c],.int .i64 0]) (by simp [results,Tryz.results158,go_sem,g0,g1,g2]) rfl ?_;refine ⟨((HB6.out.setCell nR _).setCell nR _).setCell nR _,?_⟩;rw [WA HR.out];refine ⟨A,c,L',by rw [HLEN.out],(HL'.out.block (by simp [World.setCell]) fun b hb=>?_).le (by omega),?_,HS'.out.imp (fun h=>by omega)⟩
   ·refine J9 ?_ _ _ _;rcases hb with hb | hb
    ·exact hb.ne ⟨_,_,H66.out⟩ (by decide)
    ·exact hb.1.ne ⟨_,_,H66.out⟩ (by decide)
   ·have h1:(Jp L').Perm (Jp L):=HP'.out.map _;refine h1.trans ?_;rw [HTB.out];exact HP.out.map _
  ·have HKI:Hid (kOk (m[i]?.getD ((0,0,0,0),0)).1):=zH (hk.out _ (by rw [gE hi];exact gM hi));have HVI:Hid (0 <= (m[i]?.getD ((0,0,0,0),0)).2 /\ (m[i]?.getD ((0,0,0,0),0)).2 <= 9223372036854775807):=zH (hv.out _ (by rw [gE hi];exact gM hi));have HSN:Hid ((m[i]?.getD ((0,0,0,0),0)).2 <= 1073741824 -> ∀ j ∈ idx ++ [i],(m[j]?.getD ((0,0,0,0),0)).2 <= 1073741824):=zH (fun h j hj=>by
    rcases WY.1 hj with hj | hj
    ·exact HS.out j hj
    ·rw [WS] at hj;subst hj;exact h)
   have HBIG:Hid (1073741824 < (m[i]?.getD ((0,0,0,0),0)).2 -> ∃ p ∈ m,1073741824 < p.2):=zH (fun h=>⟨_,by rw [gE hi];exact gM hi,h⟩);have HGT:Hid (Zgq m ((0,0,0,0),0) (idx ++ [i]) = Zgq m ((0,0,0,0),0) idx ++ [m[i]?.getD ((0,0,0,0),0)]):=zH (by simp [Zgq]);generalize m[i]?.getD ((0,0,0,0),0) = p at *
   obtain ⟨⟨k0,k1,k2,k3⟩,n⟩:=p;simp only [ek] at hrun hen;simp only at *
   have H1IT:=zH hit1;have HLE:Hid (Zbs w1 bm (w.heap.size + 2) < Zbs W0 bm (w.heap.size + 2)):=zH (by rw [hit1.left_eq,HIT.out.left_eq];have h9:=hit1.len_le;simp at h9 ⊢;omega);have HGR:=zH hgr;have hw1:w.heap.size + 3 <= w1.heap.size:=(by omega);have h6w:w1.heap[w.heap.size]? = some (.cells #[.int .i64 0,.int .i64 0,.slice none 0 0] 84 (0,0)):=(hgr.block _ (by omega) (by intro e;injection e with e;omega)).trans H6.out;have H6w:=zH h6w;have HVI':=HVI.out;have hsl:∀ W,(Instr.sliceAt 203 (.pointer (some ⟨w1.heap.size,0,none⟩)) none (some (.int .i64 (o:Int))) none).run Tryz.prog W = .ok (.slice (some ⟨w1.heap.size,0,none⟩) o 4) W:=fun W=>Zbi w1.heap.size o ho2 W;have HSZ:=zH hsz;clear hit1 hgr h6w hi hni hsz;by_cases hbig : 1073741824 < n
   ·have H6a:Hid ((w1.alloc (.cells #[.int .i64 k0,.int .i64 k1,.int .i64 k2,.int .i64 k3] 203)).heap[w.heap.size]? = some (.cells #[.int .i64 0,.int .i64 0,.slice none 0 0] 84 (0,0))):=zH ((WaC _ _ _ (by omega)).trans H6w.out);have d0:=(cR 0 H6a.out).trans rfl;have d1:=(cR 1 H6a.out).trans rfl;have d2:=(cR 2 H6a.out).trans rfl;have f0:=Js H6a.out 0;have f1:=Js H6a.out 1;have f2:=Js H6a.out 2;have hr:Qv m = 2:=by
     unfold Qv;rw [Ww (by omega),WA (HBIG.out hbig)]
    have hbl:Below w.heap.size w (w1.alloc (.cells #[.int .i64 k0,.int .i64 k1,.int .i64 k2,.int .i64 k3] 203)):=(HB.out.trans (Below.of_only HGR.out HB.out.size (by omega))).alloc (by omega) _;have HR:=zH hr;have HBL:=zH hbl;clear hr hbl;go_wp2_with fail;have hr6:=ZcE H6a.out (.int .i64 0) (.int .i64 0) (.slice none 0 0);have g0:=(cR 0 hr6).trans rfl;have g1:=(cR 1 hr6).trans rfl;have g2:=(cR 2 hr6).trans rfl;refine WB (v:=.tuple #[.agg #[.int .i64 0,.int .i64 0,.slice none 0 0],.int .i64 2]) (by simp [results,Tryz.results158,go_sem,g0,g1,g2]) rfl ?_;refine ⟨((HBL.out.setCell nR _).setCell nR _).setCell nR _,?_⟩;rw [Ww (by rw [HR.out];omega),HR.out]
   ·go_wp2_with fail;obtain ⟨V2,hV2⟩:∃ V2:World,V2 = (w1.alloc (.cells #[.int .i64 k0,.int .i64 k1,.int .i64 k2,.int .i64 k3] 203)).alloc (.cells #[.slice none 0 0,.int .i64 n] 114):=⟨_,rfl⟩;have hV2s:V2.heap.size = w1.heap.size + 2:=(by rw [hV2];simp);have HB2:Hid (Below w1.heap.size w1 V2):=zH (by rw [hV2];exact al2 w1 _ _);have HKB:Hid (V2.heap[w1.heap.size]? = some (.cells #[.int .i64 k0,.int .i64 k1,.int .i64 k2,.int .i64 k3] 203 (0,0))):=zH (by rw [hV2];exact (WaC _ _ _ (by simp)).trans (Wg w1 _));have HGB:Hid (V2.heap[w1.heap.size + 1]? = some (.cells #[.slice none 0 0,.int .i64 n] 114 (0,0))):=zH (by rw [hV2];have:=Wg (w1.alloc (.cells #[.int .i64 k0,.int .i64 k1,.int .i64 k2,.int .i64 k3] 203)) (.cells #[.slice none 0 0,.int .i64 n] 114);simpa using this);rw [<- hV2];clear hV2;have HKW:Hid (∀ j,j < 4 -> (kws (k0,k1,k2,k3))[j]?.getD 0 = ([k0,k1,k2,k3][j]?.getD 0) - 1 /\ 0 <= [k0,k1,k2,k3][j]?.getD 0 /\ [k0,k1,k2,k3][j]?.getD 0 <= 1000001):=zH (fun j hj=>by
     obtain ⟨q0,q1,q2,q3⟩:=HKI.out;simp only at q0 q1 q2 q3;rcases (show j = 0 ∨ j = 1 ∨ j = 2 ∨ j = 3 by omega) with rfl | rfl | rfl | rfl <;> simp [kws] <;> omega)
    have HTK:Hid (∀ j,j < 4 -> (kws (k0,k1,k2,k3)).take (j + 1) = (kws (k0,k1,k2,k3)).take j ++ [(kws (k0,k1,k2,k3))[j]?.getD 0]):=zH (fun j hj=>by
     have hj':j < (kws (k0,k1,k2,k3)).length:=(by simp [kws];exact hj);rw [Wo hj',gE hj'];rfl)
    have HRF:Hid (Below (w1.heap.size + 1) V2 V2):=zH ⟨rfl,rfl,rfl,WK _,fun _ _=>rfl⟩;go_loopw [36] (fun i wr=>∃ j:Nat,j <= o /\ i = .int .i64 j /\ ∃ A' c',Hid (wr.heap[w1.heap.size + 1]? = some (.cells #[.slice A' j c',.int .i64 n] 114 (0,0))) /\ Hid (wr.ownsRow (w1.heap.size + 2) 3 1 (.slice A' j c') j (ics ((kws (k0,k1,k2,k3)).take j))) /\ Hid (Below (w1.heap.size + 1) V2 wr) /\ V2.heap.size <= wr.heap.size) (fun i _=>o - (intOf i).toNat)
    case atStart=>exact ⟨0,by omega,rfl,none,0,HGB,zH (WJ _ _ _ _),HRF,WK _⟩
    case round=>
     obtain ⟨j,hj,rfl,A',c',HG,HO,HBj,hsj⟩:=hrel;clear HRF;have HKj:Hid (wr.heap[w1.heap.size]? = some (.cells #[.int .i64 k0,.int .i64 k1,.int .i64 k2,.int .i64 k3] 203 (0,0))):=zH ((HBj.out.block _ (by omega)).trans HKB.out);have c0:wr.cell? ⟨w1.heap.size + 1,0,none⟩ = some (.slice A' j c'):=(by rw [Wx wr _ 0 _ _ _ HG.out];rfl);have c1:wr.cell? ⟨w1.heap.size + 1,1,none⟩ = some (.int .i64 n):=(by rw [Wx wr _ 1 _ _ _ HG.out];rfl);by_cases hlt:j < o
     ·have hxj:=HKW.out j (by omega);have hcj:wr.cell? ⟨w1.heap.size,j,none⟩ = some (.int .i64 ([k0,k1,k2,k3][j]?.getD 0)):=by
       rw [Wx wr _ j _ _ _ HKj.out];rcases (show j = 0 ∨ j = 1 ∨ j = 2 ∨ j = 3 by omega) with rfl | rfl | rfl | rfl <;> rfl
      have HTj:=zH (HTK.out j (by omega));obtain ⟨e1,e2,e3⟩:=hxj;rw [e1] at HTj;clear e1;generalize [k0,k1,k2,k3][j]?.getD 0 = x at *
      have p1:IntKind.i64.wrap (x - 1) = x - 1:=WM _ (by omega);go_wp2_with (at_builtin;refine Jf _ rfl (.tmp 41) (.tmp 44) _ rfl (w1.heap.size + 2) 3 j0 _ 1 8 Tryz.underlying40 KI.out KZ0.out KZ1.out KZ2.out rfl (by omega) (.slice A' j c') j (ics ((kws (k0,k1,k2,k3)).take j)) rfl (HO.out.alloc _) (some ⟨wr.heap.size,0,none⟩) 1 1 [.int .i64 (x - 1)] rfl (fun e=>by cases e) (Yh _ _ _) (by simp) (by simp [Value.oneCell']) (by unfold maxLen;omega) (by omega) (by simp;omega) (j + 1) rfl ?_;intro A4 c4 w4 ho4 hg4 _;have HG4:Hid (w4.heap[w1.heap.size + 1]? = some (.cells #[.slice A' j c',.int .i64 n] 114 (0,0))):=zH ((hg4.block _ (by simp <;> omega) (fun e=>by have:=((HO.out.alloc (.cells #[.int .i64 (x - 1)] 3)).lt _ e.symm).1;omega)).trans ((WaC wr _ _ (by omega)).trans HG.out));have d0:w4.cell? ⟨w1.heap.size + 1,0,none⟩ = some (.slice A' j c'):=(Wx w4 _ 0 _ _ _ HG4.out).trans rfl;have d1:w4.frozen? ⟨w1.heap.size + 1,0,none⟩ = false:=Js HG4.out 0;have HO4:=zH ho4;have HGR4:=zH hg4;clear ho4 hg4);refine ⟨⟨j + 1,by omega,by go_num,A4,c4,zH ?_,zH ?_,zH ?_,?_⟩,by simp [intOf];omega⟩
      ·exact (JE HG4.out 0 _).trans rfl
      ·rw [HTj.out,YY];exact JU HO4.out (by simp) _
      ·exact ((HBj.out.alloc (by omega) _).grown HGR4.out (by simp;omega) (fun k e=>by have:=((HO.out.alloc (.cells #[.int .i64 (x - 1)] 3)).lt _ e).1;omega)).setCell nR _
      ·have:=HGR4.out.size;simp at this ⊢;omega
     ·obtain rfl:j = o:=(by omega);have HBW1:Hid (Below w1.heap.size w1 wr):=zH (HB2.out.trans (HBj.out.mono (by omega)));obtain ⟨A,c,L,hk8,hL,htb⟩:=HCI.out;have HK8:Hid (wr.heap[w.heap.size + 1]? = some (.cells #[.int .i64 j,.int .i64 v,.slice A L.length c] 84 (0,0))):=zH ((HBW1.out.block _ (by omega)).trans ((HGR.out.block _ (by omega) (by intro e;injection e with e;omega)).trans hk8));have HGL:Hid (GLo wr (w.heap.size + 3) A c L):=zH ((hL.block (w':=w1) (Nat.le_of_eq HSZ.out.symm) (fun b hb=>HGR.out.block _ (by rcases hb with hb | hb;exact hb.lt;exact hb.1.lt) (by intro e;injection e with e;subst e;rcases hb with hb | hb;exact HIT.out.ne_bt hb rfl;exact HIT.out.ne_bt hb.1 rfl))).below HBW1.out);have HIW:Hid (InT wr (A',c',gmW j (k0,k1,k2,k3))):=zH (InT.of_own HO.out (by simp [gmW,kws];omega) (by have:=ho2;omega) (fun y hy=>Ziy HKI.out y (WbX hy)));have hwl:(gmW j (k0,k1,k2,k3)).length = j:=(by simp [gmW,kws];omega);have hLl:L.length = idx.length:=(by have:=WaF List.length htb;simpa [Zgq] using this);have hLm:idx.length + 1 <= m.length:=(by have:=H1IT.out.len_le;simpa using this);have HTB:=zH htb;clear hk8 hL htb HO HBj HG HKj HKB HGB HB2 HKW HTK;have kk2:wr.cell? ⟨w.heap.size + 1,2,none⟩ = some (.slice A L.length c):=(Wx wr _ 2 _ _ _ HK8.out).trans rfl;have HLL:=zH hLl;have HLM:=zH hLm;have HWL:=zH hwl;clear hLl hLm hwl;go_wp2_with (at_builtin;refine Jf _ rfl (.tmp 49) (.tmp 51) _ rfl (w.heap.size + 3) 114 i0 _ 2 32 Tryz.underlying82 TI.out TZ0.out TZ1.out TZ2.out rfl (by omega) (.slice A L.length c) L.length (J3 L) rfl (HGL.out.row.alloc _) (some ⟨wr.heap.size,0,none⟩) 1 1 [.slice A' j c',.int .i64 n] rfl (fun e=>by cases e) (VD _ _ _ _) rfl (by simp [Value.oneCell']) (by have:=HLL.out;have:=HLM.out;unfold maxLen;omega) (by have:=HLL.out;have:=HLM.out;omega) (by simp;omega) (L.length + 1) rfl ?_;intro A5 c5 w5 ho5 hg5 _;have HK5:Hid (w5.heap[w.heap.size + 1]? = some (.cells #[.int .i64 j,.int .i64 v,.slice A L.length c] 84 (0,0))):=zH ((hg5.block _ (by simp <;> omega) (fun e=>by have:=((HGL.out.row.alloc (.cells #[.slice A' j c',.int .i64 n] 114)).lt _ e.symm).1;omega)).trans ((WaC wr _ _ (by omega)).trans HK8.out));have k52:w5.cell? ⟨w.heap.size + 1,2,none⟩ = some (.slice A L.length c):=(Wx w5 _ 2 _ _ _ HK5.out).trans rfl;have k53:w5.frozen? ⟨w.heap.size + 1,2,none⟩ = false:=Js HK5.out 2;have HO5:=zH ho5;have HG5:=zH hg5;clear ho5 hg5);have hsn:=(HGL.out.below ((Wp wr.heap.size wr).alloc nR (.cells #[.slice A' j c',.int .i64 n] 114))).snoc (g:=((A',c',gmW j (k0,k1,k2,k3)),n)) (base':=w.heap.size + 3) (n:=L.length) (w':=w5) (A':=A5) (c':=c5) (HIW.out.below (bR.alloc nR _)) (by omega) HG5.out (by rw [HWL.out];exact HO5.out);have HSNC:=zH hsn;clear hsn;have hown:∀ b,(Value.slice A L.length c).ownBlock = some b -> w.heap.size + 3 <= b:=fun b e=>(HGL.out.row.lt b e).1;have hs1:w1.heap.size <= wr.heap.size:=HBW1.out.size;have hs5:wr.heap.size + 1 <= w5.heap.size:=(by have:=HG5.out.size;simpa using this);have HBL:∀ b,b < w.heap.size + 3 -> b ≠ w.heap.size + 1 -> (w5.setCell ⟨w.heap.size + 1,2,none⟩ (.slice A5 (L.length + 1) c5)).heap[b]? = w1.heap[b]?:=fun b hb hne=>
       (Wu w5 _ _ b hne).trans ((HG5.out.block _ (by simp;omega) (fun e=>by have:=hown b e.symm;omega)).trans ((WaC wr _ _ (by omega)).trans (HBW1.out.block _ (by omega))))
      have hit5:=H1IT.out.same (HBL bm (by omega) (by omega)) (HBL (w.heap.size + 2) (by omega) (by omega));have hlft:=hit5.left_eq;refine ⟨⟨idx ++ [i],zH hit5,zH ⟨A5,c5,L ++ [((A',c',gmW j (k0,k1,k2,k3)),n)],?_,?_,?_⟩,zH ((HBL _ (by omega) (by omega)).trans H6w.out),zH ?_,zH (HSN.out (by omega)),?_⟩,?_⟩
      ·rw [WI];exact (JE HK5.out 2 _).trans rfl
      ·refine HSNC.out.block (by simp [World.setCell]) fun b hb=>Wu w5 _ _ b ?_;rcases hb with hb | hb
       ·exact hb.ne ⟨_,_,HK5.out⟩ (by decide)
       ·exact hb.1.ne ⟨_,_,HK5.out⟩ (by decide)
      ·rw [HGT.out,WaM,<- HTB.out];simp
      ·have b1:Below w.heap.size w w1:=HB.out.trans (Below.of_only HGR.out HB.out.size (by omega));have b2:Below w.heap.size w wr:=b1.trans (HBW1.out.mono b1.size);exact ((b2.alloc (by omega) _).grown HG5.out (by simp;omega) (fun k e=>by have:=hown k e;omega)).setCell (by simp) _
      ·simp only [World.setCell,Array.size_modify];omega
      ·rw [hlft,HIT.out.left_eq];have:=H1IT.out.len_le;simp at this ⊢;omega
theorem VK (o:Nat) (v:Int) (bm:Nat) (m:List (K4 × Int)) (w:World) (hm:MI w bm m) (ho1 : 1 <= o) (ho2:o <= 4) (hl:m.length <= 9223372036854775807) (hk:Hid (∀ p ∈ m,kOk p.1)) (hv:Hid (∀ p ∈ m,0 <= p.2 /\ p.2 <= 9223372036854775807)) :
  Calls Tryz.prog 158 #[.int .i64 o,.int .i64 v,.map (some bm)] w (RetCol o v m w):=by
 by_cases hml:m.length <= 20000
 ·exact QE o v bm m w hm ho1 ho2 hml hk hv
 ·obtain ⟨W,hW⟩:∃ W:World,W = w.alloc (.cells #[.int .i64 0,.int .i64 0,.slice none 0 0] 84):=⟨_,rfl⟩;have HB:Hid (Below w.heap.size w W):=zH (by rw [hW];exact bR.alloc nR _);have HMW:=zH (hm.below HB.out);have hlen:∀ ty,(Builtin.len_ #[198] ty #[.map (some bm)]).run Tryz.prog (w.alloc (.cells #[.int .i64 0,.int .i64 0,.slice none 0 0] 84)) = .ok (.int .i64 (m.length:Int)) (w.alloc (.cells #[.int .i64 0,.int .i64 0,.slice none 0 0] 84)):=fun ty=>by rw [<- hW];exact MI.len HMW.out ty
  have H6:Hid (W.heap[w.heap.size]? = some (.cells #[.int .i64 0,.int .i64 0,.slice none 0 0] 84 (0,0))):=zH (by rw [hW];exact Wg w _);have HR:Hid (Qv m = 5):=zH (by unfold Qv;rw [WA (by omega)]);go_enter Tryz.func158,Tryz.ntmps158;go_wp2_with fail;rw [<- hW];have g0:=(cR 0 H6.out).trans rfl;have g1:=(cR 1 H6.out).trans rfl;have g2:=(cR 2 H6.out).trans rfl;refine WB (v:=.tuple #[.agg #[.int .i64 0,.int .i64 0,.slice none 0 0],.int .i64 5]) (by simp [results,Tryz.results158,go_sem,g0,g1,g2]) rfl ?_;refine ⟨HB.out,?_⟩;rw [Ww (by rw [HR.out];omega),HR.out]
open Go.Maps
theorem Zjw:laidOutB Tryz.prog = true:=by kernel_rfl
theorem ZeR:(203:TypeId) < Tryz.prog.types.size:=WaB (by kernel_rfl)
theorem Zge:(match Tryz.prog.underlying 203 with | some (.array _ _) | some (.struct _)=>true | _=>false) = true:=by rw [Tryz.underlying203]
theorem Zbu:Keyed Tryz.prog 203:=Keyed.of_law (deep_law_laid Zjw (m:=2) (by omega) ZeR (by kernel_rfl) Zge)
theorem Zbv:Tryz.prog.cellsOf 203 = 4:=by kernel_rfl
theorem Zgf:Tryz.prog.keyType 203 = true:=by kernel_rfl
theorem ZeT:Tryz.prog.cellsOf 3 = 1:=by kernel_rfl
theorem Zi5 (n:Int) (h : 0 <= n /\ n <= 1000001):(Lit.int .i64 n).wf = true:=by
 simp [Lit.wf,IntKind.min,IntKind.max,IntKind.bits,IntKind.signed];omega
theorem ZgZ (k:K4) (h:kOk k):∃ l,keyOf Tryz.prog 203 (ek k) = some l:=by
 obtain ⟨d,hd⟩:∃ d,Tryz.prog.types.size + 1 = d + 2:=⟨Tryz.prog.types.size - 1,by have : 203 < Tryz.prog.types.size:=ZeR;omega⟩;obtain ⟨k0,k1,k2,k3⟩:=k;obtain ⟨h0,h1,h2,h3⟩:=h;simp only at h0 h1 h2 h3;have w0:=Zi5 k0 h0;have w1:=Zi5 k1 h1;have w2:=Zi5 k2 h2;have w3:=Zi5 k3 h3;unfold keyOf;rw [Tryz.underlying203];simp only [Zgf,Bool.true_and,hd];have hf:(ek (k0,k1,k2,k3)).formed Tryz.prog 203 = true:=by simp [ek,Value.formed,Tryz.underlying203,Zbv]
 rw [WA hf];simp [Program.keyLits,Tryz.underlying203,Tryz.underlying3,Zbv,ZeT,ek,Value.cells,List.range_succ,w0,w1,w2,w3]
end Go.Proofs.YtcjicjfbippmnaaGreat
namespace Go.Proofs.YtcjicjfbippmnaaGreat
open Go.RowKit

def Zhm (B:Nat) (Kp:World -> World -> Prop) (I:Nat -> World -> Prop) (k:Nat) (W:World):Exit -> Act -> World -> Prop
 | .normal,_,W'=>KeepsFrom B W W' /\ Kp W W' /\ I (k + 1) W'
 | _,_,_=>False

theorem ZdY {F:Fence} {n:Nat} {P:Program} {g:Operand} {ps:Array Tmp} {assign body:Code} {Q:Exit -> Act -> World -> Prop} {a:Act} {w:World}
  (hro:F.round = none) (h1 : 1 <= n) {gf:Nat} {lb:Array Value} (hg:a.eval g = .func (.func gf) #[] lb) (hFg:F.fn gf) (eg:∀ args w,(callFunc gf args).run P w = .ok (.enter gf args) w)
  (N:Nat) (I:Nat -> World -> Prop) (X:Nat -> Value -> World -> Prop) (Kp:World -> World -> Prop)
  (hKt:∀ {A B C:World},Kp A B -> Kp B C -> Kp A C)
  (hKb:∀ (W:World) (l:Nat) (o o':Obj),w.heap.size <= l -> W.heap[l]? = some o -> o.isCells = false -> Kp W (W.putObj l o'))
  (hps:ps.size = 1)
  (hIb:∀ (k:Nat) (W W':World),I k W -> w.heap.size <= W.heap.size -> Below W.heap.size W W' -> I k W')
  (hIp:∀ (k:Nat) (W:World) (l:Nat) (o o':Obj),w.heap.size <= l -> W.heap[l]? = some o -> o.isCells = false -> I k W -> I k (W.putObj l o'))
  (hXp:∀ (k:Nat) (v:Value) (W:World) (l:Nat) (o o':Obj),w.heap.size <= l -> W.heap[l]? = some o -> o.isCells = false -> X k v W -> X k v (W.putObj l o'))
  (h0:I 0 w)
  (hseq:∀ (l:Nat) (J:Nat -> World -> Prop) (W:World),Below w.heap.size w W -> (∀ k W W',J k W -> Below W.heap.size W W' -> J k W') -> J 0 W ->
   (∀ k v W,J k W -> X k v W -> k < N -> YieldAt F (n - 1 - 1) P l #[v] W (fun e W'=>e = .returned (.bool true) /\ J (k + 1) W' /\ Kp W W')) ->
   CallsIn F (n - 1) P gf (#[.func (.yield l) #[] #[]] ++ lb) W (fun e W'=>(∃ v,e = .returned v) /\ J N W'))
  (hround:∀ (l k:Nat) (v:Value) (W W2:World),I k W2 -> X k v W2 -> k < N ->
   assign.wpIn (F.inRound l) (n - 1 - 1) P (Exit.then (fun a₁ w₁=>w₁ = W /\ body.wpIn (F.inRound l) (n - 1 - 1) P (Zhm w.heap.size Kp I k W2) a₁ W2) (fun _ _ _=>False)) { tmps:=(ps.zip #[v]).foldl (fun t (p,v)=>t.setIfInBounds p v) a.tmps,defers:=[] } W)
  (hdone:∀ (D:Nat) (W:World),w.heap.size <= D -> I N W -> W.heap[D]? = some (.deferred (some [])) -> Q .normal { a with defers:={ target:=.collected D,args:=#[] } :: a.defers } W) :
  (Code.rangeFunc g ps assign body).wpIn F n P Q a w:=by
 refine wpIn_rangeFunc ?_;intro fn hfn;rw [hro];obtain ⟨rec,hrec⟩:∃ rec:LoopState -> Option Code -> Loop,rec = fun st pe=>{ state:=st,pending:=pe,fn,tmps:=a.tmps,params:=ps,assign,body,defers:=w.heap.size }:=⟨_,rfl⟩;obtain ⟨W1,hW1⟩:∃ W1,(w.alloc (.deferred (some []))).alloc (.loop (rec .ready none)) = W1:=⟨_,rfl⟩;have hL1:W1.heap[w.heap.size + 1]? = some (.loop (rec .ready none)):=by
  rw [<- hW1];have:=World.alloc_heap_new (w.alloc (.deferred (some []))) (.loop (rec .ready none));rwa [World.size_alloc] at this
 have hK1:W1.heap[w.heap.size]? = some (.deferred (some [])):=by
  rw [<- hW1];exact (Below.heap_alloc _ _ _ (by simp)).trans (World.alloc_heap_new w _)
 have hb1:Below w.heap.size w W1:=by
  rw [<- hW1];exact ((Below.refl _ w).alloc (WK _) _).alloc (by simp) _
 have hI1:I 0 W1:=hIb 0 w W1 h0 (WK _) hb1;refine ⟨w.heap.size + 1,[{ target:=.collected w.heap.size,args:=#[] }],W1,{ target:=.fn (.func gf) lb,args:=#[.func (.yield (w.heap.size + 1)) #[] #[]] },W1,gf,
  #[.func (.yield (w.heap.size + 1)) #[] #[]] ++ lb,W1,?_,?_,?_,?_,fun _=>h1,?_⟩
 ·rw [<- hW1,hrec];exact run_enterLoop_outer _ _ _ _ _
 ·simp only [resolve,hg];simp [go_sem]
 ·intro f' hf';simp [Target.leads] at hf';subst hf';exact hFg
 ·simp [invoke,go_sem,eg]
 ·refine (hseq (w.heap.size + 1)
   (fun k W=>I k W /\ W.heap[w.heap.size + 1]? = some (.loop (rec .ready none)) /\ W.heap[w.heap.size]? = some (.deferred (some [])))
   W1 hb1 (fun k W W' hj hb=>?_) ⟨hI1,hL1,hK1⟩ ?_).mono ?_
  ·obtain ⟨h2,h3,h4⟩:=hj;have l3:=(WG.1 h3).1;have l4:=(WG.1 h4).1;exact ⟨hIb k W W' h2 (by omega) hb,(hb.block _ l3).trans h3,(hb.block _ l4).trans h4⟩
  ·rintro k v W ⟨hi,hl,hk⟩ hx hkN;have hlt:w.heap.size + 1 < W.heap.size:=(WG.1 hl).1;have hy:=run_yield (P:=P) (args:=#[v]) hl (by rw [hrec];exact hps.symm);rw [hrec] at hy;have hl2:(W.putObj (w.heap.size + 1) (.loop { rec .ready none with state:=.busy })).heap[w.heap.size + 1]? = some (.loop { rec .ready none with state:=.busy }):=World.putObj_heap_same hlt;have hk2:(W.putObj (w.heap.size + 1) (.loop { rec .ready none with state:=.busy })).heap[w.heap.size]? = some (.deferred (some [])):=(World.putObj_heap_other (by omega)).trans hk;have hw2:Kp W (W.putObj (w.heap.size + 1) (.loop { rec .ready none with state:=.busy })):=hKb _ _ _ _ (by omega) hl rfl;refine ⟨fn,_,assign,body,hy,roundIn_of_wpIn hfn (wpIn_mono (hround _ k v W (W.putObj (w.heap.size + 1) (.loop { rec .ready none with state:=.busy })) (hIp _ _ _ _ _ (by omega) hl rfl hi) (hXp _ _ _ _ _ _ (by omega) hl rfl hx) hkN) ?_)⟩;clear hy;rintro e a1 w1 he;cases e with
   | ret=>exact he
   | exit id=>exact he
   | goto t=>exact he
   | panic ch=>exact he
   | outgrown=>exact he
   | normal=>
   obtain ⟨rfl,hbody⟩:=he;refine ⟨_,run_beginRound hl (by rw [hrec]),?_⟩;refine wpIn_mono hbody ?_;rintro e a3 W3 hp;cases e with
   | normal=>
    obtain ⟨hk3,hkp3,hi3⟩:=hp;have hl3:=hk3.same _ _ (by omega) hl2 rfl;have hl3':=hl3;have hr:=run_endRound (P:=P) none hl3;rw [hrec] at hr hl3;have hend:(W3.putObj (w.heap.size + 1) (.loop (rec .ready none))).heap[w.heap.size + 1]? = some (.loop (rec .ready none)):=World.putObj_heap_same (WG.1 hl3).1;refine ⟨_,_,hr,rfl,⟨?_,?_,?_⟩,?_⟩
    ·exact hIp _ _ _ _ _ (by omega) hl3 rfl hi3
    ·rw [hrec] at hend ⊢;exact hend
    ·exact (World.putObj_heap_other (by omega)).trans (hk3.same _ _ (WK _) hk2 rfl)
    ·exact hKt (hKt hw2 hkp3) (hKb _ _ _ _ (by omega) hl3 rfl)
   | ret=>exact hp.elim
   | exit id=>exact hp.elim
   | goto t=>exact hp.elim
   | panic ch=>exact hp.elim
   | outgrown=>exact hp.elim
  ·rintro e W2 ⟨⟨v,rfl⟩,hi,hl,hk⟩;have he:=run_endLoop (P:=P) hl (by rw [hrec];simp);rw [hrec] at he;exact ⟨none,_,he,hdone _ _ (WK _) (hIp _ _ _ _ _ (by omega) hl rfl hi) ((World.putObj_heap_other (by omega)).trans hk)⟩
end Go.Proofs.YtcjicjfbippmnaaGreat
namespace Ear
def VI (o:Nat) (s:List Int):List Int:=List.replicate (o - 1) 0 ++ s ++ [0]
def JR (o:Nat) (s:List Int) (k:Nat):List Int:=((VI o s).drop k).take o
theorem Zw {o:Nat} (ho : 1 <= o) (s:List Int):(VI o s).length = o + s.length:=by simp [VI];omega
theorem XE {o:Nat} (ho : 1 <= o) {s:List Int} {k:Nat} (hk:k < s.length + 1):(JR o s k).length = o:=by
 unfold JR;rw [WaT,WdF,Zw ho];omega
theorem Uj {o:Nat} {s:List Int} {k:Nat} {x:Int} (h:x ∈ JR o s k):x = 0 ∨ x ∈ s:=by
 have:=Wc9 (WbX h);simp only [VI,List.mem_append,List.mem_replicate,List.mem_singleton] at this;rcases this with (⟨_,h⟩ | h) | h
 ·exact .inl h
 ·exact .inr h
 ·exact .inl h
end Ear
namespace Go.Proofs.YtcjicjfbippmnaaGreat
open Go.RowKit Ear
attribute [local go_sem] Oper.semAt_some

structure KpC (W W':World):Prop where
 size:W.heap.size <= W'.heap.size
 row:∀ (b:Nat) (cs:Array Value) (t:TypeId) (fr:Nat × Nat),W.heap[b]? = some (Obj.cells cs t fr) -> W'.heap[b]? = some (Obj.cells cs t fr)
theorem KpC.refl (W:World):KpC W W:=⟨WK _,fun _ _ _ _ h=>h⟩
theorem KpC.trans {A B C:World} (h:KpC A B) (k:KpC B C):KpC A C:=⟨tR h.size k.size,fun b cs t fr e=>k.row b cs t fr (h.row b cs t fr e)⟩
set_option linter.unusedVariables false in
theorem KpC.put (W:World) (l:Nat) (o o':Obj) (hl:W.heap[l]? = some o) (hc:∀ (cs:Array Value) (t:TypeId) (fr:Nat × Nat),o ≠ Obj.cells cs t fr):KpC W (W.putObj l o'):=
 ⟨by simp,fun b cs t fr e=>(World.putObj_heap_other (by rintro rfl;rw [hl] at e;cases e;exact hc _ _ _ rfl)).trans e⟩
theorem Zaf {W:World} {b o:Nat} {v:Value} (h:W.cell? ⟨b,o,none⟩ = some v):∃ cs t fr,W.heap[b]? = some (Obj.cells cs t fr):=by
 unfold World.cell? at h;split at h
 ·rename_i e;exact ⟨_,_,_,e⟩
 ·cases h
theorem YP {W:World} {b o:Nat} {v:Value} (h:W.cell? ⟨b,o,none⟩ = some v):b < W.heap.size:=by
 obtain ⟨cs,t,fr,e⟩:=Zaf h;exact (aE e).1
theorem KpC.cell {W W':World} (h:KpC W W') {b o:Nat} {v:Value} (hv:W.cell? ⟨b,o,none⟩ = some v):W'.cell? ⟨b,o,none⟩ = some v:=by
 obtain ⟨cs,t,fr,e⟩:=Zaf hv;rw [<- hv];exact Ws (a:=⟨b,o,none⟩) ((h.row b cs t fr e).trans e.symm)
theorem KpC.lies {W W':World} (h:KpC W W') {A:Option Addr} {xs:List Value} (hl:Lies W A xs):Lies W' A xs:=fun h0=>by
 obtain ⟨b,off,e,hlt,hc⟩:=hl h0;exact ⟨b,off,e,Wk hlt h.size,fun k u hu=>h.cell (hc k u hu)⟩
def GmX (o:Nat) (s:List Int) (k:Nat) (v:Value) (W:World):Prop:=∃ A,v = .slice A o o /\ Lies W A (ics (JR o s k))
theorem ZfO (g n c f t:Nat) (h1:f < t) (h2:t <= c) (w:World) :
  (Instr.slice 40 (.slice (some ⟨g,0,none⟩) n c) (some (.int .i64 f)) (some (.int .i64 t)) (some (.int .i64 t))).run Tryz.prog w = .ok (.slice (some ⟨g,f,none⟩) (t - f) (t - f)) w:=by
 have e1:(f:Int) <= (t:Int):=by omega
 have e2:(t:Int) <= (c:Int):=by omega
 have e0:Tryz.prog.elem 40 = 3:=by kernel_rfl
 rw [run_slice_lhm (t:=40) (a:=some ⟨g,0,none⟩) (len:=n) (cap:=c) (ht:=by rw [e0];exact Tryz.underlying40) (kl:=.i64) (kh:=.i64) (km:=.i64) (l:=f) (h:=t) (m:=t) (h0:=by omega) (h1:=e1) (h2:=Int.le_refl _) (h3:=e2),e0];have hs:(sizeOf 3).run Tryz.prog w = .ok 1 w:=by kernel_rfl
 rw [hs];have h4:¬ t = f:=by omega
 by_cases h5:f = 0
 ·subst h5;simp [Result.andThen,sliced,Addr.add,h4]
 ·simp [Result.andThen,sliced,Addr.add,h4,h5]
theorem Lies.cut3 {w:World} {g:Nat} {l:List Int} {f o:Nat} (h:Lies w (some ⟨g,0,none⟩) (ics l)) (h1:f + o <= l.length):Lies w (some ⟨g,f,none⟩) (ics ((l.drop f).take o)):=fun h0=>by
 simp only [List.length_map,List.length_take,List.length_drop] at h0;obtain ⟨b,off,e,hb,hc⟩:=h (by simp;omega);cases e;refine ⟨g,f,rfl,hb,fun k u hu=>?_⟩;have:=hc (f + k) u (by
  simp only [ics,List.getElem?_map,List.getElem?_take,List.getElem?_drop] at hu ⊢;split at hu
  ·exact hu
  ·simp at hu)
 simpa using this
theorem ZeY (o:Int) (A:Option Addr) (n c:Nat) (w:World) :
  Calls Tryz.prog 156 #[.int .i64 o,.slice A n c] w fun e w'=>e = .returned (.func (.func 184) #[] #[.pointer (some ⟨w.heap.size,0,none⟩),.pointer (some ⟨w.heap.size + 1,0,none⟩)]) /\ w' = (w.alloc (.cells #[.int .i64 o] 3)).alloc (.cells #[.slice A n c] 40):=by
 go_enter Tryz.func156,Tryz.ntmps156;go_wp2_with fail;go_ret;exact ⟨rfl,rfl⟩
theorem ZeZ (l bO bS:Nat) (A:Option Addr) (c:Nat) (s:List Int) (o:Nat) (ho1 : 1 <= o) (ho2:o <= 4) (hs:s.length <= 500) (hn:A = none -> c = 0)
  (J:Nat -> World -> Prop) (hJb:∀ k W W',J k W -> Below W.heap.size W W' -> J k W')
  (hY:Hid (∀ k v W,J k W -> GmX o s k v W -> k < s.length + 1 -> YieldAt Fence.wide 7 Tryz.prog l #[v] W (fun e W'=>e = .returned (.bool true) /\ J (k + 1) W' /\ KpC W W')))
  (W:World) (cO:W.cell? ⟨bO,0,none⟩ = some (.int .i64 o)) (cS:W.cell? ⟨bS,0,none⟩ = some (.slice A s.length c)) (hL:Lies W A (ics s)) (h0:J 0 W) :
  CallsIn Fence.wide 8 Tryz.prog 184 #[.func (.yield l) #[] #[],.pointer (some ⟨bO,0,none⟩),.pointer (some ⟨bS,0,none⟩)] W (fun e W'=>(∃ v,e = .returned v) /\ J (s.length + 1) W'):=by
 obtain ⟨i0,hi0,hz0,hz1,hz2⟩:=WaI Za;have TI:=zH hi0;have TZ0:=zH hz0;have TZ1:=zH hz1;have TZ2:=zH hz2;clear hi0 hz0 hz1 hz2;have HL:=zH hL;have HJB:=zH hJb;have HJD:Hid (J 0 W.drew):=zH (hJb 0 W _ h0 ⟨rfl,rfl,rfl,WK _,fun _ _=>rfl⟩);have hbO:bO < W.heap.size:=YP cO;have hbS:bS < W.heap.size:=YP cS;clear hL h0 hJb;obtain ⟨p,hp⟩:∃ p,p = o - 1:=⟨_,rfl⟩;have p1:IntKind.i64.wrap ((o:Int) - 1) = (p:Int):=by rw [WM _ (by omega)];omega
 have HP:=zH hp;have hp4:p <= 3:=by omega
 clear hp;obtain ⟨w1,hmk,ho1',hb1⟩:=Vy W.drew p (by omega) W.heap.size nR;refine callsIn_of_wp Tryz.func184 rfl trivial ?_ rfl;simp only [Tryz.ntmps184,List.size_toArray,List.length_cons,List.length_nil,Nat.reduceAdd,Nat.reduceSub,Array.replicate_succ,Array.replicate_zero,List.push_toArray,List.append_toArray,List.nil_append,List.cons_append]
 gi_wp2
 have SA:Hid (W.drew.cell? ⟨bO,0,none⟩ = some (.int .i64 o) /\ W.drew.cell? ⟨bS,0,none⟩ = some (.slice A s.length c)):=zH ⟨cO,cS⟩;have SB:Hid (w1.cell? ⟨bO,0,none⟩ = some (.int .i64 o) /\ w1.cell? ⟨bS,0,none⟩ = some (.slice A s.length c)):=zH ⟨(hb1.cell (p:=⟨bO,0,none⟩) hbO).trans cO,(hb1.cell (p:=⟨bS,0,none⟩) hbS).trans cS⟩;have HO1:=zH ho1';have HB1:=zH hb1;have HL1:Hid (Lies w1 A (ics s)):=zH (HL.out.below (Jg hb1));clear ho1' hb1;refine wpIn_wide.2 ?_;go_region_held3 (fun w'=>w'.cell? ⟨bO,0,none⟩ = some (.int .i64 o) /\ w'.cell? ⟨bS,0,none⟩ = some (.slice A s.length c))
  (first | exact SA.out | exact SB.out | exact SC.out)
  (first | (refine UN _ (by rfl) (.tmp 8) (.tmp 9) _ (by rfl) W.heap.size 3 i0 _ 1 8 Tryz.underlying40 TI.out TZ0.out TZ1.out TZ2.out rfl (by omega) (.slice (some ⟨W.drew.heap.size,0,none⟩) p p) p (ics (List.replicate p 0)) (by rfl) HO1.out A s.length c (ics s) (by rfl) hn HL1.out (by simp) (Z8 _) (by unfold maxLen;omega) (by omega) HB1.out.size (p + s.length) rfl ?_;intro Ab cb wb hob hgb hat;have BB:=zH (HB1.out.grown hgb HB1.out.size (fun k hk=>(HO1.out.lt k hk).1));have SC:Hid (wb.cell? ⟨bO,0,none⟩ = some (.int .i64 o) /\ wb.cell? ⟨bS,0,none⟩ = some (.slice A s.length c)):=zH ⟨(BB.out.cell (p:=⟨bO,0,none⟩) hbO).trans cO,(BB.out.cell (p:=⟨bS,0,none⟩) hbS).trans cS⟩))
 have HOB:Hid (wb.ownsRow W.heap.size 3 1 (.slice Ab (p + s.length) cb) (p + s.length) (ics (List.replicate p 0 ++ s))):=zH (by rw [YY];exact hob);clear hob hgb hat SB SA HL1 HO1 hmk;have hWb:W.heap.size <= wb.heap.size:=BB.out.size
 gi_wp2_with (gi_at_builtin;refine wpListIn_append_own_at _ rfl (.tmp 11) (.tmp 12) _ rfl W.heap.size 3 i0 _ 1 8 Tryz.underlying40 TI.out TZ0.out TZ1.out TZ2.out rfl (by omega) (.slice Ab (p + s.length) cb) (p + s.length) (ics (List.replicate p 0 ++ s)) rfl (HOB.out.alloc _) ⟨wb.heap.size,0,none⟩ 1 1 [.int .i64 0] rfl (by simp) (cell_one_new _ _ _) (by simp [Value.oneCell']) (by unfold maxLen;omega) (by omega) (by simp;omega) ?_;intro v' w4 ho4 hg4 _ _;obtain ⟨A4,c4,rfl⟩:=Xf ho4)
 have HO4:Hid (w4.ownsRow W.heap.size 3 1 (.slice A4 (p + s.length + 1) c4) (p + s.length + 1) (ics (VI o s))):=zH (by
  have e:VI o s = (List.replicate p 0 ++ s) ++ [0]:=by unfold VI;rw [HP.out]
  rw [e,YY];exact ho4)
 have B4:Hid (Below W.heap.size W w4):=zH (Jg (((BB.out.alloc BB.out.size _).grown hg4 (by simp;omega) (fun k hk=>((HOB.out.alloc (.cells #[.int .i64 0] 3)).lt k hk).1))));obtain ⟨g,cap,hv',hgg,hglt⟩:=HO4.out.form (by omega);obtain rfl:A4 = some ⟨g,0,none⟩:=by injection hv'
 clear hv' cap ho4 hg4 HOB BB;have HFL:Hid ((VI o s).length = p + s.length + 1):=zH (by rw [Zw ho1];have:=HP.out;omega);have HLA:Hid (Lies w4 (some ⟨g,0,none⟩) (ics (VI o s))):=zH (Lies.of_own HO4.out);have HCAP:Hid (p + s.length + 1 <= c4):=zH (Zay HO4.out);have HJ4:Hid (J 0 w4):=zH (HJB.out 0 W w4 (HJB.out 0 W.drew W HJD.out ⟨rfl,rfl,rfl,WK _,fun _ _=>rfl⟩) B4.out);have c4O:=(B4.out.cell (p:=⟨bO,0,none⟩) hbO).trans cO;have hoI:(1:Int) <= (o:Int):=by omega
 clear cO cS;have HpO:Hid (p + 1 = o):=zH (by have:=HP.out;omega)
 gi_loopw [5] (fun i wr=>∃ k:Nat,i = .int .i64 k /\ k <= s.length + 1 /\ Hid (J k wr) /\ Hid (KpC w4 wr)) (fun i _=>s.length + 1 - (intOf i).toNat)
 case atStart=>exact ⟨0,rfl,by omega,HJ4,zH (KpC.refl _)⟩
 case round=>
  obtain ⟨k,rfl,hk,hJ,hK⟩:=hrel;clear HJ4;have wO:=hK.out.cell c4O;have hpo:=HpO.out;by_cases hlt:k < s.length + 1
  ·have h1:(k:Int) + (o:Int) <= (p:Int) + (s.length:Int) + 1:=by omega
   have h2:(k:Int) + (o:Int) <= 9223372036854775807:=(by omega);have HLk:Hid (Lies wr (some ⟨g,k,none⟩) (ics (JR o s k))):=zH (by
    unfold JR;exact (hK.out.lies HLA.out).cut3 (by rw [HFL.out];omega))
   have hcut:∀ W,(Instr.slice 40 (.slice (some ⟨g,0,none⟩) (p + s.length + 1) c4) (some (.int .i64 (k:Int))) (some (.int .i64 ((k:Int) + (o:Int)))) (some (.int .i64 ((k:Int) + (o:Int))))).run Tryz.prog W = .ok (.slice (some ⟨g,k,none⟩) o o) W:=fun W=>by
    have:=ZfO g (p + s.length + 1) c4 k (k + o) (by omega) (by have:=HCAP.out;omega) W;rw [Int.natCast_add] at this;rw [this];simp
   obtain ⟨fn,tmps,assign,body,hy,hR⟩:=hY.out k _ wr hJ.out ⟨some ⟨g,k,none⟩,rfl,HLk.out⟩ hlt;have HR:=zH hR;clear hR hpo
   gi_wp2
   refine HR.out.mono ?_;rintro e W3 ⟨rfl,hJ3,hk3⟩;have K3:=zH (hK.out.trans hk3);have HJ3:=zH hJ3;clear HR hJ3 hk3 hy
   gi_wp2
   go_roundw
   case rel=>exact ⟨k + 1,by go_num,by omega,HJ3,K3⟩
   case measure=>simp [intOf];omega
  ·obtain rfl:k = s.length + 1:=by omega
   have h1:¬ ((s.length:Int) + 1 + (o:Int) <= (p:Int) + (s.length:Int) + 1):=(by omega);clear hpo
   gi_wp2
   go_end0
   exact ⟨⟨_,rfl⟩,hJ.out⟩
end Go.Proofs.YtcjicjfbippmnaaGreat
