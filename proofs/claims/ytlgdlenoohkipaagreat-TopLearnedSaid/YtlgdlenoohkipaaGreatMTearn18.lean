/- TopLearned -/
import Derived.Test.YtlgdlenoohkipaaGreatMTearn17
import Derived.RangeFuncNested
import Derived.RangeFuncBound
import Derived.Shelf.RegionOpen
import Derived.OwnWalkIn
import Derived.LoopNIn
import Derived.LoopIn
set_option maxRecDepth 100000
set_option maxHeartbeats 32000000
namespace Go.Proofs.YtlgdlenoohkipaaGreat
open Go.RowKit Ear

theorem ZaT (g o:Nat) (ho:o <= 4) (W:World):(Instr.sliceAt 166 (.pointer (some ⟨g,0,none⟩)) none (some (.int .i64 (o:Int))) none).run Tryz.prog W = .ok (.slice (some ⟨g,0,none⟩) o 4) W:=by
 have e0:Tryz.prog.elem 166 = 3:=by kernel_rfl
 have e1:Tryz.prog.arrayLen 166 = 4:=by kernel_rfl
 have h2:(o:Int) <= (Tryz.prog.arrayLen 166:Nat):=by rw [e1];omega
 rw [run_sliceAt_array_h (t:=166) (a:=⟨g,0,none⟩) (ht:=by rw [e0,e1];exact Tryz.underlying166) (kh:=.i64) (h:=o) (h0:=by omega) (h2:=h2),e0,e1];have hs:(sizeOf 3).run Tryz.prog W = .ok 1 W:=by kernel_rfl
 rw [hs];simp [Result.andThen,slicedAt,Addr.add]
def Zj5 (k8 base:Nat) (o v:Int) (m:List (K4 × Int)) (on:Nat) (idx:List Nat) (W:World):Prop:=
 ∃ A c L,W.heap[k8]? = some (.cells #[.int .i64 o,.int .i64 v,.slice A (L:List Gm).length c] 27 (0,0)) /\ GLo W base A c L /\ Je L = (YJ m ((0,0,0,0),0) idx).map (fun p=>(gmW on p.1,p.2))
def Ul (m:List (K4 × Int)):Int:=if 20000 < m.length then 5 else if ∃ p ∈ m,1073741824 < p.2 then 2 else 0
def RetCol (o:Nat) (v:Int) (m:List (K4 × Int)) (w:World) (e:Ending) (w':World):Prop:=
 Below w.heap.size w w' /\ if Ul m = 0 then ∃ A c L,e = .returned (.tuple #[.agg #[.int .i64 o,.int .i64 v,.slice A (L:List Gm).length c],.int .i64 0]) /\ GLo w' w.heap.size A c L /\ (Je L).Perm (m.map fun p=>(gmW o p.1,p.2)) /\ L.Pairwise (fun x y=>¬ J8 y.1.2.2 x.1.2.2 < 0)
  else e = .returned (.tuple #[.agg #[.int .i64 0,.int .i64 0,.slice none 0 0],.int .i64 (Ul m)])
theorem Vd (w:World) (u v:Value) (t:TypeId):Lies (w.alloc (.cells #[u,v] t)) (some ⟨w.heap.size,0,none⟩) [u,v]:=fun _=>
 ⟨w.heap.size,0,rfl,by simp,fun k x hx=>by rw [Nat.zero_add,cell_of_row _ _ k _ _ _ (heap_alloc_new w _)];simpa using hx⟩
theorem Zi9 {k:K4} (h:kOk k):∀ y ∈ kws k,-9223372036854775808 <= y /\ y <= 9223372036854775807:=by
 obtain ⟨h0,h1,h2,h3⟩:=h;intro y hy;simp [kws] at hy;rcases hy with rfl | rfl | rfl | rfl <;> omega
theorem _root_.Go.MapIt.ne_bt {κ ν : Type} {P:Program} {K:TypeId} {ek : κ -> Value} {ev : ν -> Value} {w:World} {b r x:Nat} {e:TypeId} {m:List (κ × ν)} {idx:List Nat} (h:MapIt P K ek ev w b r m idx) (hx:BT w x e):x ≠ r:=by
 rintro rfl;obtain ⟨es,c,s,seen,c0,h1,h2,h3,h4,_⟩:=h.st;obtain ⟨cs,fz,hb⟩:=hx;rw [h4] at hb;cases hb
theorem Qg (o:Nat) (v:Int) (bm:Nat) (m:List (K4 × Int)) (w:World) (hm:MI w bm m) (ho1 : 1 <= o) (ho2:o <= 4) (hml:m.length <= 20000) (hk:Hid (∀ p ∈ m,kOk p.1)) (hv:Hid (∀ p ∈ m,0 <= p.2 /\ p.2 <= 9223372036854775807)) :
  Calls Tryz.prog 90 #[.int .i64 o,.int .i64 v,.map (some bm)] w (RetCol o v m w):=by
 obtain ⟨i0,hi0,hz0,hz1,hz2⟩:=info_parts UQ;have TI:=zH hi0;have TZ0:=zH hz0;have TZ1:=zH hz1;have TZ2:=zH hz2;obtain ⟨j0,hj0,hy0,hy1,hy2⟩:=info_parts Yz;have KI:=zH hj0;have KZ0:=zH hy0;have KZ1:=zH hy1;have KZ2:=zH hy2;clear hi0 hz0 hz1 hz2 hj0 hy0 hy1 hy2;obtain ⟨W,hW⟩:∃ W:World,W = w.alloc (.cells #[.int .i64 0,.int .i64 0,.slice none 0 0] 27):=⟨_,rfl⟩;have hWs:W.heap.size = w.heap.size + 1:=by rw [hW];simp
 have HB0:Hid (Below w.heap.size w W):=zH (by rw [hW];exact bR.alloc nR _);have HMW:=zH (hm.below HB0.out);have hlen:∀ ty,(Builtin.len_ #[162] ty #[.map (some bm)]).run Tryz.prog (w.alloc (.cells #[.int .i64 0,.int .i64 0,.slice none 0 0] 27)) = .ok (.int .i64 (m.length:Int)) (w.alloc (.cells #[.int .i64 0,.int .i64 0,.slice none 0 0] 27)):=fun ty=>by rw [<- hW];exact MI.len HMW.out ty
 go_enter Tryz.func90,Tryz.ntmps90;go_upto_region 4 with fail;obtain ⟨V,hV⟩:∃ V:World,V = (w.alloc (.cells #[.int .i64 0,.int .i64 0,.slice none 0 0] 27)).alloc (.cells #[.int .i64 o,.int .i64 v,.slice none 0 0] 27):=⟨_,rfl⟩;have hVs:V.heap.size = w.heap.size + 2:=by rw [hV];simp
 have HBV:Hid (Below w.heap.size w V):=zH (by rw [hV];exact al2 w _ _);have HMV:=zH (hm.below HBV.out);have HR6:Hid (V.heap[w.heap.size]? = some (.cells #[.int .i64 0,.int .i64 0,.slice none 0 0] 27 (0,0))):=zH (by rw [hV];exact (Below.heap_alloc _ _ _ (by simp)).trans (heap_alloc_new w _));have HR8:Hid (V.heap[w.heap.size + 1]? = some (.cells #[.int .i64 o,.int .i64 v,.slice none 0 0] 27 (0,0))):=zH (by rw [hV];have:=heap_alloc_new (w.alloc (.cells #[.int .i64 0,.int .i64 0,.slice none 0 0] 27)) (.cells #[.int .i64 o,.int .i64 v,.slice none 0 0] 27);simpa using this);rw [<- hV];clear hV hlen hW HMW HB0 hWs;have hbm:bm < w.heap.size:=hm.lt;obtain ⟨oit,hrun,hit0⟩:=MapIs.range HMV.out Tryz.underlying162;have hit0':=zH hit0;go_wp2_with fail;obtain ⟨V1,hV1⟩:∃ V1:World,V1 = V.alloc oit:=⟨_,rfl⟩;have HB1:Hid (Below V.heap.size V V1):=zH (by rw [hV1];exact bR.alloc nR _);have HIT0:Hid (MapIt Tryz.prog 166 ek (Value.int .i64) V1 bm (w.heap.size + 2) m []):=zH (by rw [hV1,<- hVs];exact hit0'.out);have hV1s:V1.heap.size = w.heap.size + 3:=by rw [hV1];simp;omega
 have HBW:Hid (Below w.heap.size w V1):=zH (HBV.out.trans (HB1.out.mono HBV.out.size));have HC0:Hid (Zj5 (w.heap.size + 1) (w.heap.size + 3) o v m o [] V1):=zH ⟨none,0,[],(HB1.out.block _ (by omega)).trans HR8.out,GLo.nil _ _,rfl⟩;have H60:Hid (V1.heap[w.heap.size]? = some (.cells #[.int .i64 0,.int .i64 0,.slice none 0 0] 27 (0,0))):=zH ((HB1.out.block _ (by omega)).trans HR6.out);rw [<- hV1];have HS0:Hid (∀ i ∈ ([]:List Nat),(m[i]?.getD ((0,0,0,0),0)).2 <= 1073741824):=zH (by simp);clear hV1 hrun hit0 hit0' HR6 HR8 HMV HB1 HBV;go_loopw [23] (fun _ wr=>∃ idx,Hid (MapIt Tryz.prog 166 ek (Value.int .i64) wr bm (w.heap.size + 2) m idx) /\ Hid (Zj5 (w.heap.size + 1) (w.heap.size + 3) o v m o idx wr) /\ Hid (wr.heap[w.heap.size]? = some (.cells #[.int .i64 0,.int .i64 0,.slice none 0 0] 27 (0,0))) /\ Hid (Below w.heap.size w wr) /\ Hid (∀ i ∈ idx,(m[i]?.getD ((0,0,0,0),0)).2 <= 1073741824) /\ w.heap.size + 3 <= wr.heap.size) (fun _ wr=>Zy wr bm (w.heap.size + 2))
 case atStart=>exact ⟨[],HIT0,HC0,H60,HBW,HS0,by omega⟩
 case round=>
  obtain ⟨idx,HIT,HCI,H6,HB,HS,hws⟩:=hrel;clear HIT0 HC0 H60 HBW HS0;obtain ⟨W0,rfl⟩:∃ X,X = wr:=⟨_,rfl⟩;rcases HIT.out.next ((0,0,0,0),0) 0 with ⟨hperm,hrun⟩ | ⟨i,w1,hi,hni,hrun,hit1,hen,hgr,hsz⟩
  ·have HP:=zH hperm;clear hperm;obtain ⟨A,c,L,hk8,hL,htb⟩:=HCI.out;have HK8:=zH hk8;have HL:=zH hL;have HTB:=zH htb;have k82:W0.cell? ⟨w.heap.size + 1,2,none⟩ = some (.slice A L.length c):=(cell_of_row W0 _ 2 _ _ _ hk8).trans rfl;clear hk8 hL htb;go_wp2_with fail;have hLl:L.length = idx.length:=(by have:=congrArg List.length HTB.out;simpa [YJ] using this);have hLm:idx.length <= m.length:=HIT.out.len_le;refine (Zei A c (w.heap.size + 3) L W0 HL.out (by omega)).mono ?_;rintro e w6 ⟨rfl,L',hp',hs',hL',hg'⟩;have hlen:L'.length = L.length:=hp'.length_eq;have hown:∀ b,(Value.slice A L.length c).ownBlock = some b -> w.heap.size + 3 <= b:=fun b e=>(HL.out.row.lt b e).1;have HBL:∀ b,b < w.heap.size + 3 -> w6.heap[b]? = W0.heap[b]?:=fun b hb=>hg'.block _ (by omega) (fun e=>by have:=hown b e.symm;omega);have h66:w6.heap[w.heap.size]? = some (.cells #[.int .i64 0,.int .i64 0,.slice none 0 0] 27 (0,0)):=(HBL _ (by omega)).trans H6.out;have h68:w6.heap[w.heap.size + 1]? = some (.cells #[.int .i64 o,.int .i64 v,.slice A L.length c] 27 (0,0)):=(HBL _ (by omega)).trans HK8.out;have hb6:Below w.heap.size w w6:=HB.out.grown hg' (by omega) (fun k e=>by have:=hown k e;omega);have H66:=zH h66;have HB6:=zH hb6;have HR:Hid (Ul m = 0):=zH (by
    unfold Ul;rw [if_neg (by omega),if_neg];rintro ⟨p,hp,hb⟩;have:=HP.out.mem_iff.2 hp;unfold YJ at this;obtain ⟨q,hq,e⟩:=List.mem_map.1 this;have:=HS.out q hq;rw [e] at this;omega)
   have e0:=(cR 0 h68).trans rfl;have e1:=(cR 1 h68).trans rfl;have e2:=(cR 2 h68).trans rfl;have d0:=(cR 0 h66).trans rfl;have d1:=(cR 1 h66).trans rfl;have d2:=(cR 2 h66).trans rfl;have f0:=Jl h66 0;have f1:=Jl h66 1;have f2:=Jl h66 2;have HP':=zH hp';have HS':=zH hs';have HL':=zH hL';have HLEN:=zH hlen;clear h66 h68 hb6 hp' hs' hL' hg' HBL hown hlen hLl hLm;go_wp2_with fail;have hr6:=ZaV H66.out (.int .i64 o) (.int .i64 v) (.slice A L.length c);have g0:=(cR 0 hr6).trans rfl;have g1:=(cR 1 hr6).trans rfl;have g2:=(cR 2 hr6).trans rfl;refine bodyPost_ret (v:=.tuple #[.agg #[.int .i64 o,.int .i64 v,.slice A L.length c],.int .i64 0]) (by simp [results,Tryz.results90,go_sem,g0,g1,g2]) rfl ?_;refine ⟨((HB6.out.setCell nR _).setCell nR _).setCell nR _,?_⟩;rw [if_pos HR.out];refine ⟨A,c,L',by rw [HLEN.out],(HL'.out.block (by simp [World.setCell]) fun b hb=>?_).le (by omega),?_,HS'.out.imp (fun h=>by omega)⟩
   ·refine JR ?_ _ _ _;rcases hb with hb | hb
    ·exact hb.ne ⟨_,_,H66.out⟩ (by decide)
    ·exact hb.1.ne ⟨_,_,H66.out⟩ (by decide)
   ·have h1:(Je L').Perm (Je L):=HP'.out.map _;refine h1.trans ?_;rw [HTB.out];exact HP.out.map _
  ·have HKI:Hid (kOk (m[i]?.getD ((0,0,0,0),0)).1):=zH (hk.out _ (by rw [gE hi];exact yM hi));have HVI:Hid (0 <= (m[i]?.getD ((0,0,0,0),0)).2 /\ (m[i]?.getD ((0,0,0,0),0)).2 <= 9223372036854775807):=zH (hv.out _ (by rw [gE hi];exact yM hi));have HSN:Hid ((m[i]?.getD ((0,0,0,0),0)).2 <= 1073741824 -> ∀ j ∈ idx ++ [i],(m[j]?.getD ((0,0,0,0),0)).2 <= 1073741824):=zH (fun h j hj=>by
    rcases List.mem_append.1 hj with hj | hj
    ·exact HS.out j hj
    ·rw [List.mem_singleton] at hj;subst hj;exact h)
   have HBIG:Hid (1073741824 < (m[i]?.getD ((0,0,0,0),0)).2 -> ∃ p ∈ m,1073741824 < p.2):=zH (fun h=>⟨_,by rw [gE hi];exact yM hi,h⟩);have HGT:Hid (YJ m ((0,0,0,0),0) (idx ++ [i]) = YJ m ((0,0,0,0),0) idx ++ [m[i]?.getD ((0,0,0,0),0)]):=zH (by simp [YJ]);generalize m[i]?.getD ((0,0,0,0),0) = p at *
   obtain ⟨⟨k0,k1,k2,k3⟩,n⟩:=p;simp only [ek] at hrun hen;simp only at *
   have H1IT:=zH hit1;have HLE:Hid (Zy w1 bm (w.heap.size + 2) < Zy W0 bm (w.heap.size + 2)):=zH (by rw [hit1.left_eq,HIT.out.left_eq];have h9:=hit1.len_le;simp at h9 ⊢;omega);have HGR:=zH hgr;have hw1:w.heap.size + 3 <= w1.heap.size:=(by omega);have h6w:w1.heap[w.heap.size]? = some (.cells #[.int .i64 0,.int .i64 0,.slice none 0 0] 27 (0,0)):=(hgr.block _ (by omega) (by intro e;injection e with e;omega)).trans H6.out;have H6w:=zH h6w;have HVI':=HVI.out;have hsl:∀ W,(Instr.sliceAt 166 (.pointer (some ⟨w1.heap.size,0,none⟩)) none (some (.int .i64 (o:Int))) none).run Tryz.prog W = .ok (.slice (some ⟨w1.heap.size,0,none⟩) o 4) W:=fun W=>ZaT w1.heap.size o ho2 W;have HSZ:=zH hsz;clear hit1 hgr h6w hi hni hsz;by_cases hbig : 1073741824 < n
   ·have H6a:Hid ((w1.alloc (.cells #[.int .i64 k0,.int .i64 k1,.int .i64 k2,.int .i64 k3] 166)).heap[w.heap.size]? = some (.cells #[.int .i64 0,.int .i64 0,.slice none 0 0] 27 (0,0))):=zH ((Below.heap_alloc _ _ _ (by omega)).trans H6w.out);have d0:=(cR 0 H6a.out).trans rfl;have d1:=(cR 1 H6a.out).trans rfl;have d2:=(cR 2 H6a.out).trans rfl;have f0:=Jl H6a.out 0;have f1:=Jl H6a.out 1;have f2:=Jl H6a.out 2;have hr:Ul m = 2:=by
     unfold Ul;rw [if_neg (by omega),if_pos (HBIG.out hbig)]
    have hbl:Below w.heap.size w (w1.alloc (.cells #[.int .i64 k0,.int .i64 k1,.int .i64 k2,.int .i64 k3] 166)):=(HB.out.trans (Below.of_only HGR.out HB.out.size (by omega))).alloc (by omega) _;have HR:=zH hr;have HBL:=zH hbl;clear hr hbl;go_wp2_with fail;have hr6:=ZaV H6a.out (.int .i64 0) (.int .i64 0) (.slice none 0 0);have g0:=(cR 0 hr6).trans rfl;have g1:=(cR 1 hr6).trans rfl;have g2:=(cR 2 hr6).trans rfl;refine bodyPost_ret (v:=.tuple #[.agg #[.int .i64 0,.int .i64 0,.slice none 0 0],.int .i64 2]) (by simp [results,Tryz.results90,go_sem,g0,g1,g2]) rfl ?_;refine ⟨((HBL.out.setCell nR _).setCell nR _).setCell nR _,?_⟩;rw [if_neg (by rw [HR.out];omega),HR.out]
   ·go_wp2_with fail;obtain ⟨V2,hV2⟩:∃ V2:World,V2 = (w1.alloc (.cells #[.int .i64 k0,.int .i64 k1,.int .i64 k2,.int .i64 k3] 166)).alloc (.cells #[.slice none 0 0,.int .i64 n] 93):=⟨_,rfl⟩;have hV2s:V2.heap.size = w1.heap.size + 2:=(by rw [hV2];simp);have HB2:Hid (Below w1.heap.size w1 V2):=zH (by rw [hV2];exact al2 w1 _ _);have HKB:Hid (V2.heap[w1.heap.size]? = some (.cells #[.int .i64 k0,.int .i64 k1,.int .i64 k2,.int .i64 k3] 166 (0,0))):=zH (by rw [hV2];exact (Below.heap_alloc _ _ _ (by simp)).trans (heap_alloc_new w1 _));have HGB:Hid (V2.heap[w1.heap.size + 1]? = some (.cells #[.slice none 0 0,.int .i64 n] 93 (0,0))):=zH (by rw [hV2];have:=heap_alloc_new (w1.alloc (.cells #[.int .i64 k0,.int .i64 k1,.int .i64 k2,.int .i64 k3] 166)) (.cells #[.slice none 0 0,.int .i64 n] 93);simpa using this);rw [<- hV2];clear hV2;have HKW:Hid (∀ j,j < 4 -> (kws (k0,k1,k2,k3))[j]?.getD 0 = ([k0,k1,k2,k3][j]?.getD 0) - 1 /\ 0 <= [k0,k1,k2,k3][j]?.getD 0 /\ [k0,k1,k2,k3][j]?.getD 0 <= 1000001):=zH (fun j hj=>by
     obtain ⟨q0,q1,q2,q3⟩:=HKI.out;simp only at q0 q1 q2 q3;rcases (show j = 0 ∨ j = 1 ∨ j = 2 ∨ j = 3 by omega) with rfl | rfl | rfl | rfl <;> simp [kws] <;> omega)
    have HTK:Hid (∀ j,j < 4 -> (kws (k0,k1,k2,k3)).take (j + 1) = (kws (k0,k1,k2,k3)).take j ++ [(kws (k0,k1,k2,k3))[j]?.getD 0]):=zH (fun j hj=>by
     have hj':j < (kws (k0,k1,k2,k3)).length:=(by simp [kws];exact hj);rw [List.take_succ_eq_append_getElem hj',gE hj'];rfl)
    have HRF:Hid (Below (w1.heap.size + 1) V2 V2):=zH ⟨rfl,rfl,rfl,Nat.le_refl _,fun _ _=>rfl⟩;go_loopw [36] (fun i wr=>∃ j:Nat,j <= o /\ i = .int .i64 j /\ ∃ A' c',Hid (wr.heap[w1.heap.size + 1]? = some (.cells #[.slice A' j c',.int .i64 n] 93 (0,0))) /\ Hid (wr.ownsRow (w1.heap.size + 2) 3 1 (.slice A' j c') j (ics ((kws (k0,k1,k2,k3)).take j))) /\ Hid (Below (w1.heap.size + 1) V2 wr) /\ V2.heap.size <= wr.heap.size) (fun i _=>o - (intOf i).toNat)
    case atStart=>exact ⟨0,by omega,rfl,none,0,HGB,zH (World.ownsRow_nil _ _ _ _),HRF,Nat.le_refl _⟩
    case round=>
     obtain ⟨j,hj,rfl,A',c',HG,HO,HBj,hsj⟩:=hrel;clear HRF;have HKj:Hid (wr.heap[w1.heap.size]? = some (.cells #[.int .i64 k0,.int .i64 k1,.int .i64 k2,.int .i64 k3] 166 (0,0))):=zH ((HBj.out.block _ (by omega)).trans HKB.out);have c0:wr.cell? ⟨w1.heap.size + 1,0,none⟩ = some (.slice A' j c'):=(by rw [cell_of_row wr _ 0 _ _ _ HG.out];rfl);have c1:wr.cell? ⟨w1.heap.size + 1,1,none⟩ = some (.int .i64 n):=(by rw [cell_of_row wr _ 1 _ _ _ HG.out];rfl);by_cases hlt:j < o
     ·have hxj:=HKW.out j (by omega);have hcj:wr.cell? ⟨w1.heap.size,j,none⟩ = some (.int .i64 ([k0,k1,k2,k3][j]?.getD 0)):=by
       rw [cell_of_row wr _ j _ _ _ HKj.out];rcases (show j = 0 ∨ j = 1 ∨ j = 2 ∨ j = 3 by omega) with rfl | rfl | rfl | rfl <;> rfl
      have HTj:=zH (HTK.out j (by omega));obtain ⟨e1,e2,e3⟩:=hxj;rw [e1] at HTj;clear e1;generalize [k0,k1,k2,k3][j]?.getD 0 = x at *
      have p1:IntKind.i64.wrap (x - 1) = x - 1:=IntWalk.i64_in _ (by omega);go_wp2_with (at_builtin;refine Jg _ rfl (.tmp 41) (.tmp 44) _ rfl (w1.heap.size + 2) 3 j0 _ 1 8 Tryz.underlying35 KI.out KZ0.out KZ1.out KZ2.out rfl (by omega) (.slice A' j c') j (ics ((kws (k0,k1,k2,k3)).take j)) rfl (HO.out.alloc _) (some ⟨wr.heap.size,0,none⟩) 1 1 [.int .i64 (x - 1)] rfl (fun e=>by cases e) (Ve _ _ _) (by simp) (by simp [Value.oneCell']) (by unfold maxLen;omega) (by omega) (by simp;omega) (j + 1) rfl ?_;intro A4 c4 w4 ho4 hg4 _;have HG4:Hid (w4.heap[w1.heap.size + 1]? = some (.cells #[.slice A' j c',.int .i64 n] 93 (0,0))):=zH ((hg4.block _ (by simp <;> omega) (fun e=>by have:=((HO.out.alloc (.cells #[.int .i64 (x - 1)] 3)).lt _ e.symm).1;omega)).trans ((Below.heap_alloc wr _ _ (by omega)).trans HG.out));have d0:w4.cell? ⟨w1.heap.size + 1,0,none⟩ = some (.slice A' j c'):=(cell_of_row w4 _ 0 _ _ _ HG4.out).trans rfl;have d1:w4.frozen? ⟨w1.heap.size + 1,0,none⟩ = false:=Jl HG4.out 0;have HO4:=zH ho4;have HGR4:=zH hg4;clear ho4 hg4);refine ⟨⟨j + 1,by omega,by go_num,A4,c4,zH ?_,zH ?_,zH ?_,?_⟩,by simp [intOf];omega⟩
      ·exact (JT HG4.out 0 _).trans rfl
      ·rw [HTj.out,YP];exact J1 HO4.out (by simp) _
      ·exact ((HBj.out.alloc (by omega) _).grown HGR4.out (by simp;omega) (fun k e=>by have:=((HO.out.alloc (.cells #[.int .i64 (x - 1)] 3)).lt _ e).1;omega)).setCell nR _
      ·have:=HGR4.out.size;simp at this ⊢;omega
     ·obtain rfl:j = o:=(by omega);have HBW1:Hid (Below w1.heap.size w1 wr):=zH (HB2.out.trans (HBj.out.mono (by omega)));obtain ⟨A,c,L,hk8,hL,htb⟩:=HCI.out;have HK8:Hid (wr.heap[w.heap.size + 1]? = some (.cells #[.int .i64 j,.int .i64 v,.slice A L.length c] 27 (0,0))):=zH ((HBW1.out.block _ (by omega)).trans ((HGR.out.block _ (by omega) (by intro e;injection e with e;omega)).trans hk8));have HGL:Hid (GLo wr (w.heap.size + 3) A c L):=zH ((hL.block (w':=w1) (Nat.le_of_eq HSZ.out.symm) (fun b hb=>HGR.out.block _ (by rcases hb with hb | hb;exact hb.lt;exact hb.1.lt) (by intro e;injection e with e;subst e;rcases hb with hb | hb;exact HIT.out.ne_bt hb rfl;exact HIT.out.ne_bt hb.1 rfl))).below HBW1.out);have HIW:Hid (InT wr (A',c',gmW j (k0,k1,k2,k3))):=zH (InT.of_own HO.out (by simp [gmW,kws];omega) (by have:=ho2;omega) (fun y hy=>Zi9 HKI.out y (List.mem_of_mem_take hy)));have hwl:(gmW j (k0,k1,k2,k3)).length = j:=(by simp [gmW,kws];omega);have hLl:L.length = idx.length:=(by have:=congrArg List.length htb;simpa [YJ] using this);have hLm:idx.length + 1 <= m.length:=(by have:=H1IT.out.len_le;simpa using this);have HTB:=zH htb;clear hk8 hL htb HO HBj HG HKj HKB HGB HB2 HKW HTK;have kk2:wr.cell? ⟨w.heap.size + 1,2,none⟩ = some (.slice A L.length c):=(cell_of_row wr _ 2 _ _ _ HK8.out).trans rfl;have HLL:=zH hLl;have HLM:=zH hLm;have HWL:=zH hwl;clear hLl hLm hwl;go_wp2_with (at_builtin;refine Jg _ rfl (.tmp 49) (.tmp 51) _ rfl (w.heap.size + 3) 93 i0 _ 2 32 Tryz.underlying25 TI.out TZ0.out TZ1.out TZ2.out rfl (by omega) (.slice A L.length c) L.length (J6 L) rfl (HGL.out.row.alloc _) (some ⟨wr.heap.size,0,none⟩) 1 1 [.slice A' j c',.int .i64 n] rfl (fun e=>by cases e) (Vd _ _ _ _) rfl (by simp [Value.oneCell']) (by have:=HLL.out;have:=HLM.out;unfold maxLen;omega) (by have:=HLL.out;have:=HLM.out;omega) (by simp;omega) (L.length + 1) rfl ?_;intro A5 c5 w5 ho5 hg5 _;have HK5:Hid (w5.heap[w.heap.size + 1]? = some (.cells #[.int .i64 j,.int .i64 v,.slice A L.length c] 27 (0,0))):=zH ((hg5.block _ (by simp <;> omega) (fun e=>by have:=((HGL.out.row.alloc (.cells #[.slice A' j c',.int .i64 n] 93)).lt _ e.symm).1;omega)).trans ((Below.heap_alloc wr _ _ (by omega)).trans HK8.out));have k52:w5.cell? ⟨w.heap.size + 1,2,none⟩ = some (.slice A L.length c):=(cell_of_row w5 _ 2 _ _ _ HK5.out).trans rfl;have k53:w5.frozen? ⟨w.heap.size + 1,2,none⟩ = false:=Jl HK5.out 2;have HO5:=zH ho5;have HG5:=zH hg5;clear ho5 hg5);have hsn:=(HGL.out.below ((Below.refl wr.heap.size wr).alloc nR (.cells #[.slice A' j c',.int .i64 n] 93))).snoc (g:=((A',c',gmW j (k0,k1,k2,k3)),n)) (base':=w.heap.size + 3) (n:=L.length) (w':=w5) (A':=A5) (c':=c5) (HIW.out.below (bR.alloc nR _)) (by omega) HG5.out (by rw [HWL.out];exact HO5.out);have HSNC:=zH hsn;clear hsn;have hown:∀ b,(Value.slice A L.length c).ownBlock = some b -> w.heap.size + 3 <= b:=fun b e=>(HGL.out.row.lt b e).1;have hs1:w1.heap.size <= wr.heap.size:=HBW1.out.size;have hs5:wr.heap.size + 1 <= w5.heap.size:=(by have:=HG5.out.size;simpa using this);have HBL:∀ b,b < w.heap.size + 3 -> b ≠ w.heap.size + 1 -> (w5.setCell ⟨w.heap.size + 1,2,none⟩ (.slice A5 (L.length + 1) c5)).heap[b]? = w1.heap[b]?:=fun b hb hne=>
       (Below.heap_setCell w5 _ _ b hne).trans ((HG5.out.block _ (by simp;omega) (fun e=>by have:=hown b e.symm;omega)).trans ((Below.heap_alloc wr _ _ (by omega)).trans (HBW1.out.block _ (by omega))))
      have hit5:=H1IT.out.same (HBL bm (by omega) (by omega)) (HBL (w.heap.size + 2) (by omega) (by omega));have hlft:=hit5.left_eq;refine ⟨⟨idx ++ [i],zH hit5,zH ⟨A5,c5,L ++ [((A',c',gmW j (k0,k1,k2,k3)),n)],?_,?_,?_⟩,zH ((HBL _ (by omega) (by omega)).trans H6w.out),zH ?_,zH (HSN.out (by omega)),?_⟩,?_⟩
      ·rw [List.length_append];exact (JT HK5.out 2 _).trans rfl
      ·refine HSNC.out.block (by simp [World.setCell]) fun b hb=>Below.heap_setCell w5 _ _ b ?_;rcases hb with hb | hb
       ·exact hb.ne ⟨_,_,HK5.out⟩ (by decide)
       ·exact hb.1.ne ⟨_,_,HK5.out⟩ (by decide)
      ·rw [HGT.out,List.map_append,<- HTB.out];simp
      ·have b1:Below w.heap.size w w1:=HB.out.trans (Below.of_only HGR.out HB.out.size (by omega));have b2:Below w.heap.size w wr:=b1.trans (HBW1.out.mono b1.size);exact ((b2.alloc (by omega) _).grown HG5.out (by simp;omega) (fun k e=>by have:=hown k e;omega)).setCell (by simp) _
      ·simp only [World.setCell,Array.size_modify];omega
      ·rw [hlft,HIT.out.left_eq];have:=H1IT.out.len_le;simp at this ⊢;omega
theorem Vp (o:Nat) (v:Int) (bm:Nat) (m:List (K4 × Int)) (w:World) (hm:MI w bm m) (ho1 : 1 <= o) (ho2:o <= 4) (hl:m.length <= 9223372036854775807) (hk:Hid (∀ p ∈ m,kOk p.1)) (hv:Hid (∀ p ∈ m,0 <= p.2 /\ p.2 <= 9223372036854775807)) :
  Calls Tryz.prog 90 #[.int .i64 o,.int .i64 v,.map (some bm)] w (RetCol o v m w):=by
 by_cases hml:m.length <= 20000
 ·exact Qg o v bm m w hm ho1 ho2 hml hk hv
 ·obtain ⟨W,hW⟩:∃ W:World,W = w.alloc (.cells #[.int .i64 0,.int .i64 0,.slice none 0 0] 27):=⟨_,rfl⟩;have HB:Hid (Below w.heap.size w W):=zH (by rw [hW];exact bR.alloc nR _);have HMW:=zH (hm.below HB.out);have hlen:∀ ty,(Builtin.len_ #[162] ty #[.map (some bm)]).run Tryz.prog (w.alloc (.cells #[.int .i64 0,.int .i64 0,.slice none 0 0] 27)) = .ok (.int .i64 (m.length:Int)) (w.alloc (.cells #[.int .i64 0,.int .i64 0,.slice none 0 0] 27)):=fun ty=>by rw [<- hW];exact MI.len HMW.out ty
  have H6:Hid (W.heap[w.heap.size]? = some (.cells #[.int .i64 0,.int .i64 0,.slice none 0 0] 27 (0,0))):=zH (by rw [hW];exact heap_alloc_new w _);have HR:Hid (Ul m = 5):=zH (by unfold Ul;rw [if_pos (by omega)]);go_enter Tryz.func90,Tryz.ntmps90;go_wp2_with fail;rw [<- hW];have g0:=(cR 0 H6.out).trans rfl;have g1:=(cR 1 H6.out).trans rfl;have g2:=(cR 2 H6.out).trans rfl;refine bodyPost_ret (v:=.tuple #[.agg #[.int .i64 0,.int .i64 0,.slice none 0 0],.int .i64 5]) (by simp [results,Tryz.results90,go_sem,g0,g1,g2]) rfl ?_;refine ⟨HB.out,?_⟩;rw [if_neg (by rw [HR.out];omega),HR.out]
end Go.Proofs.YtlgdlenoohkipaaGreat
namespace Go.Proofs.YtlgdlenoohkipaaGreat
open Go.RowKit

def ZhL (B:Nat) (Kp:World -> World -> Prop) (I:Nat -> World -> Prop) (k:Nat) (W:World):Exit -> Act -> World -> Prop
 | .normal,_,W'=>KeepsFrom B W W' /\ Kp W W' /\ I (k + 1) W'
 | _,_,_=>False

theorem Zd2 {F:Fence} {n:Nat} {P:Program} {g:Operand} {ps:Array Tmp} {assign body:Code} {Q:Exit -> Act -> World -> Prop} {a:Act} {w:World}
  (hro:F.round = none) (h1 : 1 <= n) {gf:Nat} {lb:Array Value} (hg:a.eval g = .func (.func gf) #[] lb) (hFg:F.fn gf) (eg:∀ args w,(callFunc gf args).run P w = .ok (.enter gf args) w)
  (N:Nat) (I:Nat -> World -> Prop) (X:Nat -> Value -> World -> Prop) (Kp:World -> World -> Prop)
  (hKt:∀ {A B C:World},Kp A B -> Kp B C -> Kp A C)
  (hKb:∀ (W:World) (l:Nat) (o o':Obj),w.heap.size <= l -> W.heap[l]? = some o -> o.isCells = false -> Kp W (W.putObj l o'))
  (hps:ps.size = 1)
  (hIb:∀ (k:Nat) (W W':World),I k W -> w.heap.size <= W.heap.size -> Below W.heap.size W W' -> I k W')
  (hIp:∀ (k:Nat) (W:World) (l:Nat) (o o':Obj),w.heap.size <= l -> W.heap[l]? = some o -> o.isCells = false -> I k W -> I k (W.putObj l o'))
  (hXp:∀ (k:Nat) (v:Value) (W:World) (l:Nat) (o o':Obj),w.heap.size <= l -> W.heap[l]? = some o -> o.isCells = false -> X k v W -> X k v (W.putObj l o'))
  (h0:I 0 w)
  (hseq:∀ (l:Nat) (J:Nat -> World -> Prop) (W:World),Below w.heap.size w W -> (∀ k W W',J k W -> Below W.heap.size W W' -> J k W') -> J 0 W ->
   (∀ k v W,J k W -> X k v W -> k < N -> YieldAt F (n - 1 - 1) P l #[v] W (fun e W'=>e = .returned (.bool true) /\ J (k + 1) W' /\ Kp W W')) ->
   CallsIn F (n - 1) P gf (#[.func (.yield l) #[] #[]] ++ lb) W (fun e W'=>(∃ v,e = .returned v) /\ J N W'))
  (hround:∀ (l k:Nat) (v:Value) (W W2:World),I k W2 -> X k v W2 -> k < N ->
   assign.wpIn (F.inRound l) (n - 1 - 1) P (Exit.then (fun a₁ w₁=>w₁ = W /\ body.wpIn (F.inRound l) (n - 1 - 1) P (ZhL w.heap.size Kp I k W2) a₁ W2) (fun _ _ _=>False)) { tmps:=(ps.zip #[v]).foldl (fun t (p,v)=>t.setIfInBounds p v) a.tmps,defers:=[] } W)
  (hdone:∀ (D:Nat) (W:World),w.heap.size <= D -> I N W -> W.heap[D]? = some (.deferred (some [])) -> Q .normal { a with defers:={ target:=.collected D,args:=#[] } :: a.defers } W) :
  (Code.rangeFunc g ps assign body).wpIn F n P Q a w:=by
 refine wpIn_rangeFunc ?_;intro fn hfn;rw [hro];obtain ⟨rec,hrec⟩:∃ rec:LoopState -> Option Code -> Loop,rec = fun st pe=>{ state:=st,pending:=pe,fn,tmps:=a.tmps,params:=ps,assign,body,defers:=w.heap.size }:=⟨_,rfl⟩;obtain ⟨W1,hW1⟩:∃ W1,(w.alloc (.deferred (some []))).alloc (.loop (rec .ready none)) = W1:=⟨_,rfl⟩;have hL1:W1.heap[w.heap.size + 1]? = some (.loop (rec .ready none)):=by
  rw [<- hW1];have:=World.alloc_heap_new (w.alloc (.deferred (some []))) (.loop (rec .ready none));rwa [World.size_alloc] at this
 have hK1:W1.heap[w.heap.size]? = some (.deferred (some [])):=by
  rw [<- hW1];exact (Below.heap_alloc _ _ _ (by simp)).trans (World.alloc_heap_new w _)
 have hb1:Below w.heap.size w W1:=by
  rw [<- hW1];exact ((Below.refl _ w).alloc (Nat.le_refl _) _).alloc (by simp) _
 have hI1:I 0 W1:=hIb 0 w W1 h0 (Nat.le_refl _) hb1;refine ⟨w.heap.size + 1,[{ target:=.collected w.heap.size,args:=#[] }],W1,{ target:=.fn (.func gf) lb,args:=#[.func (.yield (w.heap.size + 1)) #[] #[]] },W1,gf,
  #[.func (.yield (w.heap.size + 1)) #[] #[]] ++ lb,W1,?_,?_,?_,?_,fun _=>h1,?_⟩
 ·rw [<- hW1,hrec];exact run_enterLoop_outer _ _ _ _ _
 ·simp only [resolve,hg];simp [go_sem]
 ·intro f' hf';simp [Target.leads] at hf';subst hf';exact hFg
 ·simp [invoke,go_sem,eg]
 ·refine (hseq (w.heap.size + 1)
   (fun k W=>I k W /\ W.heap[w.heap.size + 1]? = some (.loop (rec .ready none)) /\ W.heap[w.heap.size]? = some (.deferred (some [])))
   W1 hb1 (fun k W W' hj hb=>?_) ⟨hI1,hL1,hK1⟩ ?_).mono ?_
  ·obtain ⟨h2,h3,h4⟩:=hj;have l3:=(Array.getElem?_eq_some_iff.1 h3).1;have l4:=(Array.getElem?_eq_some_iff.1 h4).1;exact ⟨hIb k W W' h2 (by omega) hb,(hb.block _ l3).trans h3,(hb.block _ l4).trans h4⟩
  ·rintro k v W ⟨hi,hl,hk⟩ hx hkN;have hlt:w.heap.size + 1 < W.heap.size:=(Array.getElem?_eq_some_iff.1 hl).1;have hy:=run_yield (P:=P) (args:=#[v]) hl (by rw [hrec];exact hps.symm);rw [hrec] at hy;have hl2:(W.putObj (w.heap.size + 1) (.loop { rec .ready none with state:=.busy })).heap[w.heap.size + 1]? = some (.loop { rec .ready none with state:=.busy }):=World.putObj_heap_same hlt;have hk2:(W.putObj (w.heap.size + 1) (.loop { rec .ready none with state:=.busy })).heap[w.heap.size]? = some (.deferred (some [])):=(World.putObj_heap_other (by omega)).trans hk;have hw2:Kp W (W.putObj (w.heap.size + 1) (.loop { rec .ready none with state:=.busy })):=hKb _ _ _ _ (by omega) hl rfl;refine ⟨fn,_,assign,body,hy,roundIn_of_wpIn hfn (wpIn_mono (hround _ k v W (W.putObj (w.heap.size + 1) (.loop { rec .ready none with state:=.busy })) (hIp _ _ _ _ _ (by omega) hl rfl hi) (hXp _ _ _ _ _ _ (by omega) hl rfl hx) hkN) ?_)⟩;clear hy;rintro e a1 w1 he;cases e with
   | ret=>exact he
   | exit id=>exact he
   | goto t=>exact he
   | panic ch=>exact he
   | outgrown=>exact he
   | normal=>
   obtain ⟨rfl,hbody⟩:=he;refine ⟨_,run_beginRound hl (by rw [hrec]),?_⟩;refine wpIn_mono hbody ?_;rintro e a3 W3 hp;cases e with
   | normal=>
    obtain ⟨hk3,hkp3,hi3⟩:=hp;have hl3:=hk3.same _ _ (by omega) hl2 rfl;have hl3':=hl3;have hr:=run_endRound (P:=P) none hl3;rw [hrec] at hr hl3;have hend:(W3.putObj (w.heap.size + 1) (.loop (rec .ready none))).heap[w.heap.size + 1]? = some (.loop (rec .ready none)):=World.putObj_heap_same (Array.getElem?_eq_some_iff.1 hl3).1;refine ⟨_,_,hr,rfl,⟨?_,?_,?_⟩,?_⟩
    ·exact hIp _ _ _ _ _ (by omega) hl3 rfl hi3
    ·rw [hrec] at hend ⊢;exact hend
    ·exact (World.putObj_heap_other (by omega)).trans (hk3.same _ _ (Nat.le_refl _) hk2 rfl)
    ·exact hKt (hKt hw2 hkp3) (hKb _ _ _ _ (by omega) hl3 rfl)
   | ret=>exact hp.elim
   | exit id=>exact hp.elim
   | goto t=>exact hp.elim
   | panic ch=>exact hp.elim
   | outgrown=>exact hp.elim
  ·rintro e W2 ⟨⟨v,rfl⟩,hi,hl,hk⟩;have he:=run_endLoop (P:=P) hl (by rw [hrec];simp);rw [hrec] at he;exact ⟨none,_,he,hdone _ _ (Nat.le_refl _) (hIp _ _ _ _ _ (by omega) hl rfl hi) ((World.putObj_heap_other (by omega)).trans hk)⟩
open Ear
def Qc (A:Option Addr) (f c:Nat):Option Addr:=if c = f then A else A.map (·.add f)

theorem Lies.cut {w:World} {A:Option Addr} {l:List Int} {f t c:Nat} (h:Lies w A (ics l)) (h1:f <= t) (h2:t <= l.length) (hlc:l.length <= c):Lies w (Qc A f c) (ics ((l.drop f).take (t - f))):=by
 intro h0;simp only [List.length_map,List.length_take,List.length_drop] at h0;obtain ⟨b,off,rfl,hb,hc⟩:=h (by simp;omega);refine ⟨b,off + f,?_,hb,fun k u hu=>?_⟩
 ·unfold Qc;rw [if_neg (by omega)];simp [Addr.add_lit]
 ·rw [Nat.add_assoc];apply hc;simp only [ics,List.getElem?_map,List.getElem?_take,List.getElem?_drop] at hu ⊢;split at hu
  ·exact hu
  ·simp at hu
attribute [local go_sem] Oper.semAt_some

theorem QZ (A:Option Addr) (n c f:Nat) (h1:f <= n) (w:World) :
  (Instr.slice 35 (.slice A n c) (some (.int .i64 f)) none none).run Tryz.prog w = .ok (.slice (Qc A f c) (n - f) (c - f)) w:=by
 have e1:(f:Int) <= (n:Int):=by omega
 have e0:Tryz.prog.elem 35 = 3:=by kernel_rfl
 rw [run_slice_l (t:=35) (a:=A) (len:=n) (cap:=c) (ht:=by rw [e0];exact Tryz.underlying35) (kl:=.i64) (l:=f) (h0:=by omega) (h1:=e1),e0];have hs:(sizeOf 3).run Tryz.prog w = .ok 1 w:=by kernel_rfl
 rw [hs];simp [Result.andThen,sliced,Qc]
theorem Lies.cutL {w:World} {A:Option Addr} {l:List Int} {f c:Nat} (h:Lies w A (ics l)) (h1:f <= l.length) (hlc:l.length <= c):Lies w (Qc A f c) (ics (l.drop f)):=by
 have:=h.cut (f:=f) (t:=l.length) (c:=c) h1 nR hlc
 rwa [List.take_of_length_le (by simp)] at this
end Go.Proofs.YtlgdlenoohkipaaGreat
namespace Ear
def YE (o:Nat) (s:List Int):List Int:=List.replicate (o - 1) 0 ++ s ++ [0]
def Jt (o:Nat) (s:List Int) (k:Nat):List Int:=((YE o s).drop k).take o
theorem Zc {o:Nat} (ho : 1 <= o) (s:List Int):(YE o s).length = o + s.length:=by simp [YE];omega
theorem JY {o:Nat} (ho : 1 <= o) {s:List Int} {k:Nat} (hk:k < s.length + 1):(Jt o s k).length = o:=by
 unfold Jt;rw [List.length_take,List.length_drop,Zc ho];omega
theorem YQ {o:Nat} {s:List Int} {k:Nat} {x:Int} (h:x ∈ Jt o s k):x = 0 ∨ x ∈ s:=by
 have:=List.mem_of_mem_drop (List.mem_of_mem_take h);simp only [YE,List.mem_append,List.mem_replicate,List.mem_singleton] at this;rcases this with (⟨_,h⟩ | h) | h
 ·exact .inl h
 ·exact .inr h
 ·exact .inl h
end Ear
