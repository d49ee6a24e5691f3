/- TopLearned -/
import Derived.Test.YtlgdlenoohkipaaGreatMTearn21
set_option maxRecDepth 100000
set_option maxHeartbeats 32000000
namespace Go.Proofs.YtlgdlenoohkipaaGreat
open Go.RowKit Ear

def MgG (bm bx st:Nat) (sl:Value) (key:K4) (n xn:Int) (o1:Obj):Nat -> Value -> World -> Prop
 | 0,v,_=>v = .map (some bm)
 | 1,v,_=>v = .pointer (some ⟨bx,0,none⟩)
 | 2,v,_=>v = sl
 | 3,v,_=>v = ek key
 | 4,v,_=>v = .int .i64 n
 | 5,v,_=>v = .pointer (some ⟨bx,1,none⟩)
 | 6,v,_=>v = .int .i64 xn
 | 7,v,_=>v = .int .i64 (n + xn)
 | 8,v,u=>v = .tuple #[.int .i64 n,goInt st] /\ u.heap[bm]? = some o1
 | 9,v,_=>v = goInt st
 | _,_,_=>True
theorem MgG.keeps {bm bx st:Nat} {sl:Value} {key:K4} {n xn:Int} {o1:Obj} (j:Nat) (v:Value) (u u':World) (h:MgG bm bx st sl key n xn o1 j v u) (ht:CrT bm o1 u u'):MgG bm bx st sl key n xn o1 j v u':=by
 unfold MgG at h ⊢;split <;> simp_all;exact ht h.2
theorem InOk.kpc {w w':World} {x:Inn} (h:InOk w x) (k:KpC w w'):InOk w' x:=⟨k.lies h.1,h.2⟩
theorem Tb.kpc {w w':World} {A:Option Addr} {L:List Gm} (h:Tb w A L) (k:KpC w w'):Tb w' A L:=⟨k.lies h.lies,fun g hg=>(h.inn g hg).kpc k,h.num⟩
theorem TTs.kpc {w w':World} {B:Option Addr} {Ts:List TT} (h:TTs w B Ts) (k:KpC w w'):TTs w' B Ts:=⟨k.lies h.lies,fun t ht=>(h.tab t ht).kpc k,h.len⟩
theorem ZgU (o:Nat) (v:Int) (A B:Option Addr) (c d:Nat) (L M:List Gm) (w:World) (hA:Tb w A L) (hB:Tb w B M) (va:Hid (Xz o v (Je L) = 0)) (vb:Hid (Xz o v (Je M) = 0)) :
  Calls Tryz.prog 40 #[.agg #[.int .i64 o,.int .i64 v,.slice A L.length c],.agg #[.int .i64 o,.int .i64 v,.slice B M.length d]] w (RetCol o v (mrg (mrg [] (Je L)) (Je M)) w):=by
 obtain ⟨Ts,hTs⟩:∃ Ts:List TT,Ts = [⟨o,v,A,c,L⟩,⟨o,v,B,d,M⟩]:=⟨_,rfl⟩;have hL2:L.length <= 20000:=by have:=(JK.1 va.out).1;simpa using this
 have hM2:M.length <= 20000:=by have:=(JK.1 vb.out).1;simpa using this
 have HVT:Hid (∀ t ∈ Ts,Xz t.o t.v (Je t.L) = 0):=zH (by rw [hTs];intro t ht;simp at ht;rcases ht with rfl | rfl;exact va.out;exact vb.out);obtain ⟨W0,hW0⟩:∃ W0:World,W0 = ((w.alloc (.cells #[.int .i64 o,.int .i64 v,.slice A L.length c] 27)).alloc (.cells #[.int .i64 o,.int .i64 v,.slice B M.length d] 27)).alloc (.cells #[.int .i64 0,.int .i64 0,.slice none 0 0] 27):=⟨_,rfl⟩;have hs0:W0.heap.size = w.heap.size + 3:=by rw [hW0];simp
 have HB0:Hid (Below w.heap.size w W0):=zH (by rw [hW0];exact (((Below.refl _ w).alloc nR _).alloc (by simp) _).alloc (by simp;omega) _);have HA0:Hid (W0.heap[w.heap.size]? = some (.cells #[.int .i64 o,.int .i64 v,.slice A L.length c] 27 (0,0))):=zH (by rw [hW0];exact (Below.heap_alloc _ _ _ (by simp;omega)).trans ((Below.heap_alloc _ _ _ (by simp)).trans (heap_alloc_new w _)));have HC0:Hid (W0.heap[w.heap.size + 1]? = some (.cells #[.int .i64 o,.int .i64 v,.slice B M.length d] 27 (0,0))):=zH (by
  rw [hW0];refine (Below.heap_alloc _ _ _ (by simp)).trans ?_;have:=heap_alloc_new (w.alloc (.cells #[.int .i64 o,.int .i64 v,.slice A L.length c] 27)) (.cells #[.int .i64 o,.int .i64 v,.slice B M.length d] 27);simpa using this)
 have HT0:Hid (W0.heap[w.heap.size + 2]? = some (.cells #[.int .i64 0,.int .i64 0,.slice none 0 0] 27 (0,0))):=zH (by
  rw [hW0];have:=heap_alloc_new ((w.alloc (.cells #[.int .i64 o,.int .i64 v,.slice A L.length c] 27)).alloc (.cells #[.int .i64 o,.int .i64 v,.slice B M.length d] 27)) (.cells #[.int .i64 0,.int .i64 0,.slice none 0 0] 27);simpa using this)
 have HTA:=zH (hA.below HB0.out);have HTB:=zH (hB.below HB0.out);have HTT:Hid (∀ (W V:World) (b:Nat),Below W0.heap.size W0 V -> V.heap[b]? = some (.cells #[.int .i64 o,.int .i64 v,.slice A L.length c,.int .i64 o,.int .i64 v,.slice B M.length d] 27 (0,0)) -> TTs V (some ⟨b,0,none⟩) Ts):=zH (fun W V b hb hr=>by
  rw [hTs];refine ⟨fun _=>⟨b,0,rfl,(aE hr).1,fun k u hu=>by rw [Nat.zero_add,cell_of_row _ _ k _ _ _ hr];simpa [ZaA] using hu⟩,?_,?_⟩
  ·intro t ht;simp at ht;rcases ht with rfl | rfl
   ·exact HTA.out.below hb
   ·exact HTB.out.below hb
  ·intro t ht;simp at ht;rcases ht with rfl | rfl
   ·exact hL2
   ·exact hM2)
 have HTL:Hid (Ts.length = 2):=zH (by rw [hTs];rfl);have HTs:=zH hTs;clear hTs hA hB;have a0:=(cR 0 HA0.out).trans rfl;have a1:=(cR 1 HA0.out).trans rfl;have a2:=(cR 2 HA0.out).trans rfl;have b0:=(cR 0 HC0.out).trans rfl;have b1:=(cR 1 HC0.out).trans rfl;have b2:=(cR 2 HC0.out).trans rfl;go_enter Tryz.func40,Tryz.ntmps40;go_wp2_with fail;rw [<- hW0];clear hW0;clear a0 a1 a2 b0 b1 b2;obtain ⟨W1,hW1⟩:∃ W1:World,W1 = W0.alloc (.cells #[.int .i64 o,.int .i64 v,.slice A L.length c,.int .i64 o,.int .i64 v,.slice B M.length d] 27):=⟨_,rfl⟩;rw [<- hW1];have hs1:W1.heap.size = w.heap.size + 4:=by rw [hW1];simp;omega
 have HB1:Hid (Below W0.heap.size W0 W1):=zH (by rw [hW1];exact bR.alloc nR _);have hr1:W1.heap[w.heap.size + 1 + 1 + 1]? = some (.cells #[.int .i64 o,.int .i64 v,.slice A L.length c,.int .i64 o,.int .i64 v,.slice B M.length d] 27 (0,0)):=by rw [hW1,show w.heap.size + 1 + 1 + 1 = W0.heap.size by omega];exact heap_alloc_new W0 _
 have ht1:=HTT.out W0 W1 _ HB1.out hr1;have hc1:=Qi (some ⟨w.heap.size + 1 + 1 + 1,0,none⟩) 2 Ts W1 ht1 (by rw [HTL.out];omega) HVT;rw [HTL.out] at hc1;refine hc1.mono ?_;rintro e w1 ⟨rfl,hb1⟩;have HW1:Hid (Below W0.heap.size W0 w1):=zH (HB1.out.trans (hb1.mono HB1.out.size));have hsw:W1.heap.size <= w1.heap.size:=hb1.size;clear hc1 ht1 hr1 hW1 hb1;have hmk:∀ W:World,(Instr.makeMap 162 none).run Tryz.prog W = .ok (.map (some W.heap.size)) (W.alloc (.map #[] 0)):=fun W=>rfl;have hm1:∀ b,b < W0.heap.size -> (w1.alloc (.map #[] 0)).heap[b]? = W0.heap[b]?:=fun b hb=>(Below.heap_alloc _ _ _ (by omega)).trans (HW1.out.block _ hb);have a0:=(cR 0 ((hm1 _ (by omega)).trans HA0.out)).trans rfl;have a1:=(cR 1 ((hm1 _ (by omega)).trans HA0.out)).trans rfl;have a2:=(cR 2 ((hm1 _ (by omega)).trans HA0.out)).trans rfl;have b0:=(cR 0 ((hm1 _ (by omega)).trans HC0.out)).trans rfl;have b1:=(cR 1 ((hm1 _ (by omega)).trans HC0.out)).trans rfl;have b2:=(cR 2 ((hm1 _ (by omega)).trans HC0.out)).trans rfl;have HM1:=zH hm1;clear hm1;go_wp2_with fail;obtain ⟨V,hV⟩:∃ V:World,V = (w1.alloc (.map #[] 0)).alloc (.cells #[.int .i64 o,.int .i64 v,.slice A L.length c,.int .i64 o,.int .i64 v,.slice B M.length d] 27):=⟨_,rfl⟩;rw [<- hV];have hVs:V.heap.size = w1.heap.size + 2:=by rw [hV];simp
 have HBV:Hid (Below W0.heap.size W0 V):=zH (by rw [hV];exact HW1.out.trans ((al2 w1 _ _).mono (by omega)));have HMV:Hid (MI V w1.heap.size []):=zH (by rw [hV];exact (MapIs.made Tryz.prog 166 ek (Value.int .i64) w1).below (bR.alloc nR _));have hrv:V.heap[w1.heap.size + 1]? = some (.cells #[.int .i64 o,.int .i64 v,.slice A L.length c,.int .i64 o,.int .i64 v,.slice B M.length d] 27 (0,0)):=by rw [hV];have:=heap_alloc_new (w1.alloc (.map #[] 0)) (.cells #[.int .i64 o,.int .i64 v,.slice A L.length c,.int .i64 o,.int .i64 v,.slice B M.length d] 27);simpa using this
 have HTV:=zH (HTT.out W0 V _ HBV.out hrv);have HIV:Hid (MgI w V w1.heap.size (mrg [] (XZ Ts 0)) V):=zH ⟨HMV.out,Nat.le_refl _,fun _ _ _=>rfl,HB0.out.trans (HBV.out.mono HB0.out.size)⟩;have HRS:Hid (∀ k,∀ g ∈ XZ Ts k,gOk g):=zH (Zf9 HVT.out);have HRL:Hid (∀ k,(XZ Ts k).length <= 40000):=zH (fun k=>by
  rw [HTs.out];unfold XZ
  match k with
  | 0=>simp
  | 1=>simp;omega
  | k + 2=>simp;omega)
 clear hV hrv hmk a0 a1 a2 b0 b1 b2 HTT;have hw10:w.heap.size + 3 <= w1.heap.size:=by omega
 go_loopw [25] (fun i wr=>∃ k:Nat,k <= 2 /\ i = .int .i64 k /\ Hid (MgI w V w1.heap.size (mrg [] (XZ Ts k)) wr)) (fun i _=>2 - (intOf i).toNat)
 case atStart=>exact ⟨0,by omega,rfl,HIV⟩
 case round=>
  obtain ⟨k,hk,rfl,HI⟩:=hrel;clear HIV;obtain ⟨Wr,rfl⟩:∃ X,X = wr:=⟨_,rfl⟩;have HTW:=zH (HTV.out.kpc (HI.out.kpc HMV.out));have hszr:=HI.out.size;by_cases hlt:k < 2
  ·have hkT:k < Ts.length:=by rw [HTL.out];exact hlt
   obtain ⟨bk,off,eB,hbk,hc0,hc1,hc2⟩:=HTW.out.at_ hkT;cases eB;simp only [Nat.zero_add] at hc0 hc1 hc2;have HX:=zH (HTW.out.tab _ (yM hkT));have HLN:=HTW.out.len _ (yM hkT);have HSU:Hid (XZ Ts (k + 1) = XZ Ts k ++ Je Ts[k].L):=zH (Zdn Ts hkT);have HGK:Hid (∀ g ∈ Je Ts[k].L,gOk g):=zH (VC (HVT.out _ (yM hkT)));generalize Ts[k] = X at *
   obtain ⟨xo,xv,xA,xc,xL⟩:=X;simp only at *
   obtain ⟨W5,hW5⟩:∃ W5:World,W5 = Wr.alloc (.cells #[.int .i64 xo,.int .i64 xv,.slice xA xL.length xc] 27):=⟨_,rfl⟩;have HB5:Hid (Below Wr.heap.size Wr W5):=zH (by rw [hW5];exact bR.alloc nR _);have hs5:W5.heap.size = Wr.heap.size + 1:=(by rw [hW5];simp);have hr5:=heap_alloc_new Wr (.cells #[.int .i64 xo,.int .i64 xv,.slice xA xL.length xc] 27);rw [<- hW5] at hr5;have e2:=(cR 2 hr5).trans rfl;clear hr5;go_wp2_with fail;rw [<- hW5];clear hW5;go_wp2_with fail;have HI5:Hid (MgI w W5 w1.heap.size (mrg [] (XZ Ts k ++ (Je xL).take 0)) W5):=zH (by
    rw [List.take_zero,List.append_nil];exact (HI.out.at_.below' HB5.out).at_)
   have hw5:w1.heap.size + 2 <= W5.heap.size:=(by omega);go_loopw [32] (fun i wr=>∃ j:Nat,j <= xL.length /\ i = .int .i64 j /\ Hid (MgI w W5 w1.heap.size (mrg [] (XZ Ts k ++ (Je xL).take j)) wr)) (fun i _=>xL.length - (intOf i).toNat)
   case atStart=>exact ⟨0,by omega,rfl,HI5⟩
   case round=>
    obtain ⟨j,hj,rfl,HJ⟩:=hrel;obtain ⟨W2,rfl⟩:∃ X,X = wr:=⟨_,rfl⟩;have hsz2:=HJ.out.size;by_cases hjl:j < xL.length
    ·have HTX:=(HX.out.below HB5.out).kpc (HJ.out.kpc HI5.out.map);obtain ⟨b2,off2,eA,hb2,hcw,hcn⟩:=HTX.at_ hjl;cases eA;have hjt:j < (Je xL).length:=(by simpa using hjl);have HGJ:Hid (gOk (xL[j].1.2.2,xL[j].2)):=zH (HGK.out _ (List.mem_map_of_mem (yM hjl)));have HLX:=zH (HTX.inn _ (yM hjl));have HSN:Hid (mrg [] (XZ Ts k ++ (Je xL).take (j + 1)) = Xr (mrg [] (XZ Ts k ++ (Je xL).take j)) (kOf xL[j].1.2.2) ((JB (mrg [] (XZ Ts k ++ (Je xL).take j)) (kOf xL[j].1.2.2)).getD 0 + xL[j].2)):=zH (by
      rw [List.take_succ_eq_append_getElem hjt,<- List.append_assoc,Zgs];simp)
     generalize xL[j] = g at *
     obtain ⟨⟨XA,Xc,xl⟩,xn⟩:=g;simp only at *
     obtain ⟨W6,hW6⟩:∃ W6:World,W6 = W2.alloc (.cells #[.slice XA xl.length Xc,.int .i64 xn] 93):=⟨_,rfl⟩;have HB6:Hid (RowKit.Below W2.heap.size W2 W6):=zH (by rw [hW6];exact bR.alloc nR _);have hs6:W6.heap.size = W2.heap.size + 1:=(by rw [hW6];simp);have hr6:=heap_alloc_new W2 (.cells #[.slice XA xl.length Xc,.int .i64 xn] 93);rw [<- hW6] at hr6;have HR6:=zH hr6;clear hr6 HTX;go_upto_region 11 with fail;rw [<- hW6];clear hW6;obtain ⟨mm,hmm⟩:∃ mm,mm = mrg [] (XZ Ts k ++ (Je xL).take j):=⟨_,rfl⟩;have HM6:Hid (MI W6 w1.heap.size mm):=zH (by rw [hmm];exact HJ.out.map.below HB6.out);have hmb:∀ p ∈ mm,0 <= p.2 /\ p.2 <= 100000 * 1073741824:=fun p hp=>by
      have h1:=ZeK (XZ Ts k ++ (Je xL).take j) [] 0 (by omega) (by simp) (fun g hg=>by
       rcases List.mem_append.1 hg with hg | hg
       ·exact HRS.out k g hg
       ·exact HGK.out g (List.mem_of_mem_take hg)) p (by rw [<- hmm];exact hp)
      have h2:=HRL.out k;have h3:((Je xL).take j).length <= 20000:=(by simp;omega);rw [List.length_append] at h1;omega
     obtain ⟨key,hkey⟩:∃ key,key = kOf xl:=⟨_,rfl⟩;obtain ⟨lk,hlk⟩:=UL key (by rw [hkey];exact UR HGJ.out);obtain ⟨st,o1,hmo,hE,hF⟩:=HM6.out.entry2 (t:=162) (e:=3) Xn YR Tryz.underlying162 (z:=0) (fun u=>Tryz.zeroValue3 u) key hlk;obtain ⟨n0,hn0⟩:∃ n0,n0 = (JB mm key).getD 0:=⟨_,rfl⟩;have hn1 : 0 <= n0 /\ n0 <= 100000 * 1073741824:=(by rw [hn0];exact ZeO (by omega) hmb key);have hx1 : 1 <= xn /\ xn <= 1073741824:=HGJ.out.2.2;rw [<- hn0] at hE;rw [<- hmm,<- hkey,<- hn0] at HSN;have HN0:=zH hn0;have HKEY:=zH hkey;have HMM:=zH hmm;have p1:IntKind.i64.wrap (n0 + xn) = n0 + xn:=IntWalk.i64_in _ (by omega);have hl4:xl.length <= 4:=HGJ.out.1;clear hn0 hkey hmm hmb;have hWs:w1.heap.size < W6.heap.size:=(by omega);have hrow:∀ u,CrS w1.heap.size o1 W6 u -> u.heap[W2.heap.size]? = some (.cells #[.slice XA xl.length Xc,.int .i64 xn] 93 (0,0)):=fun u hu=>(hu.grown.block W2.heap.size (by omega) (by intro e;injection e with e;omega)).trans HR6.out;have hKp:∀ u,CrS w1.heap.size o1 W6 u -> KpC W6 u:=fun u hu=>⟨hu.grown.size,fun b cs t fr e=>(hu.grown.block b (aE e).1 (by
      intro e2;injection e2 with e2
      subst e2;obtain ⟨es,c,h1,_⟩:=HM6.out.block;rw [h1] at e;cases e)).trans e⟩
     have HLK:=zH (HLX.out.1.below HB6.out);refine (wpIn_wide (n:=7)).1 ?_;refine Xq 10 69 rfl rfl (by kernel_rfl) (by kernel_rfl) (by kernel_rfl) (by kernel_rfl) (CrS w1.heap.size o1 W6) (CrT w1.heap.size o1) (MgG w1.heap.size W2.heap.size st (.slice XA xl.length Xc) key n0 xn o1) MgG.keeps ⟨⟨rfl,rfl,rfl,Nat.le_refl _,fun _ _ _=>rfl⟩,.inl rfl⟩ ?_ ?_
     ·refine ⟨?_,?_,?_,?_,?_,?_,?_,?_,?_,?_,trivial⟩
      ·intro b u su dp kp K hK;have e7:gT b 7 = .map (some w1.heap.size):=kp 7 (by kernel_rfl);go_simp;exact hK _ _ su (fun h=>h) rfl
      ·intro b u su dp kp K hK;have e11:gT b 11 = .pointer (some ⟨W2.heap.size,0,none⟩):=kp 11 (by kernel_rfl);go_simp;exact hK _ _ su (fun h=>h) rfl
      ·intro b u su dp kp K hK;have e37:gT b 37 = .pointer (some ⟨W2.heap.size,0,none⟩):=dp 1 _ rfl (by kernel_rfl);have c0:=(cR 0 (hrow u su)).trans rfl;go_simp;exact hK _ _ su (fun h=>h) rfl
      ·intro b u su dp kp K hK;have e38:gT b 38 = .slice XA xl.length Xc:=dp 2 _ rfl (by kernel_rfl);go_simp;have hk9:=Vh XA Xc xl u ((hKp u su).lies HLK.out) hl4 (zH HGJ.out.2.1);rw [<- HKEY.out] at hk9;refine ⟨trivial,((callsIn_wide (n:=6)).2 hk9).mono ?_⟩;rintro e u' ⟨rfl,hb'⟩;go_simp;exact hK _ _ (su.below hb' (by omega)) (fun h=>(hb'.block _ (by have:=su.grown.size;omega)).trans h) rfl
      ·intro b u su dp kp K hK;have e36:gT b 36 = .map (some w1.heap.size):=dp 0 _ rfl (by kernel_rfl);have e39:gT b 39 = ek key:=dp 3 _ rfl (by kernel_rfl);have h1:=(hE u su.map).1;go_simp;exact hK _ _ su (fun h=>h) rfl
      ·intro b u su dp kp K hK;have e11:gT b 11 = .pointer (some ⟨W2.heap.size,0,none⟩):=kp 11 (by kernel_rfl);go_simp;exact hK _ _ su (fun h=>h) rfl
      ·intro b u su dp kp K hK;have e41:gT b 41 = .pointer (some ⟨W2.heap.size,1,none⟩):=dp 5 _ rfl (by kernel_rfl);have c1:=(cR 1 (hrow u su)).trans rfl;go_simp;exact hK _ _ su (fun h=>h) rfl
      ·intro b u su dp kp K hK;have e40:gT b 40 = .int .i64 n0:=dp 4 _ rfl (by kernel_rfl);have e42:gT b 42 = .int .i64 xn:=dp 6 _ rfl (by kernel_rfl);go_simp;exact hK _ _ su (fun h=>h) rfl
      ·intro b u su dp kp K hK;have e36:gT b 36 = .map (some w1.heap.size):=dp 0 _ rfl (by kernel_rfl);have e39:gT b 39 = ek key:=dp 3 _ rfl (by kernel_rfl);have h1:=(hE u su.map).2;go_simp;have hlt:w1.heap.size < u.heap.size:=(by have:=su.grown.size;omega);exact hK _ _ ⟨JQ su.grown o1,.inr (JG hlt o1)⟩ (fun _=>JG hlt o1) ⟨rfl,JG hlt o1⟩
      ·intro b u su dp kp K hK;obtain ⟨e44,h44⟩:gT b 44 = .tuple #[.int .i64 n0,goInt st] /\ u.heap[w1.heap.size]? = some o1:=dp 8 _ rfl (by kernel_rfl);go_simp;exact hK _ _ su (fun h=>h) rfl
     ·intro o' b u ho hsz hdf su hG kp K hK;injection ho with ho
      subst ho;have e36:gT b 36 = .map (some w1.heap.size):=hG 0 _ rfl (by omega);have e43:gT b 43 = .int .i64 (n0 + xn):=hG 7 _ rfl (by omega);have e45:gT b 45 = goInt st:=hG 9 _ rfl (by omega);obtain ⟨_,h44⟩:gT b 44 = .tuple #[.int .i64 n0,goInt st] /\ u.heap[w1.heap.size]? = some o1:=hG 8 _ rfl (by omega);obtain ⟨o2,_,h1,h2⟩:=hF u (n0 + xn) h44;have hlt:w1.heap.size < u.heap.size:=(by have:=su.grown.size;omega);have hg2:=JQ su.grown o2;have hm2:=h2 _ (JG hlt o2);have h1':(Instr.entryStore 162 (.map (some w1.heap.size)) (.int .i64 (st:Int)) (.int .i64 (n0 + xn))).run Tryz.prog u = .ok () (ChangeMaps.setBlock u w1.heap.size o2):=h1;clear h2 hG h1;go_simp;refine hK _ _ ?_;have hJ2:MgI w W5 w1.heap.size (Xr mm key (n0 + xn)) (ChangeMaps.setBlock u w1.heap.size o2):=
       ⟨hm2,by have:=hg2.size;omega,fun b hb hne=>(hg2.block b (by omega) (by intro e;injection e with e;omega)).trans ((HB6.out.block b (by omega)).trans (HJ.out.same b hb hne)),(HJ.out.below.trans (HB6.out.mono HJ.out.below.size)).grown hg2 (by have:=HJ.out.below.size;omega) (fun j e=>by injection e with e;omega)⟩
      have HJ2:=zH hJ2;clear hJ2 hm2 hg2 h1' e36 e43 e45 h44 hK su;generalize ChangeMaps.setBlock u w1.heap.size o2 = u2 at *
      rw [Ju b _ [false,false,false,false,false,false,false,false,false,false,false,false,false,false,false,false,false,false,false,false,false,false,false,false,false,false,false,false,false,false,false,false,false,false,false,false,true,true,true,true,true,true,true,true,true,true,false,false,false,false,false,false,false,false,false,false,false,false,false,false,false,false,false,false,false,false,false,false,false] _ rfl hsz rfl (by kernel_rfl) hdf (fun k hk=>kp k (fun j o ho hj he=>by
       have:=List.all_eq_true.1 hk j (List.mem_range.2 (aE ho).1);simp [ho,he] at this))]
      simp only [Y2,Nat.reduceAdd];clear kp hsz hdf;generalize b.tmps.getD 36 undef = z36,b.tmps.getD 37 undef = z37,b.tmps.getD 38 undef = z38,b.tmps.getD 39 undef = z39,b.tmps.getD 40 undef = z40,b.tmps.getD 41 undef = z41,b.tmps.getD 42 undef = z42,b.tmps.getD 43 undef = z43,b.tmps.getD 44 undef = z44,b.tmps.getD 45 undef = z45;clear hE hF p1 hrow hKp;go_wp2_with fail;exact ⟨⟨j + 1,by omega,by go_num,zH (by rw [HSN.out];exact HJ2.out)⟩,by simp [intOf];omega⟩
    ·obtain rfl:j = xL.length:=(by omega);have hK9:MgI w V w1.heap.size (mrg [] (XZ Ts (k + 1))) W2:=by
      rw [HSU.out];have h9:=HJ.out;rw [List.take_of_length_le (by simp)] at h9;exact (HI.out.below' HB5.out).back h9
     have HK9:=zH hK9;clear hK9;go_wp2_with fail;exact ⟨⟨k + 1,by omega,by go_num,HK9⟩,by simp [intOf];omega⟩
  ·obtain rfl:k = 2:=by omega
   have hsm:∀ b,b < W0.heap.size -> Wr.heap[b]? = W0.heap[b]?:=fun b hb=>(HI.out.same b (by have:=HBV.out.size;omega) (by omega)).trans (HBV.out.block b hb);have a0:=(cR 0 ((hsm _ (by omega)).trans HA0.out)).trans rfl;have a1:=(cR 1 ((hsm _ (by omega)).trans HA0.out)).trans rfl;have b0:=(cR 0 ((hsm _ (by omega)).trans HC0.out)).trans rfl;have b1:=(cR 1 ((hsm _ (by omega)).trans HC0.out)).trans rfl;have HT6:Hid (Wr.heap[w.heap.size + 1 + 1]? = some (.cells #[.int .i64 0,.int .i64 0,.slice none 0 0] 27 (0,0))):=zH ((hsm _ (by omega)).trans HT0.out);have hmz:mrg [] (XZ Ts 2) = mrg (mrg [] (Je L)) (Je M):=by
    rw [HTs.out];unfold XZ;simp [QE]
   have HMZ:=zH hmz;have hsz:=Jx.1 (JK.1 va.out).2.1;have ho1 : 1 <= o:=(by omega);have ho2:o <= 4:=(by omega);clear hsm hmz hsz;go_wp2_with fail;have hcol:=Vp o v w1.heap.size (mrg [] (XZ Ts 2)) Wr HI.out.map ho1 ho2 (by have:=ZeJ (XZ Ts 2) [];have:=HRL.out 2;simp at *;omega) (zH (Zha _ _ (by simp) (HRS.out 2))) (zH (fun p hp=>by have h1:=ZeK (XZ Ts 2) [] 0 (by omega) (by simp) (HRS.out 2) p hp;have h2:=HRL.out 2;omega));rw [HMZ.out] at hcol;refine hcol.mono ?_;intro e w' hret;obtain ⟨ta,tb,tA,tn,tc,tr,rfl,hbw,hmv⟩:=hret.form;have HMV:=zH hmv;have HBW:=zH hbw;have HT':Hid (w'.heap[w.heap.size + 1 + 1]? = some (.cells #[.int .i64 0,.int .i64 0,.slice none 0 0] 27 (0,0))):=zH ((hbw.block _ (by omega)).trans HT6.out);clear hret hmv hbw hcol;have d0:=(cR 0 HT'.out).trans rfl;have d1:=(cR 1 HT'.out).trans rfl;have d2:=(cR 2 HT'.out).trans rfl;have f0:=Jl HT'.out 0;have f1:=Jl HT'.out 1;have f2:=Jl HT'.out 2;go_wp2_with fail;have hr6:=ZaV HT'.out (.int .i64 ta) (.int .i64 tb) (.slice tA tn tc);have g0:=(cR 0 hr6).trans rfl;have g1:=(cR 1 hr6).trans rfl;have g2:=(cR 2 hr6).trans rfl;refine bodyPost_ret (v:=.tuple #[.agg #[.int .i64 ta,.int .i64 tb,.slice tA tn tc],.int .i64 tr]) (by simp [results,Tryz.results40,go_sem,g0,g1,g2]) rfl ?_;have hb8:=HI.out.below;refine HMV.out w _ hb8.size ((((hb8.trans (HBW.out.mono hb8.size)).setCell (by simp;omega) _).setCell (by simp;omega) _).setCell (by simp;omega) _) (by simp [World.setCell]) (fun b hb=>JR (by
    rcases hb with hb | hb
    ·exact hb.ne ⟨_,_,HT'.out⟩ (by decide)
    ·exact hb.1.ne ⟨_,_,HT'.out⟩ (by decide)) _ _ _)
theorem Yd (p n cap:Nat) (B:Option Addr) (w:World) (hc:w.cell? ⟨p,0,none⟩ = some (.slice B n cap)) (hn : 0 < n) :
  Calls Tryz.prog 37 #[.pointer (some ⟨p,0,none⟩)] w fun e w'=>e = .returned (.bool true) /\ w' = w:=by
 go_enter Tryz.func37,Tryz.ntmps37;go_wp2_with fail;go_ret;exact ⟨rfl,rfl⟩
theorem VD (p n cap:Nat) (B:Option Addr) (w:World) (hc:w.cell? ⟨p,0,none⟩ = some (.slice B n cap)) (hn : 0 < n) (hm:n <= 1000000) :
  Calls Tryz.prog 16 #[.pointer (some ⟨p,0,none⟩)] w fun e w'=>e = .returned (.int .i64 ((n:Int) - 1)) /\ w' = w:=by
 have hr:=Yd p n cap B w hc hn;go_enter Tryz.func16,Tryz.ntmps16;go_wp2_with fail;refine hr.mono ?_;rintro e w' ⟨rfl,rfl⟩;go_wp2_with fail;go_ret;exact ⟨rfl,rfl⟩
theorem Ys (p cap:Nat) (B:Option Addr) (Ts:List TT) (t:TT) (w:World) (hc:w.cell? ⟨p,0,none⟩ = some (.slice B (Ts.length + 1) cap)) (h:TTs w B (Ts ++ [t])) (hm:Ts.length <= 1000000) :
  Calls Tryz.prog 39 #[.pointer (some ⟨p,0,none⟩)] w fun e w'=>e = .returned t.val /\ RowKit.Below w.heap.size w w':=by
 obtain ⟨W,hW⟩:∃ W:World,W = w.alloc (.cells #[.int .i64 0,.int .i64 0,.slice none 0 0] 27):=⟨_,rfl⟩;have HB:Hid (RowKit.Below w.heap.size w W):=zH (by rw [hW];exact bR.alloc nR _);have H2:Hid (W.heap[w.heap.size]? = some (.cells #[.int .i64 0,.int .i64 0,.slice none 0 0] 27 (0,0))):=zH (by rw [hW];exact heap_alloc_new w _);have hp:p < w.heap.size:=JW hc;obtain ⟨b,off,rfl,hb,hc0,hc1,hc2⟩:=(h.below HB.out).at_ (k:=Ts.length) (by simp);have hc':W.cell? ⟨p,0,none⟩ = some (.slice (some ⟨b,off,none⟩) (Ts.length + 1) cap):=(HB.out.cell (p:=⟨p,0,none⟩) hp).trans hc;simp only [List.getElem_concat_length] at hc0 hc1 hc2;obtain ⟨xo,xv,xA,xc,xL⟩:=t;unfold TT.val;simp only at *
 go_enter Tryz.func39,Tryz.ntmps39;go_wp2_with fail;rw [<- hW];clear hW hc h;have p1:IntKind.i64.wrap ((Ts.length:Int) + 1 - 1) = (Ts.length:Int):=by rw [IntWalk.i64_in _ (by omega)];omega
 have hlt:(Ts.length:Int) < (Ts.length:Int) + 1:=by omega
 have p2:IntKind.i64.wrap (Ts.length:Int) = (Ts.length:Int):=IntWalk.i64_in _ (by omega);have d0:=(cR 0 H2.out).trans rfl;have d1:=(cR 1 H2.out).trans rfl;have d2:=(cR 2 H2.out).trans rfl;have f0:=Jl H2.out 0;have f1:=Jl H2.out 1;have f2:=Jl H2.out 2;go_still_tail 12,(by kernel_rfl);go_wp2_with fail;have hr6:=ZaV H2.out (.int .i64 xo) (.int .i64 xv) (.slice xA xL.length xc);have hb6:=(((HB.out.setCell (p:=⟨w.heap.size,0,none⟩) nR (.int .i64 xo)).setCell (p:=⟨w.heap.size,1,none⟩) nR (.int .i64 xv)).setCell (p:=⟨w.heap.size,2,none⟩) nR (.slice xA xL.length xc)).drew;generalize (((W.setCell ⟨w.heap.size,0,none⟩ (.int .i64 xo)).setCell ⟨w.heap.size,1,none⟩ (.int .i64 xv)).setCell ⟨w.heap.size,2,none⟩ (.slice xA xL.length xc)) = V7 at *
 have g0:=(cell_of_row V7.drew _ 0 _ _ _ hr6).trans rfl;have g1:=(cell_of_row V7.drew _ 1 _ _ _ hr6).trans rfl;have g2:=(cell_of_row V7.drew _ 2 _ _ _ hr6).trans rfl;refine bodyPost_ret (v:=.agg #[.int .i64 xo,.int .i64 xv,.slice xA xL.length xc]) (by simp [results,Tryz.results39,go_sem,g0,g1,g2]) rfl ?_;exact ⟨rfl,hb6⟩
end Go.Proofs.YtlgdlenoohkipaaGreat
