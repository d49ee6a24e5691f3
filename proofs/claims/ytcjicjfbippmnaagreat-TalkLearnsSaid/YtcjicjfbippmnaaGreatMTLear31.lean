/- TalkLearns -/
import Derived.Test.YtcjicjfbippmnaaGreatMTLear30
set_option maxRecDepth 100000
set_option maxHeartbeats 32000000
namespace Go.Proofs.YtcjicjfbippmnaaGreat
open Go.RowKit Ear

structure RlI (w:World) (p:Nat) (o v:Int) (A:Option Addr) (c:Nat) (L:List Gm) (SA:Option Addr) (sc:Nat) (S:List Inn) (NA:Option Addr) (nc:Nat) (Ns:List Int):Prop where
 cell:w.heap[p]? = some (.cells #[.int .i64 o,.int .i64 v,.slice A L.length c,.slice SA S.length sc,.slice NA Ns.length nc] 93 (0,0))
 tab:Tb w A L
 sen:LL w SA S
 num:Lies w NA (ics Ns)
theorem RlI.below {w w':World} {p:Nat} {o v:Int} {A SA NA:Option Addr} {c sc nc:Nat} {L:List Gm} {S:List Inn} {Ns:List Int} (h:RlI w p o v A c L SA sc S NA nc Ns) (hb:RowKit.Below w.heap.size w w'):RlI w' p o v A c L SA sc S NA nc Ns:=
 ⟨(hb.block p (aE h.cell).1).trans h.cell,h.tab.below hb,h.sen.below hb,h.num.below hb⟩
theorem RlI.cells {w:World} {p:Nat} {o v:Int} {A SA NA:Option Addr} {c sc nc:Nat} {L:List Gm} {S:List Inn} {Ns:List Int} (h:RlI w p o v A c L SA sc S NA nc Ns) :
  w.cell? ⟨p,0,none⟩ = some (.int .i64 o) /\ w.cell? ⟨p,1,none⟩ = some (.int .i64 v) /\ w.cell? ⟨p,2,none⟩ = some (.slice A L.length c) /\ w.cell? ⟨p,3,none⟩ = some (.slice SA S.length sc) /\ w.cell? ⟨p,4,none⟩ = some (.slice NA Ns.length nc):=
 ⟨(cR 0 h.cell).trans rfl,(cR 1 h.cell).trans rfl,(cR 2 h.cell).trans rfl,(cR 3 h.cell).trans rfl,(cR 4 h.cell).trans rfl⟩
abbrev crs (S:List Inn) (Ns:List Int):List (List Int × Int):=(S.map fun x=>x.2.2).zip Ns
def ZiY (o v:Int) (T:Tbl) (r:Int) (w:World) (e:Ending) (w':World):Prop:=
 RowKit.Below w.heap.size w w' /\ if r = 0 then ∃ A c L,e = .returned (.tuple #[.agg #[.int .i64 o,.int .i64 v,.slice A (L:List Gm).length c],.int .i64 0]) /\ GLo w' w.heap.size A c L /\ Jf L = T
  else e = .returned (.tuple #[.agg #[.int .i64 0,.int .i64 0,.slice none 0 0],.int .i64 r])
def isMg (base:Nat) (o v:Int) (T:Tbl):Value -> World -> Prop:=fun x u=>∃ A c L,x = .agg #[.int .i64 o,.int .i64 v,.slice A (L:List Gm).length c] /\ Hid (GLo u base A c L) /\ Jf L = T
theorem Keeps.isMg (base:Nat) (o v:Int) (T:Tbl):Keeps (isMg base o v T):=fun _ _ _ ⟨A,c,L,h1,h2,h3⟩ hb=>⟨A,c,L,h1,zH (h2.out.below hb),h3⟩
def isBx (base:Nat):Value -> World -> Prop:=fun x u=>∃ k,x = .pointer (some ⟨k,0,none⟩) /\ base <= k /\ Hid (∃ x0 x1 x2,u.heap[k]? = some (.cells #[x0,x1,x2] 84 (0,0)))
theorem Keeps.isBx (base:Nat):Keeps (isBx base):=fun _ _ _ ⟨k,h1,h2,h3⟩ hb=>⟨k,h1,h2,zH (by obtain ⟨x0,x1,x2,hx⟩:=h3.out;exact ⟨x0,x1,x2,(hb.block k (aE hx).1).trans hx⟩)⟩
def isOn (y:Inn):Value -> World -> Prop:=fun x u=>∃ k,x = .slice (some ⟨k,0,none⟩) 1 1 /\ Hid (LL u (some ⟨k,0,none⟩) [y])
theorem Keeps.isOn (y:Inn):Keeps (isOn y):=fun _ _ _ ⟨k,h1,h2⟩ hb=>⟨k,h1,zH (h2.out.below hb)⟩
theorem ZhX (w:World):Tb w none []:=⟨fun h=>by simp at h,fun g hg=>absurd hg (by simp),fun g hg=>absurd hg (by simp)⟩
theorem GLo.row3 {w:World} {base k c:Nat} {A:Option Addr} {L:List Gm} {x0 x1 x2:Value} (h:GLo w base A c L) (hk:w.heap[k]? = some (.cells #[x0,x1,x2] 84 (0,0))) (v0 v1 v2:Value):GLo (((w.setCell ⟨k,0,none⟩ v0).setCell ⟨k,1,none⟩ v1).setCell ⟨k,2,none⟩ v2) base A c L:=
 h.block (by simp [World.setCell]) (fun b hb=>JT (by
  rcases hb with hb | hb
  ·exact hb.ne ⟨_,_,hk⟩ (by decide)
  ·exact hb.1.ne ⟨_,_,hk⟩ (by decide)) _ _ _)
theorem MkS.put {w u:World} {kr k c:Nat} {o v:Int} {A:Option Addr} {L:List Gm} {T:Tbl} {x0 x1 x2:Value} (hk:u.heap[k]? = some (.cells #[x0,x1,x2] 84 (0,0))) (hg:GLo u w.heap.size A c L) (ht:Jf L = T)
  (hr:u.heap[kr]? = some (.cells #[.int .i64 0,.int .i64 0,.slice none 0 0] 84 (0,0))) (hne:kr ≠ k) (hw:w.heap.size <= k) (hb:RowKit.Below w.heap.size w u) :
  MkS w kr k o v T (((u.setCell ⟨k,0,none⟩ (.int .i64 o)).setCell ⟨k,1,none⟩ (.int .i64 v)).setCell ⟨k,2,none⟩ (.slice A L.length c)):=
 ⟨⟨A,c,L,Go.Proofs.YtcjicjfbippmnaaGreat.row3 hk _ _ _,hg.row3 hk _ _ _,ht⟩,(JT hne _ _ _).trans hr,Jj hb hw _ _ _⟩
theorem MkS.below {w W W':World} {kr kb:Nat} {o v:Int} {T:Tbl} (h:MkS w kr kb o v T W) (hb:RowKit.Below W.heap.size W W'):MkS w kr kb o v T W':=by
 obtain ⟨A,c,L,h1,h2,h3⟩:=h.box;exact ⟨⟨A,c,L,(hb.block _ (aE h1).1).trans h1,h2.below hb,h3⟩,(hb.block _ (aE h.res).1).trans h.res,h.bel.trans (hb.mono h.bel.size)⟩
theorem QP (n:Int) (L:List Gm):Jf (Yp n L) = scT n (Jf L):=by simp [Jf,Yp,scT,List.map_map,Function.comp_def]
theorem Uh (on p:Nat) (v:Int) (A SA NA:Option Addr) (c sc nc:Nat) (L:List Gm) (S:List Inn) (Ns:List Int) (w:World) (h:RlI w p on v A c L SA sc S NA nc Ns) (hT:XH on v (Jf L) = 0)
  (hs:Hid (∀ s ∈ S,s.2.2.length <= 500 /\ Xy 1 v s.2.2 = true)) (hn:Hid (∀ n ∈ Ns,1 <= n /\ n <= 1000)) (hl:Ns.length = S.length) (h3:S.length <= 300)
  (hok:Hid (∀ k,k < S.length -> XH on v (Zp on (Jf L) ((crs S Ns).take k)) = 0)) (r:Int) (hr:Hid (XH on v (Zp on (Jf L) (crs S Ns)) = r)) :
  Calls Tryz.prog 48 #[.pointer (some ⟨p,0,none⟩)] w (ZiY on v (Zp on (Jf L) (crs S Ns)) r w):=by
 obtain ⟨W0,hW0⟩:∃ W0:World,W0 = w.alloc (.cells #[.int .i64 0,.int .i64 0,.slice none 0 0] 84):=⟨_,rfl⟩;have HB0:Hid (RowKit.Below w.heap.size w W0):=zH (by rw [hW0];exact bR.alloc nR _);have HR0:Hid (W0.heap[w.heap.size]? = some (.cells #[.int .i64 0,.int .i64 0,.slice none 0 0] 84 (0,0))):=zH (by rw [hW0];exact heap_alloc_new w _);have hlt0:w.heap.size < W0.heap.size:=(aE HR0.out).1;have HL:=zH h;have HL0:=zH (h.below HB0.out);have hzz:=JL.1 (JP.1 hT).2.1;have ho1 : 1 <= on:=by omega
 have ho4:on <= 4:=by omega
 have HV0:Hid (0 <= v):=zH (by omega);have HZ:=zH (JP.1 hT).2.1;have HSR:Hid (∀ T,XH on v T = 0 -> Srt on v T /\ T.length <= 20000 /\ ∀ g ∈ T,g.2 <= 1073741824):=zH (fun T hT=>⟨VO hT,(JP.1 hT).1,fun g hg=>(XQ hT g hg).2.2.2⟩);have HTT:=zH hT;have hl20:L.length <= 20000:=by have:=(JP.1 hT).1;simpa using this
 have HCL:Hid ((crs S Ns).length = S.length):=zH (by simp [hl]);have HMG:Hid (∀ u,RowKit.Below W0.heap.size W0 u -> Calls Tryz.prog 107 #[.agg #[.int .i64 (on:Int),.int .i64 v,.slice A L.length c],.agg #[.int .i64 (on:Int),.int .i64 v,.slice none 0 0]] u (Zgp on v (Jf L) u)):=zH (fun u hu=>
  QN on on v v on v A none c 0 L [] u (HL0.out.tab.below hu) (ZhX u) (VO hT) ho4 (zH (fun g hg=>(XQ hT _ (List.mem_map_of_mem (f:=fun g:Gm=>(g.1.2.2,g.2)) hg)).2.2.2)) hl20 (zH (fun g hg=>by cases hg)) (by simp))
 have HC1:Hid (∀ u,RowKit.Below W0.heap.size W0 u -> u.cell? ⟨p,0,none⟩ = some (.int .i64 (on:Int)) /\ u.cell? ⟨p,1,none⟩ = some (.int .i64 v) /\ u.cell? ⟨p,2,none⟩ = some (.slice A L.length c) /\ u.cell? ⟨p,3,none⟩ = some (.slice SA S.length sc) /\ u.cell? ⟨p,4,none⟩ = some (.slice NA Ns.length nc)):=zH (fun u hu=>(HL0.out.below hu).cells);clear h hzz hT;go_enter Tryz.func48,Tryz.ntmps48;go_upto_region 1 with fail;rw [<- hW0];clear hW0;refine Jl 17 83 rfl (by kernel_rfl) (by kernel_rfl) (by kernel_rfl) (by kernel_rfl) (fun u=>Below W0.heap.size W0 u) (fun u u'=>Below u.heap.size u u') (Gl [isV (.pointer (some ⟨p,0,none⟩)),isV (.pointer (some ⟨p,0,none⟩)),isV (.pointer (some ⟨p,0,none⟩)),isV (.agg #[.int .i64 (on:Int),.int .i64 v,.slice A L.length c]),isV (.pointer (some ⟨p,0,none⟩)),isV (.pointer (some ⟨p,0,none⟩)),isV (.pointer (some ⟨p,0,none⟩)),isV (.pointer (some ⟨p,0,none⟩)),isV (.int .i64 (on:Int)),isV (.pointer (some ⟨p,0,none⟩)),isV (.pointer (some ⟨p,0,none⟩)),isV (.pointer (some ⟨p,0,none⟩)),isV (.pointer (some ⟨p,1,none⟩)),isV (.int .i64 v),isV (.agg #[.int .i64 (on:Int),.int .i64 v,.slice none 0 0]),isMg W0.heap.size on v (Jf L),isBx W0.heap.size]) (Gl.keep (by
   intro p hp;simp only [List.mem_cons,List.not_mem_nil,or_false] at hp;rcases hp with rfl | rfl | rfl | rfl | rfl | rfl | rfl | rfl | rfl | rfl | rfl | rfl | rfl | rfl | rfl | rfl | rfl
   ·exact Keeps.isV _
   ·exact Keeps.isV _
   ·exact Keeps.isV _
   ·exact Keeps.isV _
   ·exact Keeps.isV _
   ·exact Keeps.isV _
   ·exact Keeps.isV _
   ·exact Keeps.isV _
   ·exact Keeps.isV _
   ·exact Keeps.isV _
   ·exact Keeps.isV _
   ·exact Keeps.isV _
   ·exact Keeps.isV _
   ·exact Keeps.isV _
   ·exact Keeps.isV _
   ·exact Keeps.isMg _ _ _ _
   ·exact Keeps.isBx _)) ?_ ?_ ?_
 ·exact (Below.refl _ W0).drew
 ·simp only [List.pop_toArray,List.dropLast,Js];refine ⟨?_,?_,?_,?_,?_,?_,?_,?_,?_,?_,?_,?_,?_,?_,?_,?_,?_,trivial⟩
  ·intro bb u su dp kp K hK;have e0:bb.tmps.getD 0 undef = .pointer (some ⟨p,0,none⟩):=kp 0 (by kernel_rfl);go_simp;exact hK _ _ su bR rfl
  ·intro bb u su dp kp K hK;have e9:bb.tmps.getD 9 undef = .pointer (some ⟨p,0,none⟩):=dp 0 _ rfl (by kernel_rfl);go_simp;exact hK _ _ su bR rfl
  ·intro bb u su dp kp K hK;have e10:bb.tmps.getD 10 undef = .pointer (some ⟨p,0,none⟩):=dp 1 _ rfl (by kernel_rfl);go_simp;exact hK _ _ su bR rfl
  ·intro bb u su dp kp K hK;have e11:bb.tmps.getD 11 undef = .pointer (some ⟨p,0,none⟩):=dp 2 _ rfl (by kernel_rfl);obtain ⟨q0,q1,q2,q3,q4⟩:=HC1.out u su;go_simp;exact hK _ _ su bR rfl
  ·intro bb u su dp kp K hK;have e0:bb.tmps.getD 0 undef = .pointer (some ⟨p,0,none⟩):=kp 0 (by kernel_rfl);go_simp;exact hK _ _ su bR rfl
  ·intro bb u su dp kp K hK;have e13:bb.tmps.getD 13 undef = .pointer (some ⟨p,0,none⟩):=dp 4 _ rfl (by kernel_rfl);go_simp;exact hK _ _ su bR rfl
  ·intro bb u su dp kp K hK;have e14:bb.tmps.getD 14 undef = .pointer (some ⟨p,0,none⟩):=dp 5 _ rfl (by kernel_rfl);go_simp;exact hK _ _ su bR rfl
  ·intro bb u su dp kp K hK;have e15:bb.tmps.getD 15 undef = .pointer (some ⟨p,0,none⟩):=dp 6 _ rfl (by kernel_rfl);go_simp;exact hK _ _ su bR rfl
  ·intro bb u su dp kp K hK;have e16:bb.tmps.getD 16 undef = .pointer (some ⟨p,0,none⟩):=dp 7 _ rfl (by kernel_rfl);obtain ⟨q0,q1,q2,q3,q4⟩:=HC1.out u su;go_simp;exact hK _ _ su bR rfl
  ·intro bb u su dp kp K hK;have e0:bb.tmps.getD 0 undef = .pointer (some ⟨p,0,none⟩):=kp 0 (by kernel_rfl);go_simp;exact hK _ _ su bR rfl
  ·intro bb u su dp kp K hK;have e18:bb.tmps.getD 18 undef = .pointer (some ⟨p,0,none⟩):=dp 9 _ rfl (by kernel_rfl);go_simp;exact hK _ _ su bR rfl
  ·intro bb u su dp kp K hK;have e19:bb.tmps.getD 19 undef = .pointer (some ⟨p,0,none⟩):=dp 10 _ rfl (by kernel_rfl);go_simp;exact hK _ _ su bR rfl
  ·intro bb u su dp kp K hK;have e20:bb.tmps.getD 20 undef = .pointer (some ⟨p,0,none⟩):=dp 11 _ rfl (by kernel_rfl);go_simp;exact hK _ _ su bR rfl
  ·intro bb u su dp kp K hK;have e21:bb.tmps.getD 21 undef = .pointer (some ⟨p,1,none⟩):=dp 12 _ rfl (by kernel_rfl);obtain ⟨q0,q1,q2,q3,q4⟩:=HC1.out u su;go_simp;exact hK _ _ su bR rfl
  ·intro bb u su dp kp K hK;have e17:bb.tmps.getD 17 undef = .int .i64 (on:Int):=dp 8 _ rfl (by kernel_rfl);have g17:=e17;rw [Array.getD_eq_getD_getElem?] at g17;have e22:bb.tmps.getD 22 undef = .int .i64 v:=dp 13 _ rfl (by kernel_rfl);have g22:=e22;rw [Array.getD_eq_getD_getElem?] at g22;go_simp;exact hK _ _ su bR rfl
  ·intro bb u su dp kp K hK;have e12:bb.tmps.getD 12 undef = .agg #[.int .i64 (on:Int),.int .i64 v,.slice A L.length c]:=dp 3 _ rfl (by kernel_rfl);have e23:bb.tmps.getD 23 undef = .agg #[.int .i64 (on:Int),.int .i64 v,.slice none 0 0]:=dp 14 _ rfl (by kernel_rfl);go_simp;refine (HMG.out u su).mono ?_;rintro e u' ⟨A9,c9,L9,rfl,h9,t9,hb⟩;go_simp;exact hK _ _ (su.trans (hb.mono su.size)) hb ⟨A9,c9,L9,rfl,zH (h9.le su.size),t9⟩
  ·intro bb u su dp kp K hK;go_simp;exact hK _ _ (su.alloc su.size _) (bR.alloc nR _) ⟨u.heap.size,rfl,su.size,zH ⟨_,_,_,heap_alloc_new u _⟩⟩
 ·intro bb u hN hdf su hG sm;obtain ⟨A2,c2,L2,e24,D24,D24t⟩:∃ A c L_,bb.tmps.getD 24 undef = .agg #[.int .i64 (on:Int),.int .i64 v,.slice A (L_:List Gm).length c] /\ Hid (GLo u W0.heap.size A c L_) /\ Jf L_ = Jf L:=hG 15 _ rfl;obtain ⟨kt,e4,hkt,D4⟩:∃ k,bb.tmps.getD 4 undef = .pointer (some ⟨k,0,none⟩) /\ W0.heap.size <= k /\ Hid (∃ x0 x1 x2,u.heap[k]? = some (.cells #[x0,x1,x2] 84 (0,0))):=hG 16 _ rfl;rw [J5 bb _ [false,false,false,false,true,false,false,false,false,true,true,true,true,true,true,true,true,true,true,true,true,true,true,true,true,false,false,false,false,false,false,false,false,false,false,false,false,false,false,false,false,false,false,false,false,false,false,false,false,false,false,false,false,false,false,false,false,false,false,false,false,false,false,false,false,false,false,false,false,false,false,false,false,false,false,false,false,false,false,false,false,false,false] _ rfl hN rfl (by kernel_rfl) hdf sm];simp only [Qr,Nat.reduceAdd,e24,e4];clear e24 e4 hG sm hN hdf;generalize bb.tmps.getD 9 undef = z9,bb.tmps.getD 10 undef = z10,bb.tmps.getD 11 undef = z11,bb.tmps.getD 12 undef = z12,bb.tmps.getD 13 undef = z13,bb.tmps.getD 14 undef = z14,bb.tmps.getD 15 undef = z15,bb.tmps.getD 16 undef = z16,bb.tmps.getD 17 undef = z17,bb.tmps.getD 18 undef = z18,bb.tmps.getD 19 undef = z19,bb.tmps.getD 20 undef = z20,bb.tmps.getD 21 undef = z21,bb.tmps.getD 22 undef = z22,bb.tmps.getD 23 undef = z23;obtain ⟨x0,x1,x2,hx⟩:=D4.out;obtain ⟨t0,t1,t2⟩:=Xe hx;have f0:=Jp hx 0;have f1:=Jp hx 1;have f2:=Jp hx 2;have HX:=zH hx;have HSu:=zH su;clear hx su D4;refine PopQ.last rfl rfl (fun K hK=>?_);go_simp;refine hK _ _ ?_;clear hK K t0 t1 t2 f0 f1 f2;obtain ⟨W2,hW2⟩:∃ Z,Z = ((u.setCell ⟨kt,0,none⟩ (.int .i64 (on:Int))).setCell ⟨kt,1,none⟩ (.int .i64 v)).setCell ⟨kt,2,none⟩ (.slice A2 L2.length c2):=⟨_,rfl⟩;rw [<- hW2];have HM0:Hid (MkS w w.heap.size kt on v (Zp on (Jf L) ((crs S Ns).take 0)) W2):=zH (by
   rw [hW2];exact MkS.put HX.out (D24.out.le (by omega)) D24t ((HSu.out.block _ hlt0).trans HR0.out) (by omega) (by omega) (HB0.out.trans (HSu.out.mono (by omega))))
  have HV00:Hid (XH on v (Zp on (Jf L) ((crs S Ns).take 0)) = 0):=HTT;clear hW2 HX HSu D24 D24t HMG HC1;go_wp2_with fail;go_loopw [5] (fun i wr=>∃ j:Nat,j <= S.length /\ i = .int .i64 j /\ Hid (MkS w w.heap.size kt on v (Zp on (Jf L) ((crs S Ns).take j)) wr) /\ Hid (XH on v (Zp on (Jf L) ((crs S Ns).take j)) = 0)) (fun i _=>S.length - (intOf i).toNat)
  case atStart=>exact ⟨0,by omega,rfl,HM0,HV00⟩
  case round=>
   obtain ⟨j,hj,rfl,HMj,HVj⟩:=hrel;obtain ⟨V,rfl⟩:∃ X,X = wr:=⟨_,rfl⟩;clear HM0 HV00;have HLV:=zH (HL.out.below HMj.out.bel);obtain ⟨q0,q1,q2,q3,q4⟩:=HLV.out.cells;obtain ⟨GA,Gc,GL,hbox,hglo,htb⟩:=HMj.out.box;have HBX:=zH hbox;have HGL:=zH hglo;have HTL:=zH htb;have HRS:=zH HMj.out.res;have HBV:=zH HMj.out.bel;clear hbox hglo htb HMj;by_cases hjl:j < S.length
   ·have hjl':(j:Int) < (S.length:Int):=(by omega);have HVT:Hid (XH on v (Jf GL) = 0):=zH (by rw [HTL.out];exact HVj.out);obtain ⟨sb,so,rfl,hsb,hcw⟩:=HLV.out.sen.lies.lat hjl;have HXI:=zH (HLV.out.sen.inn _ (yM hjl));have HXS:=zH (hs.out _ (yM hjl));obtain ⟨nb,no,rfl,hnb,hcn⟩:=HLV.out.num.at_ (k:=j) (by omega);have hng:Ns[j]?.getD 0 = Ns[j]:=(by rw [gE (by omega)];rfl);rw [hng] at hcn;have HXN:=zH (hn.out _ (yM (show j < Ns.length by omega)));have HNX:Hid (Zp on (Jf L) ((crs S Ns).take (j + 1)) = Vh on (Zp on (Jf L) ((crs S Ns).take j)) S[j].2.2 Ns[j]):=zH (by
     rw [List.take_succ_eq_append_getElem (by rw [HCL.out];exact hjl),Qa];simp)
    generalize S[j] = X at *
    generalize Ns[j] = n at *
    obtain ⟨XA,Xc,xl⟩:=X;simp only at *
    have hxl:xl.length <= 500:=HXS.out.1;have HCV:Hid (∀ u,RowKit.Below V.heap.size V u -> u.cell? ⟨kt,0,none⟩ = some (.int .i64 (on:Int)) /\ u.cell? ⟨kt,1,none⟩ = some (.int .i64 v) /\ u.cell? ⟨p,3,none⟩ = some (.slice (some ⟨sb,so,none⟩) S.length sc) /\ u.cell? ⟨sb,so + j,none⟩ = some (.slice XA xl.length Xc)):=zH (fun u hu=>by
     obtain ⟨-,-,-,z3,-⟩:=(HLV.out.below hu).cells;have hx:=(hu.block _ (aE HBX.out).1).trans HBX.out;exact ⟨(cR 0 hx).trans rfl,(cR 1 hx).trans rfl,z3,(hu.cell (p:=⟨sb,so + j,none⟩) hsb).trans hcw⟩)
    have hktl:kt < V.heap.size:=(aE HBX.out).1;have HCT:Hid (∀ u k,RowKit.Below V.heap.size V u -> LL u (some ⟨k,0,none⟩) [(XA,Xc,xl)] -> Calls Tryz.prog 53 #[.int .i64 (on:Int),.int .i64 v,.slice (some ⟨k,0,none⟩) 1 1] u (Zgp on v (Qt on xl (xl.length + 1)) u)):=zH (fun u k hu hll=>QO on v (some ⟨k,0,none⟩) 1 (XA,Xc,xl) u hll ho1 ho4 (by show xl.length <= 600;omega));clear hcw hng;go_upto_region 5 with fail;refine Jl 14 83 rfl (by kernel_rfl) (by kernel_rfl) (by kernel_rfl) (by kernel_rfl) (fun u=>Below V.heap.size V u) (fun u u'=>Below u.heap.size u u') (Gl [isV (.pointer (some ⟨kt,0,none⟩)),isV (.int .i64 (on:Int)),isV (.pointer (some ⟨kt,1,none⟩)),isV (.int .i64 v),isV (.pointer (some ⟨p,0,none⟩)),isV (.pointer (some ⟨p,0,none⟩)),isV (.pointer (some ⟨p,3,none⟩)),isV (.slice (some ⟨sb,so,none⟩) S.length sc),isV (.int .i64 (j:Int)),isV (.pointer (some ⟨sb,so + j,none⟩)),isV (.slice XA xl.length Xc),isOn (XA,Xc,xl),isMg V.heap.size on v (Qt on xl (xl.length + 1)),isBx V.heap.size]) (Gl.keep (by
      intro p hp;simp only [List.mem_cons,List.not_mem_nil,or_false] at hp;rcases hp with rfl | rfl | rfl | rfl | rfl | rfl | rfl | rfl | rfl | rfl | rfl | rfl | rfl | rfl
      ·exact Keeps.isV _
      ·exact Keeps.isV _
      ·exact Keeps.isV _
      ·exact Keeps.isV _
      ·exact Keeps.isV _
      ·exact Keeps.isV _
      ·exact Keeps.isV _
      ·exact Keeps.isV _
      ·exact Keeps.isV _
      ·exact Keeps.isV _
      ·exact Keeps.isV _
      ·exact Keeps.isOn _
      ·exact Keeps.isMg _ _ _ _
      ·exact Keeps.isBx _)) ?_ ?_ ?_
    ·exact (Below.refl _ V).drew
    ·simp only [List.pop_toArray,List.dropLast,Js];refine ⟨?_,?_,?_,?_,?_,?_,?_,?_,?_,?_,?_,?_,?_,?_,trivial⟩
     ·intro bb u su dp kp K hK;have e4:bb.tmps.getD 4 undef = .pointer (some ⟨kt,0,none⟩):=kp 4 (by kernel_rfl);go_simp;exact hK _ _ su bR rfl
     ·intro bb u su dp kp K hK;have e34:bb.tmps.getD 34 undef = .pointer (some ⟨kt,0,none⟩):=dp 0 _ rfl (by kernel_rfl);obtain ⟨z0,z1,z3,z4⟩:=HCV.out u su;go_simp;exact hK _ _ su bR rfl
     ·intro bb u su dp kp K hK;have e4:bb.tmps.getD 4 undef = .pointer (some ⟨kt,0,none⟩):=kp 4 (by kernel_rfl);go_simp;exact hK _ _ su bR rfl
     ·intro bb u su dp kp K hK;have e36:bb.tmps.getD 36 undef = .pointer (some ⟨kt,1,none⟩):=dp 2 _ rfl (by kernel_rfl);obtain ⟨z0,z1,z3,z4⟩:=HCV.out u su;go_simp;exact hK _ _ su bR rfl
     ·intro bb u su dp kp K hK;have e0:bb.tmps.getD 0 undef = .pointer (some ⟨p,0,none⟩):=kp 0 (by kernel_rfl);go_simp;exact hK _ _ su bR rfl
     ·intro bb u su dp kp K hK;have e38:bb.tmps.getD 38 undef = .pointer (some ⟨p,0,none⟩):=dp 4 _ rfl (by kernel_rfl);go_simp;exact hK _ _ su bR rfl
     ·intro bb u su dp kp K hK;have e39:bb.tmps.getD 39 undef = .pointer (some ⟨p,0,none⟩):=dp 5 _ rfl (by kernel_rfl);go_simp;exact hK _ _ su bR rfl
     ·intro bb u su dp kp K hK;have e40:bb.tmps.getD 40 undef = .pointer (some ⟨p,3,none⟩):=dp 6 _ rfl (by kernel_rfl);obtain ⟨z0,z1,z3,z4⟩:=HCV.out u su;go_simp;exact hK _ _ su bR rfl
     ·intro bb u su dp kp K hK;have e5:bb.tmps.getD 5 undef = .int .i64 (j:Int):=kp 5 (by kernel_rfl);go_simp;exact hK _ _ su bR rfl
     ·intro bb u su dp kp K hK;have e41:bb.tmps.getD 41 undef = .slice (some ⟨sb,so,none⟩) S.length sc:=dp 7 _ rfl (by kernel_rfl);have e42:bb.tmps.getD 42 undef = .int .i64 (j:Int):=dp 8 _ rfl (by kernel_rfl);go_simp;exact hK _ _ su bR rfl
     ·intro bb u su dp kp K hK;have e43:bb.tmps.getD 43 undef = .pointer (some ⟨sb,so + j,none⟩):=dp 9 _ rfl (by kernel_rfl);obtain ⟨z0,z1,z3,z4⟩:=HCV.out u su;go_simp;exact hK _ _ su bR rfl
     ·intro bb u su dp kp K hK;have e44:bb.tmps.getD 44 undef = .slice XA xl.length Xc:=dp 10 _ rfl (by kernel_rfl);have g44:=e44;rw [Array.getD_eq_getD_getElem?] at g44;go_simp;exact hK _ _ (su.alloc su.size _) (bR.alloc nR _) ⟨u.heap.size,rfl,zH (Zen (HXI.out.below su))⟩
     ·intro bb u su dp kp K hK;have e35:bb.tmps.getD 35 undef = .int .i64 (on:Int):=dp 1 _ rfl (by kernel_rfl);have e37:bb.tmps.getD 37 undef = .int .i64 v:=dp 3 _ rfl (by kernel_rfl);obtain ⟨k45,e45,D45⟩:∃ k,bb.tmps.getD 45 undef = .slice (some ⟨k,0,none⟩) 1 1 /\ Hid (LL u (some ⟨k,0,none⟩) [(XA,Xc,xl)]):=dp 11 _ rfl (by kernel_rfl);go_simp;refine (HCT.out u k45 su D45.out).mono ?_;rintro e u' ⟨A9,c9,L9,rfl,h9,t9,hb⟩;go_simp;exact hK _ _ (su.trans (hb.mono su.size)) hb ⟨A9,c9,L9,rfl,zH (h9.le su.size),t9⟩
     ·intro bb u su dp kp K hK;go_simp;exact hK _ _ (su.alloc su.size _) (bR.alloc nR _) ⟨u.heap.size,rfl,su.size,zH ⟨_,_,_,heap_alloc_new u _⟩⟩
    ·intro bb u hN hdf su hG sm;obtain ⟨CA,cc,CL,e46,D46,D46t⟩:∃ A c L_,bb.tmps.getD 46 undef = .agg #[.int .i64 (on:Int),.int .i64 v,.slice A (L_:List Gm).length c] /\ Hid (GLo u V.heap.size A c L_) /\ Jf L_ = Qt on xl (xl.length + 1):=hG 12 _ rfl;obtain ⟨kc,e6,hkc,D6⟩:∃ k,bb.tmps.getD 6 undef = .pointer (some ⟨k,0,none⟩) /\ V.heap.size <= k /\ Hid (∃ x0 x1 x2,u.heap[k]? = some (.cells #[x0,x1,x2] 84 (0,0))):=hG 13 _ rfl;rw [J5 bb _ [false,false,false,false,false,false,true,false,false,false,false,false,false,false,false,false,false,false,false,false,false,false,false,false,false,false,false,false,false,false,false,false,false,false,true,true,true,true,true,true,true,true,true,true,true,true,true,false,false,false,false,false,false,false,false,false,false,false,false,false,false,false,false,false,false,false,false,false,false,false,false,false,false,false,false,false,false,false,false,false,false,false,false] _ rfl hN rfl (by kernel_rfl) hdf sm];simp only [Qr,Nat.reduceAdd,e46,e6];clear e46 e6 hG sm hN hdf;generalize bb.tmps.getD 34 undef = z34,bb.tmps.getD 35 undef = z35,bb.tmps.getD 36 undef = z36,bb.tmps.getD 37 undef = z37,bb.tmps.getD 38 undef = z38,bb.tmps.getD 39 undef = z39,bb.tmps.getD 40 undef = z40,bb.tmps.getD 41 undef = z41,bb.tmps.getD 42 undef = z42,bb.tmps.getD 43 undef = z43,bb.tmps.getD 44 undef = z44,bb.tmps.getD 45 undef = z45;obtain ⟨x0,x1,x2,hx⟩:=D6.out;obtain ⟨t0,t1,t2⟩:=Xe hx;have f0:=Jp hx 0;have f1:=Jp hx 1;have f2:=Jp hx 2;have HX:=zH hx;have HSu:=zH su;clear hx su D6 q0 q1 q2 q3 q4;refine PopQ.last rfl rfl (fun K hK=>?_);go_simp;refine hK _ _ ?_;clear hK K t0 t1 t2 f0 f1 f2;obtain ⟨U,hU⟩:∃ Z,Z = ((u.setCell ⟨kc,0,none⟩ (.int .i64 (on:Int))).setCell ⟨kc,1,none⟩ (.int .i64 v)).setCell ⟨kc,2,none⟩ (.slice CA CL.length cc):=⟨_,rfl⟩;rw [<- hU];have HBVU:Hid (RowKit.Below V.heap.size V U):=zH (by rw [hU];exact Jj HSu.out hkc _ _ _);have HKC:Hid (U.heap[kc]? = some (.cells #[.int .i64 (on:Int),.int .i64 v,.slice CA CL.length cc] 84 (0,0))):=zH (by rw [hU];exact Go.Proofs.YtcjicjfbippmnaaGreat.row3 HX.out _ _ _);have HCG:Hid (GLo U V.heap.size CA cc CL):=zH (by rw [hU];exact D46.out.row3 HX.out _ _ _);have HTC:=zH D46t;have hkcl:kc < U.heap.size:=(aE HKC.out).1;have hvu:V.heap.size <= U.heap.size:=HBVU.out.size;clear hU HX HSu D46 D46t HCT HCV;have hCLn:CL.length <= 501:=(by have:=congrArg List.length HTC.out;have:=ZaJ on xl (xl.length + 1);simp at *;omega);have HCN:Hid (∀ g ∈ CL,g.1.2.2.length = on /\ 0 <= g.2 /\ g.2 <= 501):=zH (fun g hg=>by
      have h1:(g.1.2.2,g.2) ∈ Qt on xl (xl.length + 1):=(by rw [<- HTC.out];exact List.mem_map_of_mem (f:=fun g:Gm=>(g.1.2.2,g.2)) hg);have h2:=VB ho1 xl (xl.length + 1) nR _ h1;simp only at h2;exact ⟨h2.1,by omega,by omega⟩)
     have hownB:Hid (∀ b,blk CA = some b -> BT U b 114 /\ V.heap.size <= b):=zH (fun b e=>⟨BT.of_own HCG.out.row (by rw [Jn];exact e),(HCG.out.row.lt b (by rw [Jn];exact e)).1⟩);have HRW:Hid (U.ownsRow V.heap.size 114 2 (.slice CA CL.length cc) CL.length (JZ (Yp n (CL.take 0) ++ CL.drop 0))):=zH (by have:=HCG.out.row;simpa [Yp] using this);have HGR:Hid (U.grownBy U (blk CA)):=zH ⟨rfl,rfl,rfl,Nat.le_refl _,fun _ _ _=>rfl⟩;have HN4:Hid (∀ W,U.grownBy W (blk CA) -> W.cell? ⟨p,4,none⟩ = some (.slice (some ⟨nb,no,none⟩) Ns.length nc) /\ W.cell? ⟨nb,no + j,none⟩ = some (.int .i64 n) /\ W.heap[kc]? = some (.cells #[.int .i64 (on:Int),.int .i64 v,.slice CA CL.length cc] 84 (0,0))):=zH (fun W hW=>by
      have z4:=(HLV.out.below HBVU.out).cells.2.2.2.2;have hp:p < V.heap.size:=(aE HLV.out.cell).1;have hpb:∀ b,b < V.heap.size -> W.heap[b]? = U.heap[b]?:=fun b hb=>hW.block b (by omega) (fun e=>by have:=(hownB.out b e.symm).2;omega);exact ⟨(World.cell?_of_block (a:=⟨p,4,none⟩) (hpb p hp)).trans z4,(World.cell?_of_block (a:=⟨nb,no + j,none⟩) (hpb nb hnb)).trans ((HBVU.out.cell (p:=⟨nb,no + j,none⟩) hnb).trans hcn),(hW.block kc hkcl (fun e=>(hownB.out kc e.symm).1.ne ⟨_,_,HKC.out⟩ (by decide) rfl)).trans HKC.out⟩)
     clear hcn;go_wp2_with fail;go_loopw [7] (fun i wr=>∃ k:Nat,k <= CL.length /\ i = .int .i64 k /\ Hid (wr.ownsRow V.heap.size 114 2 (.slice CA CL.length cc) CL.length (JZ (Yp n (CL.take k) ++ CL.drop k))) /\ Hid (U.grownBy wr (blk CA))) (fun i _=>CL.length - (intOf i).toNat)
     case atStart=>exact ⟨0,by omega,rfl,HRW,HGR⟩
     case round=>
      obtain ⟨k,hk,rfl,HR,HG⟩:=hrel;clear HRW HGR;obtain ⟨Wr,rfl⟩:∃ X,X = wr:=⟨_,rfl⟩;have hszr:=HG.out.size;obtain ⟨n0,n1,hkcr⟩:=HN4.out Wr HG.out;have HKR:=zH hkcr;have r2:Wr.cell? ⟨kc,2,none⟩ = some (.slice CA CL.length cc):=(cR 2 hkcr).trans rfl;clear hkcr;by_cases hlt:k < CL.length
      ·have hLk:CL[k]? = some CL[k]:=gE hlt;have hsl:(Yp n (CL.take k)).length = k:=(by simp [Yp];omega);have hMk:(Yp n (CL.take k) ++ CL.drop k)[k]? = some CL[k]:=by
        rw [List.getElem?_append_right (by omega),hsl,List.getElem?_drop,Nat.sub_self,Nat.add_zero];exact hLk
       have HDR:=zH (List.drop_eq_getElem_cons hlt);have HTK:Hid (Yp n (CL.take (k + 1)) = Yp n (CL.take k) ++ [(CL[k].1,CL[k].2 * n)]):=zH (by unfold Yp;rw [List.take_succ_eq_append_getElem hlt,List.map_append];rfl);obtain ⟨g,eG,hg1,hg2,hcell,hfz⟩:=ZY HR.out hMk;have hcn:=HCN.out _ (yM hlt);subst eG;have HSL:=zH hsl;have HFZ:=zH hfz;clear hLk hsl hMk hfz;generalize CL[k] = Y at *
       obtain ⟨⟨YA,Yc,yl⟩,xn⟩:=Y;simp only at *
       have hlt':(k:Int) < (CL.length:Int):=(by omega);have hjn':(j:Int) < (Ns.length:Int):=(by omega);have h0 : 0 <= xn * n:=Int.mul_nonneg (by omega) (by have:=HXN.out;omega);have h1:xn * n <= 501 * 1000:=Int.mul_le_mul (by omega) (by have:=HXN.out;omega) (by have:=HXN.out;omega) (by omega);have p2:IntKind.i64.wrap (xn * n) = xn * n:=IntWalk.i64_in _ (by omega);go_upto_region 9 with fail;refine JJ (S:=fun w'=>w'.cell? ⟨kc,2,none⟩ = some (.slice (some ⟨g,0,none⟩) CL.length cc) /\ w'.cell? ⟨g,k * 2 + 1,none⟩ = some (.int .i64 xn) /\ w'.cell? ⟨p,4,none⟩ = some (.slice (some ⟨nb,no,none⟩) Ns.length nc) /\ w'.cell? ⟨nb,no + j,none⟩ = some (.int .i64 n)) 19 (by kernel_rfl) (by kernel_rfl) ⟨r2,hcell,n0,n1⟩ (fun hd=>?_);simp only [List.pop_toArray,List.dropLast_cons_cons,List.dropLast_singleton];iterate 19 (((refine Je (v:=?_) rfl (by kernel_rfl) (fun _ _ _ h=>h) ⟨by rfl,?_⟩ hd ?_;rotate_left;· intro w' sw;obtain ⟨s1,s2,s3,s4⟩:=sw;go_simp;try with_reducible rfl);simp only [zA,zB,zC]))
       have hfz:Wr.drew.frozen? ⟨g,k * 2 + 1,none⟩ = false:=HFZ.out;obtain ⟨s1,s2,s3,s4⟩:=hd;refine wpAnyH_done (by kernel_rfl) ?_ _;refine PopQ.last rfl rfl (fun K hK=>?_);go_simp;refine hK _ _ ?_;clear hK K;go_wp2_with fail;have hst:=(HR.out.stored (k * 2 + 1) (.int .i64 (xn * n))).1;have hset:=UZ (Yp n (CL.take k)) (CL.drop (k + 1)) ((YA,Yc,yl),xn) (xn * n);rw [HSL.out] at hset;rw [HDR.out,hset] at hst;refine ⟨⟨k + 1,by omega,by go_num,zH ?_,zH ?_⟩,by simp [intOf];omega⟩
       ·rw [HTK.out,List.append_assoc];exact hst
       ·have hgs:=JS (g:=g) (p:=⟨g,k * 2 + 1,none⟩) HG.out (.inl rfl) (.int .i64 (xn * n));exact ⟨hgs.os,hgs.tape,hgs.output,hgs.size,hgs.block⟩
      ·obtain rfl:k = CL.length:=(by omega);have hrw:=HR.out;rw [List.take_length,List.drop_length,List.append_nil] at hrw;have HTN:Hid (Tb Wr CA (Yp n CL)):=zH ⟨Lies.of_own hrw,fun g hg=>by
        obtain ⟨z,hz,rfl⟩:=List.mem_map.1 hg;exact ((HCG.out.inn z hz).grown HG.out (fun b e _=>(hownB.out b e).1) (by decide)).1,fun g hg=>by
        obtain ⟨z,hz,rfl⟩:=List.mem_map.1 hg;have:=HCN.out z hz;have h0 : 0 <= z.2 * n:=Int.mul_nonneg (by omega) (by have:=HXN.out;omega);have h1:z.2 * n <= 501 * 1000:=Int.mul_le_mul (by omega) (by have:=HXN.out;omega) (by have:=HXN.out;omega) (by omega);show _ <= z.2 * n /\ z.2 * n <= _;omega⟩
       have hpb:∀ b,b < V.heap.size -> Wr.heap[b]? = V.heap[b]?:=fun b hb=>(HG.out.block b (by omega) (fun e=>by have:=(hownB.out b e.symm).2;omega)).trans (HBVU.out.block b hb);have HBVW:Hid (RowKit.Below V.heap.size V Wr):=zH ⟨HG.out.os.trans HBVU.out.os,HG.out.tape.trans HBVU.out.tape,HG.out.output.trans HBVU.out.output,by omega,hpb⟩;have HGW:=zH (HGL.out.below HBVW.out);have hbw:Wr.heap[kt]? = some (.cells #[.int .i64 (on:Int),.int .i64 v,.slice GA GL.length Gc] 84 (0,0)):=(hpb kt hktl).trans HBX.out;have HKT:=zH hbw;obtain ⟨a0,a1,a2⟩:=Xe hbw;obtain ⟨b0,b1,b2⟩:=Xe HKR.out;have HSV:=zH (HSR.out _ HVT.out);have HMM:=zH (QN on on v v on v GA CA Gc cc GL (Yp n CL) Wr HGW.out.tb HTN.out HSV.out.1 ho4 (zH (fun g hg=>HSV.out.2.2 _ (List.mem_map_of_mem (f:=fun g:Gm=>(g.1.2.2,g.2)) hg))) (by have:=HSV.out.2.1;simpa using this) (zH (fun g hg=>by
        obtain ⟨z,hz,rfl⟩:=List.mem_map.1 hg;have:=HCN.out z hz;have h0 : 0 <= z.2 * n:=Int.mul_nonneg (by omega) (by have:=HXN.out;omega);have h1:z.2 * n <= 501 * 1000:=Int.mul_le_mul (by omega) (by have:=HXN.out;omega) (by have:=HXN.out;omega) (by omega);show z.1.2.2.length = on /\ 0 <= z.2 * n /\ z.2 * n <= _;omega)) (by rw [ZW];omega))
       rw [ZW] at HMM;have HTA:Hid (ZP (Jf GL) (Jf (Yp n CL)) = Zp on (Jf L) ((crs S Ns).take (j + 1))):=zH (by rw [HNX.out,Vh,QP,HTC.out,HTL.out]);clear hrw hbw n0 n1 r2 hpb;go_wp2_with fail;refine HMM.out.mono ?_;rintro e Y ⟨A5,c5,L5,rfl,hL5,hT5,hb5⟩;have HL5:=zH (hL5.le (show w.heap.size <= Wr.heap.size by have:=HBV.out.size;omega));have HT5:=zH (hT5.trans HTA.out);have HB5:=zH hb5;have HKT5:Hid (Y.heap[kt]? = some (.cells #[.int .i64 (on:Int),.int .i64 v,.slice GA GL.length Gc] 84 (0,0))):=zH ((hb5.block _ (by omega)).trans HKT.out);have HBVY:=zH (HBVW.out.trans (hb5.mono HBVW.out.size));clear hL5 hT5 hb5 HMM a0 a1 a2 b0 b1 b2;obtain ⟨a0,a1,a2⟩:=Xe HKT5.out;have f0:=Jp HKT5.out 0;have f1:=Jp HKT5.out 1;have f2:=Jp HKT5.out 2;go_upto_region 11 with fail;obtain ⟨Z,hZ⟩:∃ Z,Z = ((Y.setCell ⟨kt,0,none⟩ (.int .i64 (on:Int))).setCell ⟨kt,1,none⟩ (.int .i64 v)).setCell ⟨kt,2,none⟩ (.slice A5 L5.length c5):=⟨_,rfl⟩;rw [<- hZ];have HMZ:Hid (MkS w w.heap.size kt on v (Zp on (Jf L) ((crs S Ns).take (j + 1))) Z):=zH (by
        rw [hZ];exact MkS.put HKT5.out HL5.out HT5.out ((HBVY.out.block _ (aE HRS.out).1).trans HRS.out) (by omega) (by omega) (HBV.out.trans (HBVY.out.mono HBV.out.size)))
       have HKZ:Hid (Z.heap[kt]? = some (.cells #[.int .i64 (on:Int),.int .i64 v,.slice A5 L5.length c5] 84 (0,0))):=zH (by rw [hZ];exact Go.Proofs.YtcjicjfbippmnaaGreat.row3 HKT5.out _ _ _);have HLZ:Hid (GLo Z w.heap.size A5 c5 L5):=zH (by rw [hZ];exact HL5.out.row3 HKT5.out _ _ _);clear hZ a0 a1 a2 f0 f1 f2 HKT5 HL5 HKT HGW HTN HKR HR HG HN4 HRS;obtain ⟨a0,a1,a2⟩:=Xe HKZ.out;obtain ⟨r9,hr9⟩:∃ r9,r9 = XH on v (Zp on (Jf L) ((crs S Ns).take (j + 1))):=⟨_,rfl⟩;have HR9:=zH hr9.symm;have HL5n:Hid (L5.length <= 9223372036854775807):=zH (by
        have h1:=congrArg List.length (HT5.out.trans HTA.out.symm);have h2:=Zcl (o:=on) (M:=1048576) (by omega) (Jf (Yp n CL)) (Jf GL) 1073741824 (by omega) (fun g hg=>⟨(HSV.out.1.row g hg).1,by have:=(HSV.out.1.row g hg).2.2;omega,HSV.out.2.2 g hg⟩) (fun g hg=>by
         rw [QP,HTC.out] at hg;obtain ⟨z,hz,rfl⟩:=List.mem_map.1 hg;have h3:=VB ho1 xl (xl.length + 1) nR z hz;have h0 : 0 <= z.2 * n:=Int.mul_nonneg (by omega) (by have:=HXN.out;omega);have h1:z.2 * n <= 501 * 1000:=Int.mul_le_mul (by omega) (by have:=HXN.out;omega) (by have:=HXN.out;omega) (by omega);exact ⟨h3.1,h0,by show z.2 * n <= 1048576;omega⟩)
        have h3:=HSV.out.2.1;have h4:=h2.2;have h5:(Jf (Yp n CL)).length = CL.length:=(by simp [Yp]);rw [List.length_map] at h1;omega)
       have HCK:=zH (Yn on v A5 c5 L5 Z HLZ.out.tb HL5n.out r9 (zH (by rw [HT5.out];exact HR9.out)));clear hr9;go_wp2_with fail;refine HCK.out.mono ?_;rintro e Z2 ⟨rfl,hb6⟩;have HM2:=zH (HMZ.out.below hb6);clear hb6 HCK a0 a1 a2 HMZ HKZ HLZ;by_cases h9:r9 = 0
       ·subst h9;go_wp2_with fail;exact ⟨⟨j + 1,by omega,by go_num,HM2,HR9⟩,by simp [intOf];omega⟩
       ·have q9:(r9 != 0) = true:=(by simpa using h9);have hjS:j + 1 = S.length:=by
         by_cases hlt9:j + 1 < S.length
         ·exact absurd (HR9.out.symm.trans (hok.out (j + 1) hlt9)) h9
         ·omega
        have hrr:r9 = r:=by
         have h1:=HR9.out;rw [List.take_of_length_le (by rw [HCL.out];omega)] at h1;exact h1.symm.trans hr.out
        subst hrr;have HRZ:=zH HM2.out.res;obtain ⟨d0,d1,d2⟩:=Xe HRZ.out;have f0:=Jp HRZ.out 0;have f1:=Jp HRZ.out 1;have f2:=Jp HRZ.out 2;go_wp2_with fail;have hr6:=Go.Proofs.YtcjicjfbippmnaaGreat.row3 HRZ.out (.int .i64 0) (.int .i64 0) (.slice none 0 0);obtain ⟨g0,g1,g2⟩:=Xe hr6;refine bodyPost_ret (v:=.tuple #[.agg #[.int .i64 0,.int .i64 0,.slice none 0 0],.int .i64 r9]) (by simp [results,Tryz.results48,go_sem,g0,g1,g2]) rfl ?_;exact ⟨Jj HM2.out.bel nR _ _ _,by rw [if_neg h9]⟩
   ·obtain rfl:j = S.length:=(by omega);have HRT:Hid (Zp on (Jf L) ((crs S Ns).take S.length) = Zp on (Jf L) (crs S Ns)):=zH (by rw [List.take_of_length_le (by rw [HCL.out];omega)]);have hr0:r = 0:=by
     have h1:=HVj.out;rw [HRT.out] at h1;exact hr.out.symm.trans h1
    subst hr0;obtain ⟨a0,a1,a2⟩:=Xe HBX.out;obtain ⟨d0,d1,d2⟩:=Xe HRS.out;have f0:=Jp HRS.out 0;have f1:=Jp HRS.out 1;have f2:=Jp HRS.out 2;go_wp2_with fail;have hr6:=Go.Proofs.YtcjicjfbippmnaaGreat.row3 HRS.out (.int .i64 (on:Int)) (.int .i64 v) (.slice GA GL.length Gc);obtain ⟨g0,g1,g2⟩:=Xe hr6;refine bodyPost_ret (v:=.tuple #[.agg #[.int .i64 (on:Int),.int .i64 v,.slice GA GL.length Gc],.int .i64 0]) (by simp [results,Tryz.results48,go_sem,g0,g1,g2]) rfl ?_;exact ⟨Jj HBV.out nR _ _ _,by rw [if_pos rfl];exact ⟨GA,Gc,GL,rfl,HGL.out.row3 HRS.out _ _ _,HTL.out.trans HRT.out⟩⟩
end Go.Proofs.YtcjicjfbippmnaaGreat
