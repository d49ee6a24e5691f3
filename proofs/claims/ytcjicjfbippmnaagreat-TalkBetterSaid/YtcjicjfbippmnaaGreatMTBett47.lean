/- TalkBetter -/
import Derived.Test.YtcjicjfbippmnaaGreatMTBett46
set_option maxRecDepth 100000
set_option maxHeartbeats 32000000
namespace Go.Proofs.YtcjicjfbippmnaaGreat
open Go.RowKit Ear
theorem ZjC:Zfs [[[0],[0]],[[3]]] = 0:=by decide +kernel
theorem ZjD:Zkh 0 [[0],[0]] [[3]] = ((6:Int):Rat):=by decide +kernel
theorem Zin:Zfs [[[0]],[[9]],[[1]]] = 0:=by decide +kernel
theorem Zfg:fq (decide ((1:Int) < 0) != decide ((2:Int) < 0)) (1:Int).natAbs (2:Int).natAbs = mkRat 1 2:=by decide +kernel
theorem ZjG:Zja (clu 3 (mkRat 1 2) 3 (Xs [[[0]],[[9]],[[1]]])) 3 = [0,1,0]:=by decide +kernel
theorem ZjE:ZaU 1 [1] 2 = [([0],1),([1],1)]:=by decide +kernel
theorem ZhE:Yb 1 1 [([0],1),([1],1)] = 0:=by decide +kernel
theorem Zil:Yb 1 1 [([0],3),([1],5)] = 0:=by decide +kernel
theorem ZjF:Ye 1 [1,1] 3 = [(kOf [1],2),(kOf [0],1)]:=by decide +kernel
theorem Zip:Uz (mrg (mrg [] [([0],1),([1],1)]) [([1],4),([0],2)]) = 0:=by decide +kernel
theorem Zio:Uz (mrg (mrg [] [([0],1),([1],1)]) [([0],2),([1],4)]) = 0:=by decide +kernel
def Zai:BA:=⟨#[114,101,100]⟩
def Zhl:BA:=⟨#[98,108,117,101]⟩
def kPs:List PSl:=[⟨⟨#[99,111,108,111,114]⟩,[Zai,Zhl],mkRat 1 4,mkRat 3 4⟩]
theorem Zim:Zce 1 10 4 kPs = true:=by decide +kernel
def kD0:PDl:=Zkn 1 10 4 kPs
def kD1:PDl:=(Qs kD0 ⟨4,Zai,mkRat 1 2,2⟩).2
def kD2:PDl:=(Qs kD1 ⟨2,⟨#[]⟩,((1:Int):Rat),4⟩).2
def kD3:PDl:=(Qs kD2 ⟨2,⟨#[]⟩,((1:Int):Rat),9⟩).2
theorem ZjH:Zj2 kD1 = (.agg #[.int .i64 0,.bool true,.string Zai,.int .i64 2],0):=by
 have h:kD1.stand = 0 /\ Uf kD1.F = 0 /\ ((kD1.F[0]?.map (·.st)).getD 0 = 2) /\ kD1.prompt = 2 /\ (kD1.F[0]?.map (·.val)).getD ⟨#[]⟩ = Zai:=by decide +kernel
 obtain ⟨h1,h2,h3,h4,h5⟩:=h;unfold Zj2;rw [if_neg (by rw [h1];simp),h2,h3,h4,h5];rfl
theorem Zff:kD3.stand = 1 /\ kD3.cuts = 3 /\ kD3.bad = 0:=by decide +kernel
theorem ZP (A B:Option Addr) (c d:Nat) (a b:List Int) (w:World) (hA:Lies w A (ucs a)) (hB:Lies w B (ucs b)) (hn:a.length <= 1000000) (r:Bool) (hr:Hid (decide (a = b) = r)) :
  Calls Tryz.prog 58 #[.slice A a.length c,.slice B b.length d] w fun e w'=>e = .returned (.bool r) /\ ∃ n,w' = w.drewN n:=by
 by_cases hl:a.length = b.length
 ·rw [<- hl];have HL:=zH hl;clear hl;go_enter Tryz.func58,Tryz.ntmps58;go_wp2_with fail;go_loopw [5] (fun i wr=>∃ k:Nat,k <= a.length /\ i = .int .i64 k /\ Hid (∀ j,j < k -> a[j]?.getD 0 = b[j]?.getD 0) /\ ∃ n,wr = w.drewN n) (fun i _=>a.length - (intOf i).toNat)
  case atStart=>exact ⟨0,by omega,rfl,zH (fun j hj=>by omega),0,rfl⟩
  case round=>
   obtain ⟨k,hk,rfl,HE,n,hwd⟩:=hrel;have L1:Lies wr A (ucs a):=(by rw [hwd];exact hA.drewN n);have L2:Lies wr B (ucs b):=(by rw [hwd];exact hB.drewN n);have WD:=zH hwd;clear hwd;by_cases hlt:k < a.length
   ·obtain ⟨b1,o1,rfl,hb1,hc1⟩:=L1.uat hlt;obtain ⟨b2,o2,rfl,hb2,hc2⟩:=L2.uat (k:=k) (by rw [<- HL.out];exact hlt);by_cases he:a[k]?.getD 0 = b[k]?.getD 0
    ·have HN:Hid (∀ j,j < k + 1 -> a[j]?.getD 0 = b[j]?.getD 0):=zH (fun j hj=>by
      rcases Nat.lt_or_ge j k with h | h
      ·exact HE.out j h
      ·obtain rfl:j = k:=(by omega);exact he)
     rw [<- he] at hc2;clear he;generalize a[k]?.getD 0 = x at *
     go_wp2_with fail;go_quiet (fail);go_wp2_with fail;exact ⟨⟨k + 1,by omega,by go_num,HN,by rw [WD.out];exact ZK _ _ _⟩,by simp [intOf];omega⟩
    ·have HR:Hid (r = false):=zH (by rw [<- hr.out];exact dF (fun e=>he (by rw [e])));generalize a[k]?.getD 0 = x at *
     generalize b[k]?.getD 0 = y at *
     have q:(x != y) = true:=(by simpa using he);go_wp2_with fail;go_quiet (fail);go_wp2_with fail;go_ret;exact ⟨Jn (by rw [HR.out]),by rw [WD.out];exact ZK _ _ _⟩
   ·obtain rfl:k = a.length:=(by omega);have HR:Hid (r = true):=zH (by
     rw [<- hr.out];refine decide_eq_true (List.ext_getElem HL.out fun j h1 h2=>?_);have:=HE.out j h1;rw [gE h1,gE h2] at this;simpa using this)
    go_wp2_with fail;go_ret;exact ⟨Jn (by rw [HR.out]),n,WD.out⟩
 ·have HR:Hid (r = false):=zH (by rw [<- hr.out];exact dF (fun e=>hl (by rw [e])));have q:((a.length:Int) != (b.length:Int)) = true:=by simp;omega
  go_enter Tryz.func58,Tryz.ntmps58;go_wp2_with fail;go_ret;exact ⟨Jn (by rw [HR.out]),0,rfl⟩
theorem ZiQ {d e:Nat} (hd:d ≠ 0) (he:e ≠ 0) (h:den d = den e):d = e:=by
 unfold den at h;split at h <;> split at h
 ·omega
 ·exact absurd (ZeW.1 h.symm) he
 ·exact absurd (ZeW.1 h) hd
 ·exact ZhB h
theorem ZiG {w:World} {x y:Fr} {p q:Rat} (hx:Fq w x p) (hy:Fq w y q):p = q ↔ x.neg = y.neg /\ x.N = y.N /\ x.D = y.D:=by
 constructor
 ·rintro rfl;exact ⟨by rw [hx.neg,hy.neg],by rw [hx.num,hy.num],by rw [hx.dn,hy.dn]⟩
 ·rintro ⟨h1,h2,h3⟩;rw [hx.neg,hy.neg] at h1;rw [hx.num,hy.num] at h2;rw [hx.dn,hy.dn] at h3;rw [<- XX p,<- XX q,h1,ZhB h2,ZiQ p.den_nz q.den_nz h3]
theorem ZdL (x y:Fr) (p q:Rat) (w:World) (hx:Fq w x p) (hy:Fq w y q) (fx:Few x 1000000) (r:Bool) (hr:Hid (decide (p = q) = r)):Calls Tryz.prog 17 #[x.val,y.val] w fun e w'=>e = .returned (.bool r) /\ Below w.heap.size w w':=by
 have HS:Hid ((p = q) ↔ x.neg = y.neg /\ x.N = y.N /\ x.D = y.D):=zH (ZiG hx hy);obtain ⟨W,hW⟩:∃ W:World,W = (w.alloc (.cells #[.bool x.neg,.slice x.A x.N.length x.c,.slice x.B x.D.length x.d] 28)).alloc (.cells #[.bool y.neg,.slice y.A y.N.length y.c,.slice y.B y.D.length y.d] 28):=⟨_,rfl⟩;have HB0:Hid (Below w.heap.size w W):=zH (by rw [hW];exact al2 w _ _);have HX:=(hx.below HB0.out).ok;have HY:=(hy.below HB0.out).ok;have S1:=zH (fun n=>ZP x.A y.A x.c y.c x.N y.N (W.drewN n) (HX.n.below (Ja _ _)).lies (HY.n.below (Ja _ _)).lies fx.n (decide (x.N = y.N)) (zH rfl));have S2:=zH (fun n=>ZP x.B y.B x.d y.d x.D y.D (W.drewN n) (HX.d.below (Ja _ _)).lies (HY.d.below (Ja _ _)).lies fx.d (decide (x.D = y.D)) (zH rfl));have HC:Hid (∀ n,((W.drewN n).cell? ⟨w.heap.size,2,none⟩ = some (.slice x.B x.D.length x.d) /\ (W.drewN n).cell? ⟨w.heap.size + 1,2,none⟩ = some (.slice y.B y.D.length y.d))):=zH (fun n=>by
  show W.cell? _ = _ /\ W.cell? _ = _;rw [hW];simp [go_sem])
 obtain ⟨xn,xA,xc,xN,xB,xd,xD⟩:=x;obtain ⟨yn,yA,yc,yN,yB,yd,yD⟩:=y;simp only at HS S1 S2 HC;clear hx hy HX HY fx;by_cases h1:xn = yn
 ·subst h1;have q1:(xn == xn) = true:=by simp
  by_cases h2:xN = yN
  ·have HR:Hid (r = decide (xD = yD)):=zH (by rw [<- hr.out,decide_eq_decide,HS.out];simp [h2]);have d2:decide (xN = yN) = true:=decide_eq_true h2;rw [d2] at S1;have Z1:=zH (S1.out 0);clear HS hr h2 d2 S1;go_enter Tryz.func17,Tryz.ntmps17;go_wp2_with fail;rw [<- hW];clear hW;refine Z1.out.mono ?_;rintro e w' ⟨rfl,n,rfl⟩;have Z2:=zH (S2.out n);obtain ⟨c1,c2⟩:=HC.out n;have B2:Hid (Below w.heap.size w (W.drewN n)):=zH (HB0.out.trans (Ja _ _));clear Z1 S2 HC;change Hid (Calls _ _ _ (W.drewN n) _) at Z2;generalize hWn:(W.drewN 0).drewN n = Wn at *
   have e0:Wn = W.drewN n:=hWn.symm.trans (by rw [World.drewN_drewN];simp);rw [<- e0] at Z2 c1 c2 B2;clear hWn e0;go_wp2_with fail;refine Z2.out.mono ?_;rintro e w' ⟨rfl,m,rfl⟩;go_wp2_with fail;go_ret;exact ⟨Jn (by rw [HR.out]),B2.out.trans (Ja _ _)⟩
  ·have HR:Hid (r = false):=zH (by rw [<- hr.out];exact dF (fun e=>h2 (HS.out.1 e).2.1));have d2:decide (xN = yN) = false:=dF h2;rw [d2] at S1;have Z1:=zH (S1.out 0);clear HS hr h2 d2 S1 S2 HC;go_enter Tryz.func17,Tryz.ntmps17;go_wp2_with fail;rw [<- hW];clear hW;refine Z1.out.mono ?_;rintro e w' ⟨rfl,n,rfl⟩;go_wp2_with fail;go_ret;exact ⟨Jn (by rw [HR.out]),HB0.out.trans (Ja _ _)⟩
 ·have HR:Hid (r = false):=zH (by rw [<- hr.out];exact dF (fun e=>h1 (HS.out.1 e).1));have q1:(xn == yn) = false:=by simpa using h1
  clear HS hr h1 S1 S2 HC hW;go_enter Tryz.func17,Tryz.ntmps17;go_wp2_with fail;go_ret;exact ⟨Jn (by rw [HR.out]),al2 w _ _⟩
theorem ZkE {t:TypeId} {w:World} {k:Nat} {u0 u1 u2 u3:Value} (h:w.heap[k]? = some (.cells #[u0,u1,u2,u3] t (0,0))) (v0 v1 v2 v3:Value):((((w.setCell ⟨k,0,none⟩ v0).setCell ⟨k,1,none⟩ v1).setCell ⟨k,2,none⟩ v2).setCell ⟨k,3,none⟩ v3).heap[k]? = some (.cells #[v0,v1,v2,v3] t (0,0)):=by
 simp [World.setCell,Array.getElem?_modify,h]
theorem Zg0:fq (decide ((1:Int) < 0) != decide ((4:Int) < 0)) (1:Int).natAbs (4:Int).natAbs = mkRat 1 4:=by decide +kernel
theorem ZgZ:fq (decide ((3:Int) < 0) != decide ((4:Int) < 0)) (3:Int).natAbs (4:Int).natAbs = mkRat 3 4:=by decide +kernel
theorem UK {q:Rat} (h1:qn q < 4294967296) (h2:q.den < 4294967296):Sz q 90000:=
 ⟨tR (JU (k:=1) (by simpa using h1)) (by decide),tR (JU (k:=1) (by simpa using h2)) (by decide)⟩
theorem _root_.Go.RowKit.Below.heap_cell4 (V:World) {g:Nat} {v0 v1 v2 v3:Value} (b k:Nat) (hb:b ≠ g):((((V.setCell ⟨g,0,none⟩ v0).setCell ⟨g,1,none⟩ v1).setCell ⟨g,2,none⟩ v2).setCell ⟨g,3,none⟩ v3).cell? ⟨b,k,none⟩ = V.cell? ⟨b,k,none⟩:=
 World.cell?_of_block (a:=⟨b,k,none⟩) (by rw [Below.heap_setCell _ _ _ b hb,Below.heap_setCell _ _ _ b hb,Below.heap_setCell _ _ _ b hb,Below.heap_setCell _ _ _ b hb])
theorem Ze8 (w:World):Calls Tryz.prog 54 #[] w fun e w'=>∃ A s,e = .returned (.agg #[.slice A 1 1,.int .i64 1,.int .i64 10,.int .i64 4]) /\ PlM w' A [s] kPs /\ s.nm = ⟨#[99,111,108,111,114]⟩ /\ s.vs = [Zai,Zhl] /\ Below w.heap.size w w':=by
 obtain ⟨W,hW⟩:∃ W:World,W = (w.alloc (.cells #[.slice none 0 0,.int .i64 0,.int .i64 0,.int .i64 0] 48)).alloc (.cells #[.string ⟨#[114,101,100]⟩,.string ⟨#[98,108,117,101]⟩] 9):=⟨_,rfl⟩;have HB0:Hid (Below w.heap.size w W):=zH (by rw [hW];exact al2 w _ _);have HX0:Hid (W.heap[w.heap.size]? = some (.cells #[.slice none 0 0,.int .i64 0,.int .i64 0,.int .i64 0] 48 (0,0))):=zH (by rw [hW];exact Zes _ _ _);have HX1:Hid (W.heap[w.heap.size + 1]? = some (.cells #[.string ⟨#[114,101,100]⟩,.string ⟨#[98,108,117,101]⟩] 9 (0,0))):=zH (by rw [hW];exact Zer _ _ _);go_enter Tryz.func54,Tryz.ntmps54;go_wp2_with fail;rw [<- hW];clear hW;refine (ZF 1 4 W (by decide) (by decide) (by decide) (by decide)).mono ?_;rintro e w1 ⟨x,rfl,hx,hb1⟩;rw [Zg0] at hx;have HB1:=zH (HB0.out.trans (hb1.mono HB0.out.size));have HR0:Hid (w1.heap[w.heap.size]? = _):=zH ((hb1.block _ (aE HX0.out).1).trans HX0.out);have HR1:Hid (w1.heap[w.heap.size + 1]? = _):=zH ((hb1.block _ (aE HX1.out).1).trans HX1.out);have HFX:=zH hx;clear hx hb1 HX0 HX1 HB0;go_wp2_with fail;refine (ZF 3 4 w1 (by decide) (by decide) (by decide) (by decide)).mono ?_;rintro e w2 ⟨y,rfl,hy,hb2⟩;rw [ZgZ] at hy;have HB2:=zH (HB1.out.trans (hb2.mono HB1.out.size));have HS0:Hid (w2.heap[w.heap.size]? = _):=zH ((hb2.block _ (aE HR0.out).1).trans HR0.out);have HS1:Hid (w2.heap[w.heap.size + 1]? = _):=zH ((hb2.block _ (aE HR1.out).1).trans HR1.out);have HFX2:=zH (HFX.out.below hb2);have HFY:=zH hy;clear hy hb2 HR0 HR1 HB1 HFX;obtain ⟨V,hV⟩:∃ V:World,V = w2.alloc (.cells #[.string ⟨#[99,111,108,111,114]⟩,.slice (some ⟨w.heap.size + 1,0,none⟩) 2 2,.bool x.neg,.slice x.A x.N.length x.c,.slice x.B x.D.length x.d,.bool y.neg,.slice y.A y.N.length y.c,.slice y.B y.D.length y.d] 79):=⟨_,rfl⟩;have HBV:Hid (Below w2.heap.size w2 V):=zH (by rw [hV];exact bR.alloc nR _);have HV0:Hid (V.heap[w.heap.size]? = _):=zH ((HBV.out.block _ (aE HS0.out).1).trans HS0.out);have HV1:Hid (V.heap[w.heap.size + 1]? = _):=zH ((HBV.out.block _ (aE HS1.out).1).trans HS1.out);have HV2:Hid (V.heap[w2.heap.size]? = some (.cells #[.string ⟨#[99,111,108,111,114]⟩,.slice (some ⟨w.heap.size + 1,0,none⟩) 2 2,.bool x.neg,.slice x.A x.N.length x.c,.slice x.B x.D.length x.d,.bool y.neg,.slice y.A y.N.length y.c,.slice y.B y.D.length y.d] 79 (0,0))):=zH (by rw [hV];exact heap_alloc_new w2 _);have HFX3:=zH (HFX2.out.below HBV.out);have HFY3:=zH (HFY.out.below HBV.out);have HB3:=zH (HB2.out.trans (HBV.out.mono HB2.out.size));have hs2:=HB2.out.size;have hs1:w.heap.size + 1 < w2.heap.size:=(aE HS1.out).1;clear HFX2 HFY HB2 HS0 HS1 HBV;have f0:=Jm HV0.out 0;have f1:=Jm HV0.out 1;have f2:=Jm HV0.out 2;have f3:=Jm HV0.out 3;have c0:V.cell? ⟨w.heap.size,0,none⟩ = some (.slice none 0 0):=(cR 0 HV0.out).trans rfl;have c1:V.cell? ⟨w.heap.size,1,none⟩ = some (.int .i64 0):=(cR 1 HV0.out).trans rfl;have c2:V.cell? ⟨w.heap.size,2,none⟩ = some (.int .i64 0):=(cR 2 HV0.out).trans rfl;have c3:V.cell? ⟨w.heap.size,3,none⟩ = some (.int .i64 0):=(cR 3 HV0.out).trans rfl;rw [hV] at f0 f1 f2 f3 c0 c1 c2 c3;go_wp2_with fail;rw [<- hV];clear hV f0 f1 f2 f3 c0 c1 c2 c3;have hr4:=ZkE HV0.out (.slice (some ⟨w2.heap.size,0,none⟩) 1 1) (.int .i64 1) (.int .i64 10) (.int .i64 4);have g0:=(cR 0 hr4).trans rfl;have g1:=(cR 1 hr4).trans rfl;have g2:=(cR 2 hr4).trans rfl;have g3:=(cR 3 hr4).trans rfl;refine bodyPost_ret (v:=.agg #[.slice (some ⟨w2.heap.size,0,none⟩) 1 1,.int .i64 1,.int .i64 10,.int .i64 4]) (by simp [results,Tryz.results54,go_sem,g0,g1,g2,g3]) rfl ?_;refine ⟨some ⟨w2.heap.size,0,none⟩,⟨⟨#[99,111,108,111,114]⟩,some ⟨w.heap.size + 1,0,none⟩,2,[Zai,Zhl],x,y⟩,rfl,⟨?_,rfl,?_⟩,rfl,rfl,(((HB3.out.setCell nR _).setCell nR _).setCell nR _).setCell nR _⟩
 ·have hb:∀ b,b ≠ w.heap.size -> (((( V.setCell ⟨w.heap.size,0,none⟩ (.slice (some ⟨w2.heap.size,0,none⟩) 1 1)).setCell ⟨w.heap.size,1,none⟩ (.int .i64 1)).setCell ⟨w.heap.size,2,none⟩ (.int .i64 10)).setCell ⟨w.heap.size,3,none⟩ (.int .i64 4)).heap[b]? = V.heap[b]?:=fun b hb=>by
   rw [Below.heap_setCell _ _ _ b hb,Below.heap_setCell _ _ _ b hb,Below.heap_setCell _ _ _ b hb,Below.heap_setCell _ _ _ b hb]
  exact fun _=>⟨w2.heap.size,0,rfl,by simp [World.setCell];exact (aE HV2.out).1,fun k v hk=>by
   rw [Nat.zero_add,World.cell?_of_block (a:=⟨w2.heap.size,k,none⟩) (hb w2.heap.size (by omega)),cell_of_row _ _ k _ _ _ HV2.out];simpa [Uj,slc] using hk⟩
 ·intro k s P h1 h2;cases k with
  | succ k=>simp at h1
  | zero=>
   simp only [List.getElem?_cons_zero,Option.some.injEq,kPs] at h1 h2;subst h1 h2;have hku:KU V ((((V.setCell ⟨w.heap.size,0,none⟩ (.slice (some ⟨w2.heap.size,0,none⟩) 1 1)).setCell ⟨w.heap.size,1,none⟩ (.int .i64 1)).setCell ⟨w.heap.size,2,none⟩ (.int .i64 10)).setCell ⟨w.heap.size,3,none⟩ (.int .i64 4)):=
    KU.sets [.slice (some ⟨w2.heap.size,0,none⟩) 1 1,.int .i64 1,.int .i64 10,.int .i64 4] 0 V (fun j hj=>by
     match j,hj with
     | 0,_=>exact ⟨_,(cR 0 HV0.out).trans rfl,by intro n h;cases h⟩
     | 1,_=>exact ⟨_,(cR 1 HV0.out).trans rfl,by intro n h;cases h⟩
     | 2,_=>exact ⟨_,(cR 2 HV0.out).trans rfl,by intro n h;cases h⟩
     | 3,_=>exact ⟨_,(cR 3 HV0.out).trans rfl,by intro n h;cases h⟩)
   have hFX:=HFX3.out.ku hku;have hFY:=HFY3.out.ku hku;refine ⟨rfl,rfl,fun _=>⟨w.heap.size + 1,0,rfl,by simp [World.setCell];exact (aE HV1.out).1,fun k v hk=>?_⟩,(fun e=>by cases e),hFX.fv,hFY.fv,hFX.few (UK (by decide +kernel) (by decide +kernel)),hFY.few (UK (by decide +kernel) (by decide +kernel))⟩;rw [Nat.zero_add,Below.heap_cell4 V (w.heap.size + 1) k (by omega),cell_of_row _ _ k _ _ _ HV1.out];simpa [Zai,Zhl] using hk
def UP (v:Value):Prop:=UV v /\ ∀ s,v ≠ .string s
structure Off (w w':World) (p q:Nat):Prop where
 size:w'.heap.size = w.heap.size
 ap:AllC UP w p
 aq:AllC UP w q
 block:∀ k,k ≠ p -> k ≠ q -> w'.heap[k]? = w.heap[k]?
theorem Off.lies {w w':World} {p q:Nat} (h:Off w w' p q) {A:Option Addr} {x0:Value} {xs:List Value} (hl:Lies w A xs) (h0:xs[0]? = some x0) (hx:¬ UP x0):Lies w' A xs:=fun hh=>by
 obtain ⟨b,off,e,hb,hc⟩:=hl hh;have c0:=hc 0 x0 h0;have hp:b ≠ p:=by rintro rfl;exact hx (h.ap.cell c0)
 have hq:b ≠ q:=by rintro rfl;exact hx (h.aq.cell c0)
 exact ⟨b,off,e,by rw [h.size];exact hb,fun k v hv=>(World.cell?_of_block (a:=⟨b,off + k,none⟩) (h.block b hp hq)).trans (hc k v hv)⟩
theorem Off.strs {w w':World} {p q:Nat} (h:Off w w' p q) {A:Option Addr} {l:List BA} (hl:Lies w A (sbs l)):Lies w' A (sbs l):=by
 cases l with
 | nil=>intro hh;simp at hh
 | cons s l=>exact h.lies hl (x0:=.string s) rfl (fun hx=>hx.2 s rfl)
theorem Off.digs {w w':World} {p q:Nat} (h:Off w w' p q) {A:Option Addr} {l:List Int} (hl:Lies w A (ucs l)):Lies w' A (ucs l):=by
 cases l with
 | nil=>intro hh;simp at hh
 | cons s l=>exact h.lies hl (x0:=.int .u32 s) rfl (fun hx=>hx.1 s rfl)
theorem Off.dg {w w':World} {p q:Nat} (h:Off w w' p q) {A:Option Addr} {c:Nat} {l:List Int} (hl:Dg w A c l):Dg w' A c l:=⟨h.digs hl.lies,hl.dig,hl.cap,hl.nil⟩
theorem Off.fv {w w':World} {p q:Nat} (h:Off w w' p q) {x:Fr} {r:Rat} (hl:Fv w x r):Fv w' x r:=⟨h.dg hl.n,h.dg hl.d,hl.val⟩
theorem Off.plm {w w':World} {p q:Nat} (h:Off w w' p q) {A:Option Addr} {Ss:List SlM} {Ps:List PSl} (hl:PlM w A Ss Ps):PlM w' A Ss Ps:=by
 refine ⟨?_,hl.len,fun k s P h1 h2=>?_⟩
 ·cases Ss with
  | nil=>intro hh;simp [Uj] at hh
  | cons s l=>exact h.lies hl.lies (x0:=.string s.nm) rfl (fun hx=>hx.2 _ rfl)
 ·have:=hl.ok k s P h1 h2;exact ⟨this.nm,this.vs,h.strs this.lies,this.nil,h.fv this.L,h.fv this.S,this.fL,this.fS⟩
def back (w w':World) (p q:Nat):World:={ w' with heap:=(w'.heap.setIfInBounds p (w.heap[p]?.getD default)).setIfInBounds q (w.heap[q]?.getD default) }
theorem DlM.off {w w':World} {bs:Nat} {a:DlA} {D:PDl} {p q:Nat} (h:DlM w bs a D) (hs:w.heap.size <= w'.heap.size) (ap:AllC UP w p) (aq:AllC UP w q) (hb:∀ k,k < w.heap.size -> k ≠ p -> k ≠ q -> w'.heap[k]? = w.heap[k]?)
  (tp:∃ e,BT w p e /\ e ≠ 133 /\ e ≠ 76 /\ e ≠ 9) (tq:∃ e,BT w q e /\ e ≠ 133 /\ e ≠ 76 /\ e ≠ 9):DlM w' bs a D:=by
 obtain ⟨ep,hp,p1,p2,p3⟩:=tp;obtain ⟨eq,hq,q1,q2,q3⟩:=tq;have own:∀ {base size n:Nat} {e:TypeId} {v:Value} {xs:List Value},w.ownsRow base e size v n xs -> e ≠ ep -> e ≠ eq -> w'.ownsRow base e size v n xs:=fun {base size n e v xs} ho h1 h2=>by
  obtain ⟨r1,r2⟩:=ho;refine ⟨r1,?_⟩;rcases r2 with e0 | ⟨g,cap,cur,e0,hg,hgg,rest⟩
  ·exact .inl e0
  ·exact .inr ⟨g,cap,cur,e0,hg,(hb g (BT.lt ⟨_,_,hgg⟩) (BT.ne ⟨_,_,hgg⟩ hp h1) (BT.ne ⟨_,_,hgg⟩ hq h2)).trans hgg,rest⟩
 have hbq:BT w a.q 133:=⟨_,_,h.cell⟩;refine ⟨(hb a.q hbq.lt (hbq.ne hp p1.symm) (hbq.ne hq q1.symm)).trans h.cell,fun w2 hs2 hk=>?_,own h.row p2.symm q2.symm,fun f hf=>own (h.ref f hf) p3.symm q3.symm,h.apart,h.pure,h.len,h.pos,h.lt.1,h.lt.2.1,tR h.lt.2.2 hs⟩;have hpl:=hp.lt;have hql:=hq.lt;have e1:(back w w2 p q).heap[p]? = w.heap[p]?:=by
  unfold back;by_cases e:p = q
  ·subst e;simp [show p < w2.heap.size by omega,Array.getElem?_eq_getElem hpl]
  ·simp [show p < w2.heap.size by omega,Array.getElem?_eq_getElem hpl,Ne.symm e]
 have e2:(back w w2 p q).heap[q]? = w.heap[q]?:=by
  unfold back;simp [show q < w2.heap.size by omega,Array.getElem?_eq_getElem hql]
 have e3:∀ k,k ≠ p -> k ≠ q -> (back w w2 p q).heap[k]? = w2.heap[k]?:=fun k h1 h2=>by
  unfold back;simp [Ne.symm h1,Ne.symm h2]
 have e4:(back w w2 p q).heap.size = w2.heap.size:=by simp [back]
 have h1:PlM (back w w2 p q) a.PA a.Ss D.S:=h.stab _ (by rw [e4];omega) (fun b b1 b2 b3=>by
  by_cases c1:b = p
  ·rw [c1];exact e1
  ·by_cases c2:b = q
   ·rw [c2];exact e2
   ·exact (e3 b c1 c2).trans ((hk b b1 b2 b3).trans (hb b (Nat.lt_of_lt_of_le b1 h.lt.2.2) c1 c2)))
 exact Off.plm (w:=back w w2 p q) (p:=p) (q:=q) ⟨e4.symm,ap.block e1,aq.block e2,fun k k1 k2=>(e3 k k1 k2).symm⟩ h1
theorem Zs {w0 w:World} {F:List (Option Addr × List Value)} (h:Led w0 w F) (cs:Array Value) (t:TypeId) (k:Nat) (hk:w.heap.size = k):Led w0 (w.alloc (.cells cs t)) (F ++ [(some ⟨k,0,none⟩,cs.toList)]):=
 (h.alloc _).row (by subst hk;exact heap_alloc_new w _)
theorem ZhF {w:World} {a:Nat} {l:List Int} (h:Lies w (some ⟨a,0,none⟩) (ics l)) (hl:l.length <= 1000000) (hb:∀ y ∈ l,-9223372036854775808 <= y /\ y <= 9223372036854775807):InOk w (some ⟨a,0,none⟩,l.length,l):=
 ⟨h,(fun e=>by cases e),tR hl (by decide),Nat.le_refl _,hb⟩
theorem ZjJ {w:World} {g a:Nat} {l1:List Int} (h:Lies w (some ⟨g,0,none⟩) [.slice (some ⟨a,0,none⟩) l1.length l1.length]) (h1:InOk w (some ⟨a,0,none⟩,l1.length,l1)):LL w (some ⟨g,0,none⟩) [(some ⟨a,0,none⟩,l1.length,l1)]:=
 ⟨h,fun x hx=>by rw [List.mem_singleton] at hx;subst hx;exact h1⟩
theorem ZkG {w:World} {g a b:Nat} {l1 l2:List Int} (h:Lies w (some ⟨g,0,none⟩) [.slice (some ⟨a,0,none⟩) l1.length l1.length,.slice (some ⟨b,0,none⟩) l2.length l2.length]) (h1:InOk w (some ⟨a,0,none⟩,l1.length,l1)) (h2:InOk w (some ⟨b,0,none⟩,l2.length,l2)) :
  LL w (some ⟨g,0,none⟩) [(some ⟨a,0,none⟩,l1.length,l1),(some ⟨b,0,none⟩,l2.length,l2)]:=
 ⟨h,fun x hx=>by
  rcases List.mem_cons.1 hx with rfl | hx
  ·exact h1
  ·rw [List.mem_singleton] at hx;subst hx;exact h2⟩
theorem Zkq (a b c d e:Nat) (w:World) (h0:Lies w (some ⟨a,0,none⟩) [.int .i64 0]) (h1:Lies w (some ⟨b,0,none⟩) [.int .i64 0]) (h2:Lies w (some ⟨c,0,none⟩) [.slice (some ⟨a,0,none⟩) 1 1,.slice (some ⟨b,0,none⟩) 1 1]) (h3:Lies w (some ⟨d,0,none⟩) [.int .i64 3]) (h4:Lies w (some ⟨e,0,none⟩) [.slice (some ⟨d,0,none⟩) 1 1]) :
  Calls Tryz.prog 15 #[.slice (some ⟨c,0,none⟩) 2 2,.slice (some ⟨e,0,none⟩) 1 1] w (Zf6 0 ((6:Int):Rat) w):=by
 have:=Zgp (some ⟨c,0,none⟩) (some ⟨e,0,none⟩) 2 1 [(some ⟨a,0,none⟩,1,[0]),(some ⟨b,0,none⟩,1,[0])] [(some ⟨d,0,none⟩,1,[3])] w
  (ZkG (l1:=[0]) (l2:=[0]) h2 (ZhF h0 (by decide) (by decide)) (ZhF h1 (by decide) (by decide))) (ZjJ (l1:=[3]) h4 (ZhF h3 (by decide) (by decide))) (by simp) (by simp) 0 (zH ZjC)
 rw [show Zkh 0 (Jx [(some ⟨a,0,none⟩,1,[0]),(some ⟨b,0,none⟩,1,[0])]) (Jx [((some ⟨d,0,none⟩:Option Addr),1,[3])]) = ((6:Int):Rat) from ZjD] at this;exact this
theorem Zkt (a b c d e f g:Nat) (x:Fr) (w:World) (h0:Lies w (some ⟨a,0,none⟩) [.int .i64 0]) (h1:Lies w (some ⟨b,0,none⟩) [.slice (some ⟨a,0,none⟩) 1 1]) (h2:Lies w (some ⟨c,0,none⟩) [.int .i64 9]) (h3:Lies w (some ⟨d,0,none⟩) [.slice (some ⟨c,0,none⟩) 1 1])
  (h4:Lies w (some ⟨e,0,none⟩) [.int .i64 1]) (h5:Lies w (some ⟨f,0,none⟩) [.slice (some ⟨e,0,none⟩) 1 1]) (h6:Lies w (some ⟨g,0,none⟩) [.slice (some ⟨b,0,none⟩) 1 1,.slice (some ⟨d,0,none⟩) 1 1,.slice (some ⟨f,0,none⟩) 1 1]) (hx:Fq w x (mkRat 1 2)) :
  Calls Tryz.prog 23 #[.slice (some ⟨g,0,none⟩) 3 3,.int .i64 3,x.val] w (Zi3 [0,1,0] w):=by
 have hs:Sz (mkRat 1 2) 90000:=UK (by decide +kernel) (by decide +kernel);have:=Zed (some ⟨g,0,none⟩) 3 [(some ⟨b,0,none⟩,1,[(some ⟨a,0,none⟩,1,[0])]),(some ⟨d,0,none⟩,1,[(some ⟨c,0,none⟩,1,[9])]),(some ⟨f,0,none⟩,1,[(some ⟨e,0,none⟩,1,[1])])] 3 x (mkRat 1 2) w
  ⟨h6,fun y hy=>by
   rcases List.mem_cons.1 hy with rfl | hy
   ·exact ZjJ (l1:=[0]) h1 (ZhF h0 (by decide) (by decide))
   ·rcases List.mem_cons.1 hy with rfl | hy
    ·exact ZjJ (l1:=[9]) h3 (ZhF h2 (by decide) (by decide))
    ·rw [List.mem_singleton] at hy;subst hy;exact ZjJ (l1:=[1]) h5 (ZhF h4 (by decide) (by decide))⟩ (zH Zin) (by decide) hx.fv (hx.few hs) (by decide +kernel)
 replace this:Calls Tryz.prog 23 #[.slice (some ⟨g,0,none⟩) 3 3,.int .i64 3,x.val] w (Zi3 (Zja (clu 3 (mkRat 1 2) 3 (Xs [[[0]],[[9]],[[1]]])) 3) w):=this;rw [ZjG] at this;exact this
theorem Zks (a b:Nat) (w:World) (h0:Lies w (some ⟨a,0,none⟩) [.int .i64 1]) (h1:Lies w (some ⟨b,0,none⟩) [.slice (some ⟨a,0,none⟩) 1 1]) :
  Calls Tryz.prog 53 #[.int .i64 1,.int .i64 1,.slice (some ⟨b,0,none⟩) 1 1] w fun e w'=>∃ A' c' L',e = .returned (.agg #[.int .i64 1,.int .i64 1,.slice A' (L':List Gm).length c']) /\ GLo w' w.heap.size A' c' L' /\ Jd L' = [([0],1),([1],1)] /\ RowKit.Below w.heap.size w w':=by
 have:=ZdC 1 1 (some ⟨b,0,none⟩) 1 (some ⟨a,0,none⟩,1,[1]) w (ZjJ (l1:=[1]) h1 (ZhF h0 (by decide) (by decide))) (by decide) (by decide) (by simp);replace this:Calls Tryz.prog 53 #[.int .i64 1,.int .i64 1,.slice (some ⟨b,0,none⟩) 1 1] w fun e w'=>∃ A' c' L',e = .returned (.agg #[.int .i64 1,.int .i64 1,.slice A' (L':List Gm).length c']) /\ GLo w' w.heap.size A' c' L' /\ Jd L' = ZaU 1 [1] 2 /\ RowKit.Below w.heap.size w w':=this;rw [ZjE] at this;exact this
theorem Zkp (A:Option Addr) (c:Nat) (L:List Gm) (w:World) (base:Nat) (h:GLo w base A c L) (ht:Jd L = [([0],1),([1],1)]) :
  Calls Tryz.prog 41 #[.agg #[.int .i64 1,.int .i64 1,.slice A L.length c]] w fun e w'=>RowKit.Below w.heap.size w w' /\ ∃ p B t,e = .returned (.tuple #[.pointer (some ⟨p,0,none⟩),.int .i64 0]) /\ LrI w' w.heap.size p B 1 [t] /\ t.o = 1 /\ t.v = 1 /\ Jd t.L = [([0],1),([1],1)] /\ w.heap.size <= p:=by
 have hl:L.length = 2:=by have:=congrArg List.length ht;simpa using this
 refine (ZbJ 1 1 A c L w h.tb h.nilA (by omega) 0 (zH (by rw [ht];exact ZhE))).mono ?_;rintro e w' ⟨hb,hr⟩;rw [if_pos rfl] at hr;obtain ⟨p,B,t,he,hL,h1,h2,h3,h4⟩:=hr;exact ⟨hb,p,B,t,he,hL,h1,h2,h3.trans ht,h4⟩
theorem Zkm {α:Type} {l:List α} {a b : α} (h:l.Perm [a,b]):l = [a,b] ∨ l = [b,a]:=by
 have hl:=h.length_eq
 match l,hl with
 | [x,y],_=>
  rcases List.mem_cons.1 (h.mem_iff.1 (List.mem_cons_self (a:=x))) with rfl | h1
  ·have h2:=(List.perm_cons x).1 h;have:=List.perm_singleton.1 h2;injection this with e
   exact .inl (by rw [e])
  ·rw [List.mem_singleton] at h1;subst h1;have h2:[x,y].Perm [x,a]:=h.trans (List.Perm.swap _ _ _);have h3:=(List.perm_cons x).1 h2;have:=List.perm_singleton.1 h3;injection this with e
   exact .inr (by rw [e])
theorem Zkr (base p:Nat) (B:Option Addr) (t:TT) (S:Option Addr) (sc:Nat) (w:World) (h:LrI w base p B 1 [t]) (hb:base <= w.heap.size) (hbp:base <= p) (ho:t.o = 1) (hv:t.v = 1) (ht:Jd t.L = [([0],1),([1],1)]) (hI:InOk w (S,sc,[1,1])) :
  Calls Tryz.prog 43 #[.pointer (some ⟨p,0,none⟩),.slice S 2 sc,.int .i64 2] w fun e w'=>e = .returned (.int .i64 0) /\ ∃ B' cap' t2,LrI w' base p B' cap' [t,t2] /\ t2.o = 1 /\ t2.v = 1 /\ Jd t2.L = [([0],3),([1],5)] /\ Two w w' p (blk B):=by
 refine (Q3 base p 1 1 1 B [] t S sc [1,1] 2 w h hb hbp ho hv hI (by decide) (by decide) (by decide) (by decide)).mono ?_;rintro e w' ⟨T1,hp,he,hif⟩;have e1:(Ye 1 [1,1] ([1,1]:List Int).length.succ).map (fun q=>(gmW 1 q.1,q.2 * (2:Int))) = [([1],4),([0],2)]:=by
  rw [show Ye 1 [1,1] ([1,1]:List Int).length.succ = [(kOf [1],2),(kOf [0],1)] from ZjF];decide +kernel
 have hp':T1.Perm [([1],4),([0],2)]:=by rw [<- e1];exact hp
 have hc:Uz (mrg (mrg [] (Jd t.L)) T1) = 0:=by
  rw [ht];rcases Zkm hp' with h1 | h1
  ·rw [h1];exact Zip
  ·rw [h1];exact Zio
 rw [if_pos hc] at hif;obtain ⟨B',cap',t2,hL,ho2,hv2,hperm,hTwo,_⟩:=hif;refine ⟨by rw [he,hc],B',cap',t2,hL,ho2,hv2,?_,hTwo⟩;have ht2:=(hL.tab t2 (by simp)).ok;rw [ho2,hv2] at ht2;refine Zji (o:=1) ht2 Zil fun k=>?_;have hval:=ZfO (o:=1) (v:=1) (n:=2) (s:=[1,1]) (T:=Jd t.L) (T1:=T1) (T2:=Jd t2.L) (by decide) (by decide) (by decide) (by rw [ht];exact ZhE) hp hperm k;rw [hval,ht];unfold ZjY;rw [show (Ye 1 [1,1] (([1,1]:List Int).length + 1)).map (fun q=>(gmW 1 q.1,q.2 * (2:Int))) = [([1],4),([0],2)] from e1];simp only [Xj];split <;> split <;> omega
end Go.Proofs.YtcjicjfbippmnaaGreat
