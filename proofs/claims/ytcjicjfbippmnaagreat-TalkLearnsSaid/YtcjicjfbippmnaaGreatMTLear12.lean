/- TalkLearns -/
import Derived.Test.YtcjicjfbippmnaaGreatMTLear11
set_option maxRecDepth 100000
set_option maxHeartbeats 32000000
namespace Go.Proofs.YtcjicjfbippmnaaGreat
open Go.RowKit Ear

structure PredII (g:FuncId) (lb:Array Value) (p:List Int -> Bool) (L:List Inn) (w:World):Prop where
 enter:∀ (args:Array Value) (w:World),(callFunc g args).run Tryz.prog w = .ok (.enter g args) w
 gives:∀ (u:World),Below w.heap.size w u -> ∀ x ∈ L,Calls Tryz.prog g (#[.slice x.1 x.2.2.length x.2.1] ++ lb) u (ZcY (p x.2.2) u)
def Zi6 (b:Bool) (w:World) (e:Ending) (w':World):Prop:=∃ r:Int,e = .returned (.int .i64 r) /\ Below w.heap.size w w' /\ decide (0 <= r) = b
theorem Zbs {p:List Int -> Bool} {L:List Inn} {k:Nat} (hk:k < L.length) (h:((Jx L).take k).any p = false) (hx:p L[k].2.2 = false):((Jx L).take (k + 1)).any p = false:=by
 rw [List.take_succ_eq_append_getElem (by simpa using hk),List.any_append,h];simp [hx]
theorem Zcm (g:FuncId) (q:Array Value) (p:List Int -> Bool) (A:Option Addr) (c:Nat) (L:List Inn) (w:World) (hp:PredII g q p L w) (h:LL w A L) (hn:L.length <= 9223372036854775807) (lb:Array Value) (hlb:lb = q) :
  Calls Tryz.prog 183 #[.slice A L.length c,.func (.func g) #[] lb] w (Zi6 ((Jx L).any p) w):=by
 have heg:=hp.enter;subst hlb;have HP:=zH hp.gives;clear hp;go_enter Tryz.func183,Tryz.ntmps183;go_wp2_with fail;go_loopw [8] (fun i wr=>∃ k:Nat,k <= L.length /\ i = .int .i64 k /\ Hid (((Jx L).take k).any p = false) /\ Hid (Below w.heap.size w wr)) (fun i _=>L.length - (intOf i).toNat)
 case atStart=>exact ⟨0,Nat.zero_le _,rfl,zH rfl,zH bR⟩
 case round=>
  obtain ⟨k,hk,rfl,HN,HB⟩:=hrel;by_cases hlt:k < L.length
  ·obtain ⟨bk,off,rfl,hbk,hc⟩:=(h.below HB.out).lies.lat hlt;have HC:=zH (HP.out wr HB.out _ (yM hlt));have HT:Hid (p L[k].2.2 = true -> (Jx L).any p = true):=zH (fun hx=>List.any_eq_true.2 ⟨L[k].2.2,List.mem_map_of_mem (f:=fun x:Inn=>x.2.2) (yM hlt),hx⟩);have HF:Hid (p L[k].2.2 = false -> ((Jx L).take (k + 1)).any p = false):=zH (fun hx=>Zbs hlt HN.out hx);generalize L[k] = X at *
   obtain ⟨XA,Xc,xl⟩:=X;simp only at *
   cases hpx:p xl with
   | true=>
    have hT:=HT.out hpx;have HR:=zH hT;rw [hpx] at HC;clear hpx HT HF hT;go_wp2_with fail;refine HC.out.mono ?_;rintro e w' ⟨rfl,hb⟩;have HB2:=zH (HB.out.trans (hb.mono HB.out.size));clear hb HC;go_wp2_with fail;go_ret;exact ⟨k,rfl,HB2.out,by rw [HR.out];simp⟩
   | false=>
    have HR:=zH (HF.out hpx);rw [hpx] at HC;clear hpx HT HF;go_wp2_with fail;refine HC.out.mono ?_;rintro e w' ⟨rfl,hb⟩;have HB2:=zH (HB.out.trans (hb.mono HB.out.size));clear hb HC;go_wp2_with fail;exact ⟨⟨k + 1,by omega,by go_num,HR,HB2⟩,by simp [intOf];omega⟩
  ·have hz:=HN.out;rw [List.take_of_length_le (by simp;omega)] at hz;have HZ:=zH hz;clear hz HN;go_wp2_with fail;go_ret;exact ⟨-1,rfl,HB.out,by rw [HZ.out];rfl⟩
theorem Xo (g:FuncId) (q:Array Value) (p:List Int -> Bool) (A:Option Addr) (c:Nat) (L:List Inn) (w:World) (hp:PredII g q p L w) (h:LL w A L) (hn:L.length <= 9223372036854775807) (b:Bool) (hb:Hid ((Jx L).any p = b)) :
  Calls Tryz.prog 153 #[.slice A L.length c,.func (.func g) #[] q] w (ZcY b w):=by
 go_enter Tryz.func153,Tryz.ntmps153;go_wp2_with fail;refine (Zcm g q p A c L _ hp h hn q rfl).mono ?_;rintro e w' ⟨r,rfl,hbw,hr⟩;rw [hb.out] at hr;have HR:=zH hr;clear hr;go_wp2_with fail;go_ret;exact ⟨Jr HR.out,hbw⟩
theorem ZbQ (A:Option Addr) (c n:Nat) (w:World) (b:Bool) (hb:Hid (decide (500 < n) = b)):Calls Tryz.prog 154 #[.slice A n c] w (ZcY b w):=by
 go_enter Tryz.func154,Tryz.ntmps154;go_wp2_with fail;go_ret;exact ⟨Jr (by rw [<- hb.out];simp [decide_eq_decide];omega),Below.refl _ _⟩
theorem Zdw (A:Option Addr) (c:Nat) (l:List Int) (v:Int) (bV:Nat) (w:World) (h:Lies w A (ics l)) (hn:l.length <= 9223372036854775807) (cV:w.cell? ⟨bV,0,none⟩ = some (.int .i64 v)) (b:Bool) (hb:Hid ((!Xy 1 v l) = b)) :
  Calls Tryz.prog 155 #[.slice A l.length c,.pointer (some ⟨bV,0,none⟩)] w (ZcY b w):=by
 generalize hx:Xy 1 v l = x at *
 have HX:=zH hx;clear hx;go_enter Tryz.func155,Tryz.ntmps155;go_wp2_with fail;refine (Xs A c l 1 v _ h hn x HX).mono ?_;rintro e w' ⟨rfl,hb2⟩;go_wp2_with fail;go_ret;exact ⟨Jr hb.out,hb2⟩
theorem Zf (L:List Inn) (w:World):PredII 154 #[] (fun l=>decide (500 < l.length)) L w:=⟨enters_of Tryz.func154 (by kernel_rfl) rfl,fun u _ x _=>ZbQ x.1 x.2.1 x.2.2.length u _ (zH rfl)⟩
theorem Qm (L:List Inn) (w:World) (v:Int) (bV:Nat) (hl:∀ x ∈ L,InOk w x) (cV:w.cell? ⟨bV,0,none⟩ = some (.int .i64 v)) (hb:bV < w.heap.size):PredII 155 #[.pointer (some ⟨bV,0,none⟩)] (fun l=>!Xy 1 v l) L w:=
 ⟨enters_of Tryz.func155 (by kernel_rfl) rfl,fun u hu x hx=>Zdw x.1 x.2.1 x.2.2 v bV u ((hl x hx).below hu).1 (hl x hx).2.2.1 ((hu.cell (p:=⟨bV,0,none⟩) hb).trans cV) _ (zH rfl)⟩
set_option linter.unusedVariables false

theorem YG {t:TypeId} {w:World} {x:Fr} {q:Rat} {k:Nat} (h:Nm w x q) (hb:Bt t w k) (v0 v1 v2:Value):Nm (((w.setCell ⟨k,0,none⟩ v0).setCell ⟨k,1,none⟩ v1).setCell ⟨k,2,none⟩ v2) x q:=
 ⟨h.neg,h.num,h.dn,XG h.n hb _ _ _,XG h.d hb _ _ _⟩
theorem J1 {t:TypeId} {w:World} {x:Fr} {q:Rat} {k:Nat} (h:Fq w x q) (hb:Bt t w k) (v0 v1 v2:Value):Fq (((w.setCell ⟨k,0,none⟩ v0).setCell ⟨k,1,none⟩ v1).setCell ⟨k,2,none⟩ v2) x q:=
 ⟨⟨XG h.ok.n hb _ _ _,XG h.ok.d hb _ _ _⟩,h.neg,h.num,h.dn⟩
theorem Zed (p q:Rat):fq (qs p != qs q) (qn p * qn q) (p.den * q.den) = p * q:=by
 rw [<- ZeM p.den_nz q.den_nz,XT,XT]
theorem Zco (x y:Fr) (p q:Rat) (w:World) (hx:Nm w x p) (hy:Nm w y q) (sp:Sz p 200000) (sq:Sz q 200000):Calls Tryz.prog 166 #[x.val,y.val] w (Qh (p * q) w):=by
 obtain ⟨xn,xA,xc,xN,xB,xd,xD⟩:=x;obtain ⟨h1,h2,h3,HxN,HxD⟩:=hx;simp only at h1 h2 h3 HxN HxD;subst h1 h2 h3;obtain ⟨yn,yA,yc,yN,yB,yd,yD⟩:=y;obtain ⟨h1,h2,h3,HyN,HyD⟩:=hy;simp only at h1 h2 h3 HyN HyD;subst h1 h2 h3;simp only [Fr.val];have s1:=sp.num;have s2:=sp.den;have s3:=sq.num;have s4:=sq.den;have l1:=JQ (qn p) (qn q);have l2:=JQ p.den q.den;have d0:p.den * q.den ≠ 0:=Nat.mul_ne_zero p.den_nz q.den_nz;rw [<- Zed p q];go_enter Tryz.func166,Tryz.ntmps166;go_wp2_with fail;obtain ⟨W,hW⟩:∃ W:World,W = ((w.alloc (.cells #[.bool (qs p),.slice xA (nd (qn p)).length xc,.slice xB (nd p.den).length xd] 119)).alloc (.cells #[.bool (qs q),.slice yA (nd (qn q)).length yc,.slice yB (nd q.den).length yd] 119)).alloc (.cells #[.bool false,.slice none 0 0,.slice none 0 0] 119):=⟨_,rfl⟩;have hs:W.heap.size = w.heap.size + 3:=by rw [hW];simp
 have HB0:Hid (Below w.heap.size w W):=zH (by rw [hW];exact (al2 w _ _).alloc (by simp;omega) _);have HBX:Hid (Bt 119 W (w.heap.size + 1 + 1)):=zH (by rw [hW];have:=Bt.new 119 ((w.alloc (.cells #[.bool (qs p),.slice xA (nd (qn p)).length xc,.slice xB (nd p.den).length xd] 119)).alloc (.cells #[.bool (qs q),.slice yA (nd (qn q)).length yc,.slice yB (nd q.den).length yd] 119));simpa using this);have HC:Hid (∀ u,Below W.heap.size W u -> u.cell? ⟨w.heap.size,0,none⟩ = some (.bool (qs p)) /\ u.cell? ⟨w.heap.size,1,none⟩ = some (.slice xA (nd (qn p)).length xc) /\ u.cell? ⟨w.heap.size,2,none⟩ = some (.slice xB (nd p.den).length xd) /\ u.cell? ⟨w.heap.size + 1,0,none⟩ = some (.bool (qs q)) /\ u.cell? ⟨w.heap.size + 1,1,none⟩ = some (.slice yA (nd (qn q)).length yc) /\ u.cell? ⟨w.heap.size + 1,2,none⟩ = some (.slice yB (nd q.den).length yd)):=zH (fun u hu=>by
  rw [hu.cell (p:=⟨w.heap.size,0,none⟩) (by simp;omega),hu.cell (p:=⟨w.heap.size,1,none⟩) (by simp;omega),hu.cell (p:=⟨w.heap.size,2,none⟩) (by simp;omega),hu.cell (p:=⟨w.heap.size + 1,0,none⟩) (by simp;omega),hu.cell (p:=⟨w.heap.size + 1,1,none⟩) (by simp;omega),hu.cell (p:=⟨w.heap.size + 1,2,none⟩) (by simp;omega),hW];simp [go_sem])
 have HxN1:=zH (HxN.below HB0.out);have HxD1:=zH (HxD.below HB0.out);have HyN1:=zH (HyN.below HB0.out);have HyD1:=zH (HyD.below HB0.out);clear HxN HxD HyN HyD;rw [<- hW];clear hW;refine Jl 16 21 rfl (by kernel_rfl) (by kernel_rfl) (by kernel_rfl) (by kernel_rfl) (fun u=>Below W.heap.size W u) (fun u u'=>Below u.heap.size u u') (Gl [isV (.pointer (some ⟨w.heap.size,0,none⟩)),isV (.bool (qs p)),isV (.pointer (some ⟨w.heap.size + 1,0,none⟩)),isV (.bool (qs q)),isV (.bool (qs p != qs q)),isV (.pointer (some ⟨w.heap.size,1,none⟩)),isV (.slice xA (nd (qn p)).length xc),isV (.pointer (some ⟨w.heap.size + 1,1,none⟩)),isV (.slice yA (nd (qn q)).length yc),isNd ((qn p) * (qn q)),isV (.pointer (some ⟨w.heap.size,2,none⟩)),isV (.slice xB (nd p.den).length xd),isV (.pointer (some ⟨w.heap.size + 1,2,none⟩)),isV (.slice yB (nd q.den).length yd),isNd ((p.den) * (q.den)),isNm (fq (qs p != qs q) ((qn p) * (qn q)) ((p.den) * (q.den)))]) (Gl.keep (by
   intro p hp;simp only [List.mem_cons,List.not_mem_nil,or_false] at hp;rcases hp with rfl | rfl | rfl | rfl | rfl | rfl | rfl | rfl | rfl | rfl | rfl | rfl | rfl | rfl | rfl | rfl
   ·exact Keeps.isV _
   ·exact Keeps.isV _
   ·exact Keeps.isV _
   ·exact Keeps.isV _
   ·exact Keeps.isV _
   ·exact Keeps.isV _
   ·exact Keeps.isV _
   ·exact Keeps.isV _
   ·exact Keeps.isV _
   ·exact Keeps.isNd _
   ·exact Keeps.isV _
   ·exact Keeps.isV _
   ·exact Keeps.isV _
   ·exact Keeps.isV _
   ·exact Keeps.isNd _
   ·exact Keeps.isNm _)) ?_ ?_ ?_
 ·exact (Below.refl _ W).drew
 ·simp only [List.pop_toArray,List.dropLast,Js];refine ⟨?_,?_,?_,?_,?_,?_,?_,?_,?_,?_,?_,?_,?_,?_,?_,?_,trivial⟩
  ·intro bb u su dp kp K hK;have e2:gT bb 2 = .pointer (some ⟨w.heap.size,0,none⟩):=kp 2 (by kernel_rfl);go_simp;exact hK _ _ su bR rfl
  ·intro bb u su dp kp K hK;have e5:gT bb 5 = .pointer (some ⟨w.heap.size,0,none⟩):=dp 0 _ rfl (by kernel_rfl);obtain ⟨cc0,cc1,cc2,cc3,cc4,cc5⟩:=HC.out u su;go_simp;exact hK _ _ su bR rfl
  ·intro bb u su dp kp K hK;have e3:gT bb 3 = .pointer (some ⟨w.heap.size + 1,0,none⟩):=kp 3 (by kernel_rfl);go_simp;exact hK _ _ su bR rfl
  ·intro bb u su dp kp K hK;have e7:gT bb 7 = .pointer (some ⟨w.heap.size + 1,0,none⟩):=dp 2 _ rfl (by kernel_rfl);obtain ⟨cc0,cc1,cc2,cc3,cc4,cc5⟩:=HC.out u su;go_simp;exact hK _ _ su bR rfl
  ·intro bb u su dp kp K hK;have e6:gT bb 6 = .bool (qs p):=dp 1 _ rfl (by kernel_rfl);have e8:gT bb 8 = .bool (qs q):=dp 3 _ rfl (by kernel_rfl);go_simp;exact hK _ _ su bR rfl
  ·intro bb u su dp kp K hK;have e2:gT bb 2 = .pointer (some ⟨w.heap.size,0,none⟩):=kp 2 (by kernel_rfl);go_simp;exact hK _ _ su bR rfl
  ·intro bb u su dp kp K hK;have e10:gT bb 10 = .pointer (some ⟨w.heap.size,1,none⟩):=dp 5 _ rfl (by kernel_rfl);obtain ⟨cc0,cc1,cc2,cc3,cc4,cc5⟩:=HC.out u su;go_simp;exact hK _ _ su bR rfl
  ·intro bb u su dp kp K hK;have e3:gT bb 3 = .pointer (some ⟨w.heap.size + 1,0,none⟩):=kp 3 (by kernel_rfl);go_simp;exact hK _ _ su bR rfl
  ·intro bb u su dp kp K hK;have e12:gT bb 12 = .pointer (some ⟨w.heap.size + 1,1,none⟩):=dp 7 _ rfl (by kernel_rfl);obtain ⟨cc0,cc1,cc2,cc3,cc4,cc5⟩:=HC.out u su;go_simp;exact hK _ _ su bR rfl
  ·intro bb u su dp kp K hK;have e11:gT bb 11 = .slice xA (nd (qn p)).length xc:=dp 6 _ rfl (by kernel_rfl);have e13:gT bb 13 = .slice yA (nd (qn q)).length yc:=dp 8 _ rfl (by kernel_rfl);go_simp;refine (Zr xA yA xc yc (nd (qn p)) (nd (qn q)) u (HxN1.out.below su) (HyN1.out.below su) (by omega) (by omega) ((qn p) * (qn q)) (zH (by rw [Jz,Jz];simp))).mono ?_;rintro e w' ⟨A,c,rfl,h1,h2,h3,h4⟩;go_simp;exact hK _ _ (su.trans (h4.mono su.size)) h4 ⟨A,c,rfl,zH (JB h1 h2 h3)⟩
  ·intro bb u su dp kp K hK;have e2:gT bb 2 = .pointer (some ⟨w.heap.size,0,none⟩):=kp 2 (by kernel_rfl);go_simp;exact hK _ _ su bR rfl
  ·intro bb u su dp kp K hK;have e15:gT bb 15 = .pointer (some ⟨w.heap.size,2,none⟩):=dp 10 _ rfl (by kernel_rfl);obtain ⟨cc0,cc1,cc2,cc3,cc4,cc5⟩:=HC.out u su;go_simp;exact hK _ _ su bR rfl
  ·intro bb u su dp kp K hK;have e3:gT bb 3 = .pointer (some ⟨w.heap.size + 1,0,none⟩):=kp 3 (by kernel_rfl);go_simp;exact hK _ _ su bR rfl
  ·intro bb u su dp kp K hK;have e17:gT bb 17 = .pointer (some ⟨w.heap.size + 1,2,none⟩):=dp 12 _ rfl (by kernel_rfl);obtain ⟨cc0,cc1,cc2,cc3,cc4,cc5⟩:=HC.out u su;go_simp;exact hK _ _ su bR rfl
  ·intro bb u su dp kp K hK;have e16:gT bb 16 = .slice xB (nd p.den).length xd:=dp 11 _ rfl (by kernel_rfl);have e18:gT bb 18 = .slice yB (nd q.den).length yd:=dp 13 _ rfl (by kernel_rfl);go_simp;refine (Zr xB yB xd yd (nd (p.den)) (nd (q.den)) u (HxD1.out.below su) (HyD1.out.below su) (by omega) (by omega) ((p.den) * (q.den)) (zH (by rw [Jz,Jz];simp))).mono ?_;rintro e w' ⟨A,c,rfl,h1,h2,h3,h4⟩;go_simp;exact hK _ _ (su.trans (h4.mono su.size)) h4 ⟨A,c,rfl,zH (JB h1 h2 h3)⟩
  ·intro bb u su dp kp K hK;have e9:gT bb 9 = .bool (qs p != qs q):=dp 4 _ rfl (by kernel_rfl);obtain ⟨A14,c14,e14,D14⟩:∃ A c,gT bb 14 = .slice A (nd ((qn p) * (qn q))).length c /\ Hid (Dg u A c (nd ((qn p) * (qn q)))):=dp 9 _ rfl (by kernel_rfl);obtain ⟨A19,c19,e19,D19⟩:∃ A c,gT bb 19 = .slice A (nd ((p.den) * (q.den))).length c /\ Hid (Dg u A c (nd ((p.den) * (q.den)))):=dp 14 _ rfl (by kernel_rfl);go_simp;refine (XJ (qs p != qs q) A14 A19 c14 c19 ((qn p) * (qn q)) ((p.den) * (q.den)) u D14.out D19.out (by omega) (by omega) d0).mono ?_;rintro e w' ⟨r,rfl,hr,h4⟩;go_simp;exact hK _ _ (su.trans (h4.mono su.size)) h4 ⟨r,rfl,zH hr⟩
 ·intro bb u hN hdf su hG sm;obtain ⟨r,e20,hr⟩:∃ r:Fr,gT bb 20 = r.val /\ Hid (Nm u r (fq (qs p != qs q) ((qn p) * (qn q)) ((p.den) * (q.den)))):=hG 15 _ rfl;have e4:gT bb 4 = .pointer (some ⟨w.heap.size + 1 + 1,0,none⟩):=sm 4 (by kernel_rfl);have BX2:=zH (HBX.out.below su);obtain ⟨c0,c1,c2,f0,f1,f2⟩:=BX2.out.facts;have HB2:=zH (HB0.out.trans (su.mono HB0.out.size));clear su hG sm;rw [J0 bb 21 hN];simp only [show List.range 21 = [0,1,2,3,4,5,6,7,8,9,10,11,12,13,14,15,16,17,18,19,20] from rfl,List.map_cons,List.map_nil,e4,e20,hdf];clear e4 e20 hN hdf;generalize gT bb 0 = z0,gT bb 1 = z1,gT bb 2 = z2,gT bb 3 = z3,gT bb 5 = z5,gT bb 6 = z6,gT bb 7 = z7,gT bb 8 = z8,gT bb 9 = z9,gT bb 10 = z10,gT bb 11 = z11,gT bb 12 = z12,gT bb 13 = z13,gT bb 14 = z14,gT bb 15 = z15,gT bb 16 = z16,gT bb 17 = z17,gT bb 18 = z18,gT bb 19 = z19;obtain ⟨rn,rA,rc,rN,rB,rd,rD⟩:=r;refine PopQ.last rfl rfl (fun K hK=>?_);go_simp;refine hK _ _ ?_;clear hK K;go_wp2_with fail;obtain ⟨g0,g1,g2⟩:=Z6 (.bool rn) (.slice rA rN.length rc) (.slice rB rD.length rd) c0 c1 c2;refine bodyPost_ret (v:=.agg #[.bool rn,.slice rA rN.length rc,.slice rB rD.length rd]) (by simp [results,Tryz.results166,go_sem,g0,g1,g2]) rfl ?_;exact ⟨⟨rn,rA,rc,rN,rB,rd,rD⟩,rfl,YG hr.out BX2.out _ _ _,Jj HB2.out (by omega) _ _ _⟩
end Go.Proofs.YtcjicjfbippmnaaGreat
