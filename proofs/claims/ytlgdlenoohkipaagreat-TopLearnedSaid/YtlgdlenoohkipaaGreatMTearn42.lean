/- TopLearned -/
import Derived.Test.YtlgdlenoohkipaaGreatMTearn41
set_option maxRecDepth 100000
set_option maxHeartbeats 32000000
namespace Go
section
variable {P:Program} {ops:Array Oper} {Q:Exit -> Act -> World -> Prop} {md:Region.Mode}
theorem Up {S:World -> Prop} (i j:Nat) {oi oj:Oper} {fuel:Nat} {listed:Array Bool} {a:Act} {w:World} (hi:ops[i]? = some oi) (hj:ops[j]? = some oj) (hr:Region.ready md ops listed = [i,j]) (hgi:oi.guard = none) (hgj:oj.guard = none)
  (h:∀ K':Act -> World -> Prop,Shut (∀ a w,S w -> (S w -> wpAnyH P md ops Q S fuel (listed.setIfInBounds i true) a w) -> K' a w) -> Oper.wp P oi a w K' Q)
  (h2:∀ K':Act -> World -> Prop,Shut (∀ a w,S w -> (S w -> wpAnyH P md ops Q S fuel (listed.setIfInBounds j true) a w) -> K' a w) -> Oper.wp P oj a w K' Q):wpAnyH P md ops Q S (fuel + 1) listed a w:=
 wpAnyH_ready hr (by simp) (AllReadyH.cons hi (fun K hK=>by
  have hw:Region.wanted oi (yielded ops a.tmps) = true:=by simp [Region.wanted,hgi]
  rw [if_pos hw];exact h K hK) (AllReadyH.cons hj (fun K hK=>by
  have hw:Region.wanted oj (yielded ops a.tmps) = true:=by simp [Region.wanted,hgj]
  rw [if_pos hw];exact h2 K hK) AllReadyH.nil))
end
end Go
namespace Go.Proofs.YtlgdlenoohkipaaGreat
open Go.RowKit Ear

theorem Ye {w w':World} (h:w.grownBy w' none):Below w.heap.size w w':=⟨h.os,h.tape,h.output,h.size,fun k hk=>h.block k hk (by simp)⟩
theorem Xo {w w':World} (h:Below w.heap.size w w') (r:Option Nat):w.grownBy w' r:=⟨h.os,h.tape,h.output,h.size,fun k hk _=>h.block k hk⟩
def Zjq (base:Nat) (A:Option Addr) (T:Tbl) (w:World) (e:Ending) (w':World):Prop:=
 ∃ A' c' L',e = .returned (.slice A' (L':List Gm).length c') /\ GLo w' base A' c' L' /\ Je L' = T /\ w.grownBy w' (blk A)
theorem ZJ (a b:List Gm):J6 (a ++ b) = J6 a ++ J6 b:=by simp [J6]
theorem Q6 {W2 W6:World} {base K c c6 c1:Nat} {A A1 A6:Option Addr} {L:List Gm} {g:List Int} {n:Int} (h:GLo W2 base A c L) (hb:Below W2.heap.size W2 W6) (hT:InT W2 (A1,c1,g)) (hn : -9223372036854775808 <= n /\ n <= 9223372036854775807)
  (ho:W6.ownsRow W2.heap.size 93 2 (.slice A6 (L.length + 1) c6) (L.length + 1) (J6 (L.take K) ++ [.slice A1 g.length c1,.int .i64 n] ++ J6 (L.drop K))) (hs:base <= W2.heap.size):GLo W6 base A6 c6 (L.take K ++ ((A1,c1,g),n) :: L.drop K):=by
 have hlen:(L.take K ++ ((A1,c1,g),n) :: L.drop K).length = L.length + 1:=by
  have:=congrArg List.length (List.take_append_drop K L);simp only [List.length_append] at this;simp only [List.length_append,List.length_cons];omega
 refine ⟨?_,fun x hx=>?_,fun x hx=>?_⟩
 ·rw [hlen,ZJ];have e:J6 (((A1,c1,g),n) :: L.drop K) = [.slice A1 g.length c1,.int .i64 n] ++ J6 (L.drop K):=rfl;rw [e,<- List.append_assoc];exact J9 ho hs
 ·rcases List.mem_append.1 hx with hx | hx
  ·exact (h.inn x (List.mem_of_mem_take hx)).below hb
  ·rcases List.mem_cons.1 hx with rfl | hx
   ·exact hT.below hb
   ·exact (h.inn x (List.mem_of_mem_drop hx)).below hb
 ·rcases List.mem_append.1 hx with hx | hx
  ·exact h.num x (List.mem_of_mem_take hx)
  ·rcases List.mem_cons.1 hx with rfl | hx
   ·exact hn
   ·exact h.num x (List.mem_of_mem_drop hx)
theorem ZcI {w:World} {base c:Nat} {A:Option Addr} {L:List Gm} (h:GLo w base A c L) (K:Nat):Lies w A (J6 (L.take K)):=by
 have h1:=Lies.of_own h.row;intro hl;rcases Nat.eq_zero_or_pos L.length with h0 | h0
 ·rw [List.eq_nil_of_length_eq_zero h0] at hl;simp at hl
 ·obtain ⟨b,off,e,hb,hc⟩:=h1 (by rw [Jp];omega);refine ⟨b,off,e,hb,fun k v hk=>hc k v ?_⟩;have hk2:=(List.getElem?_eq_some_iff.1 hk).1;have:J6 L = J6 (L.take K) ++ J6 (L.drop K):=by rw [<- ZJ,List.take_append_drop]
  rw [this,List.getElem?_append_left hk2];exact hk
def Qj (A:Option Addr) (c K:Nat):Option Addr:=if c = K then A else A.map (·.add (K * 2))
theorem ZcJ {w:World} {base c:Nat} {A:Option Addr} {L:List Gm} (h:GLo w base A c L) (K:Nat) (hK:K <= L.length) (hc0:L.length <= c):Lies w (Qj A c K) (J6 (L.drop K)):=by
 have h1:=Lies.of_own h.row;intro hl;rcases Nat.eq_zero_or_pos L.length with h0 | h0
 ·rw [List.eq_nil_of_length_eq_zero h0] at hl;simp at hl
 ·obtain ⟨b,off,e,hb,hc⟩:=h1 (by rw [Jp];omega);have hck:c ≠ K:=fun e=>by
   have:L.drop K = []:=List.drop_eq_nil_of_le (by omega);rw [this] at hl;simp at hl
  refine ⟨b,off + K * 2,by unfold Qj;rw [if_neg hck,e];simp [Addr.add],hb,fun k v hk=>?_⟩;have:J6 L = J6 (L.take K) ++ J6 (L.drop K):=by rw [<- ZJ,List.take_append_drop]
  have h2:=hc (K * 2 + k) v (by
   rw [this,List.getElem?_append_right (by rw [Jp,List.length_take,Nat.min_eq_left hK];omega),Jp,List.length_take,Nat.min_eq_left hK];rw [show K * 2 + k - K * 2 = k by omega];exact hk)
  rw [Nat.add_assoc];exact h2
theorem Zf0 (A:Option Addr) (l c K:Nat) (hK:K <= l) (hl:l <= c) (W:World):(Instr.sliceAt 25 (.slice A l c) none (some (.int .i64 (K:Int))) none).run Tryz.prog W = .ok (.slice A K c) W:=by
 have e0:Tryz.prog.underlying 25 = some (.slice (Tryz.prog.elem 25)):=by kernel_rfl
 have hs:(sizeOf (Tryz.prog.elem 25)).run Tryz.prog W = .ok 2 W:=by kernel_rfl
 rw [run_sliceAt_slice (h:=e0),run_slice_h (ht:=e0) (h0:=by omega) (h2:=by omega),hs];cases A with
 | none=>simp [Result.andThen,sliced]
 | some a=>obtain ⟨b,o,s⟩:=a;simp [Result.andThen,sliced,Addr.add]
theorem Zdm (A:Option Addr) (l c K:Nat) (hK:K <= l) (W:World):(Instr.sliceAt 25 (.slice A l c) (some (.int .i64 (K:Int))) none none).run Tryz.prog W = .ok (.slice (Qj A c K) (l - K) (c - K)) W:=by
 have e0:Tryz.prog.underlying 25 = some (.slice (Tryz.prog.elem 25)):=by kernel_rfl
 have hs:(sizeOf (Tryz.prog.elem 25)).run Tryz.prog W = .ok 2 W:=by kernel_rfl
 rw [run_sliceAt_slice (h:=e0),run_slice_l (ht:=e0) (h0:=by omega) (h1:=by omega),hs];simp [Result.andThen,sliced,Qj]
theorem ZhS (base:Nat) (A S:Option Addr) (c sc:Nat) (L:List Gm) (g:List Int) (n:Int) (w:World) (hL:GLo w base A c L) (hS:Lies w S (ics g)) (hSn:S = none -> sc = 0) (hb:base <= w.heap.size) (hlen:Hid (∀ x ∈ L,x.1.2.2.length = g.length)) (hnum:Hid (∀ x ∈ L,0 <= x.2 /\ x.2 <= 1099511627776)) (hn : 0 <= n /\ n <= 1099511627776) (hll:L.length <= 100000) (hgl:g.length <= 1000) (hgb:Hid (∀ y ∈ g,-9223372036854775808 <= y /\ y <= 9223372036854775807)) :
  Calls Tryz.prog 70 #[.slice A L.length c,.slice S g.length sc,.int .i64 n] w (Zjq base A (Qy (Je L) g n) w):=by
 obtain ⟨i0,hi0,hz0,hz1,hz2⟩:=info_parts UQ;have TI:=zH hi0;have TZ0:=zH hz0;have TZ1:=zH hz1;have TZ2:=zH hz2;obtain ⟨j0,hj0,hy0,hy1,hy2⟩:=info_parts Yz;have KI:=zH hj0;have KZ0:=zH hy0;have KZ1:=zH hy1;have KZ2:=zH hy2;clear hi0 hz0 hz1 hz2 hj0 hy0 hy1 hy2;have HL:=zH hL;have HS:=zH hS;have HSN:=zH hSn;have HTL:Hid ((Je L).length = L.length):=zH (by simp);have HGL:Hid (g.length <= 9223372036854775807):=zH (by omega);have HGB:=hgb;have hnn : -9223372036854775808 <= n /\ n <= 9223372036854775807:=by omega
 have hcap:=Zaa hL.row;obtain ⟨K,hK⟩:∃ K,K = Zw (Je L) g:=⟨_,rfl⟩;have hKl:K <= L.length:=by rw [hK];have:=ZhU (Je L) g;rw [HTL.out] at this;exact this
 have HK:=zH hK;have HLT:Hid (∀ j,j < K -> J8 (ZdX (Je L) j).1 g < 0):=zH (fun j hj=>by
  have h1:=List.not_of_lt_findIdx (p:=fun x:List Int × Int=>decide (¬ J8 x.1 g < 0)) (xs:=Je L) (i:=j) (by rw [hK] at hj;exact hj);have hj2:j < (Je L).length:=by rw [HTL.out];omega
  rw [JZ hj2];simpa using h1)
 have HGE:Hid (∀ hk:K < L.length,¬ J8 (ZdX (Je L) K).1 g < 0):=zH (fun hk=>by
  have hk2:K < (Je L).length:=by rw [HTL.out];exact hk
  have h0:List.findIdx (fun x:List Int × Int=>decide (¬ J8 x.1 g < 0)) (Je L) < (Je L).length:=by rw [hK] at hk2;exact hk2
  have h1:=List.findIdx_getElem (w:=h0);rw [JZ hk2];have h2:∀ j,(hj:j < (Je L).length) -> j = List.findIdx (fun x:List Int × Int=>decide (¬ J8 x.1 g < 0)) (Je L) -> ¬ J8 (Je L)[j].1 g < 0:=fun j hj e=>by
   subst e;exact of_decide_eq_true h1
  exact h2 K hk2 hK)
 have HQ:Hid (∀ k,(hk:k < L.length) -> ∀ m,Calls Tryz.prog 128 #[.slice L[k].1.1 L[k].1.2.2.length L[k].1.2.1,.slice S g.length sc] (w.drewN m) fun e w'=>e = .returned (.int .i64 (J8 L[k].1.2.2 g)) /\ ∃ k',w' = (w.drewN m).drewN k'):=zH (fun k hk m=>by
  have hx:=HL.out.inn _ (yM hk);exact VW _ _ _ _ _ _ w hx.1.1 HS.out (hlen.out _ (yM hk)) hx.1.2.2.1 _ (zH rfl) m)
 clear hK hS hSn hL hgb;have HKN:Hid (A = none -> c = 0):=zH (fun e=>(HL.out.nilA e).1);have HDN:Hid (Qj A c K = none -> c - K = 0):=zH (fun e=>by
  unfold Qj at e;split at e
  ·omega
  ·cases A with
   | none=>have:=HKN.out rfl;omega
   | some a=>cases e)
 by_cases hcase:∃ hk:K < L.length,J8 L[K].1.2.2 g = 0
 ·obtain ⟨hkl,hc0⟩:=hcase;obtain ⟨X,hX⟩:∃ X,X = L[K]:=⟨_,rfl⟩;have HCUT:Hid (L = L.take K ++ X :: L.drop (K + 1)):=zH (by rw [hX,<- List.drop_eq_getElem_cons hkl,List.take_append_drop]);have HPL:Hid ((Je L).set K (X.1.2.2,X.2 + n) = Qy (Je L) g n):=zH (by
   unfold Qy;rw [<- HK.out];have hk2:K < (Je L).length:=(by rw [HTL.out];exact hkl);rw [gE hk2];simp only [List.getElem_map];rw [if_pos hc0,hX])
  have HMK:Hid (L[K]? = some X):=zH (by rw [hX];exact gE hkl);have hxn:=hnum.out X (by rw [hX];exact yM hkl);have HQK:Hid (∀ m,Calls Tryz.prog 128 #[.slice X.1.1 X.1.2.2.length X.1.2.1,.slice S g.length sc] (w.drewN m) fun e w'=>e = .returned (.int .i64 0) /\ ∃ k',w' = (w.drewN m).drewN k'):=zH (fun m=>by
   have:=HQ.out K hkl m;rw [hc0,<- hX] at this;exact this)
  have HATK:Hid (∀ m,∃ g0,A = some ⟨g0,0,none⟩ /\ base <= g0 /\ g0 < (w.drewN m).heap.size /\ (w.drewN m).cell? ⟨g0,K * 2 + 1,none⟩ = some (.int .i64 X.2) /\ (w.drewN m).frozen? ⟨g0,K * 2 + 1,none⟩ = false /\ (w.drewN m).cell? ⟨g0,K * 2,none⟩ = some (.slice X.1.1 X.1.2.2.length X.1.2.1)):=zH (fun m=>by
   have hm:=HL.out.below (Ja w m);obtain ⟨g0,e0,h1,h2,h3,h4⟩:=UG hm.row HMK.out;obtain ⟨bk,off,e1,_,h5,_⟩:=hm.tb.at_ hkl;rw [e0] at e1;injection e1 with e1
   injection e1 with e2 e3
   subst e2;subst e3;rw [<- hX,Nat.zero_add] at h5;exact ⟨g0,e0,h1,h2,h3,h4,h5⟩)
  obtain ⟨⟨XA,Xc,xl⟩,xn⟩:=X;simp only at *
  clear hX hc0;go_enter Tryz.func70,Tryz.ntmps70;go_wp2_with fail;go_loopw [7] (fun i wr=>∃ k:Nat,k <= K /\ i = .int .i64 k /\ ∃ m,wr = w.drewN m) (fun i _=>L.length - (intOf i).toNat)
  case atStart=>exact ⟨0,by omega,rfl,0,rfl⟩
  case round=>
   obtain ⟨k,hk,rfl,m,hwd⟩:=hrel;by_cases hlt:k < K
   ·have hkl2:k < L.length:=(by omega);obtain ⟨bk,off,eA,hbk,hcw,hcn⟩:=(HL.out.below (Ja w m)).tb.at_ hkl2;subst eA;rw [<- hwd] at hcw hcn hbk;have HQ1:=zH (HQ.out k hkl2 m);have hneg:J8 L[k].1.2.2 g < 0:=by
     have:=HLT.out k hlt;rw [JZ (by rw [HTL.out];exact hkl2)] at this;simpa using this
    obtain ⟨s,hs⟩:∃ s,s = J8 L[k].1.2.2 g:=⟨_,rfl⟩;rw [<- hs] at hneg HQ1;clear hs;generalize L[k] = Y at *
    obtain ⟨⟨YA,Yc,yl⟩,yn⟩:=Y;simp only at *
    rw [<- hwd] at HQ1;have WD:=zH hwd;clear hwd;go_wp2_with fail;refine HQ1.out.mono ?_;rintro e w2 ⟨rfl,m2,rfl⟩;go_wp2_with fail;exact ⟨⟨k + 1,by omega,by go_num,by rw [WD.out];exact Zbn _ _ _⟩,by simp [intOf];omega⟩
   ·obtain rfl:K = k:=(by omega);obtain ⟨g0,eA,hg0,hg1,hcn,hfz,hcw⟩:=HATK.out m;subst eA;rw [<- hwd] at hcn hfz hcw hg1;have HQ1:=zH (HQK.out m);rw [<- hwd] at HQ1;have WD:=zH hwd;clear hwd;go_wp2_with fail;refine HQ1.out.mono ?_;rintro e w2 ⟨rfl,m2,hw2⟩;obtain ⟨m3,hm3⟩:∃ m3,w2 = w.drewN m3:=⟨_,by rw [hw2,WD.out,World.drewN_drewN]⟩;have HQ2:=zH (HQK.out m3);obtain ⟨g9,eA,-,hg1',hcn',hfz',hcw'⟩:=HATK.out m3;injection eA with eA
    injection eA with eA
    subst eA;rw [<- hm3] at HQ2 hcn' hfz' hcw' hg1';have WD2:=zH hm3;clear hm3 hw2 hcn hfz hcw hg1 HQ1 WD;go_wp2_with fail;refine HQ2.out.mono ?_;rintro e U ⟨rfl,m4,hw4⟩;obtain ⟨m5,hm5⟩:∃ m5,U = w.drewN m5:=⟨_,by rw [hw4,WD2.out,World.drewN_drewN]⟩;obtain ⟨g9,eA,-,hg1,hcn,hfz,hcw⟩:=HATK.out m5;injection eA with eA
    injection eA with eA
    subst eA;rw [<- hm5] at hcn hfz hcw hg1;have HU:Hid (GLo U base (some ⟨g0,0,none⟩) c L):=zH (by rw [hm5];exact HL.out.below (Ja w m5));have HWU:Hid (Below w.heap.size w U):=zH (by rw [hm5];exact Ja w m5);clear hm5 hw4 hcn' hfz' hcw' hg1' HQ2 WD2;have p1:IntKind.i64.wrap (xn + n) = xn + n:=IntWalk.i64_in _ (by omega);go_wp2_with fail;go_ret;have hgr:U.grownBy (U.setCell ⟨g0,K * 2 + 1,none⟩ (.int .i64 (xn + n))) (some g0):=XK (World.grownBy.refl U (some g0)) (.inl rfl) _;have hbt:∀ b,(Value.slice (some (⟨g0,0,none⟩:Addr)) L.length c).ownBlock = some b -> BT U b 93:=fun b e=>BT.of_own HU.out.row e;refine ⟨some ⟨g0,0,none⟩,c,L.set K ((XA,Xc,xl),xn + n),?_,⟨?_,fun x hx=>?_,fun x hx=>?_⟩,?_,?_⟩
    ·rw [List.length_set];rfl
    ·have hst:=(HU.out.row.stored (K * 2 + 1) (.int .i64 (xn + n))).1;have hset:=Zbe (L.take K) (L.drop (K + 1)) ((XA,Xc,xl),xn) (xn + n);rw [<- HCUT.out,List.length_take,Nat.min_eq_left (by omega)] at hset;rw [hset] at hst;rw [List.length_set];have e9:L.set K ((XA,Xc,xl),xn + n) = L.take K ++ ((XA,Xc,xl),xn + n) :: L.drop (K + 1):=List.set_eq_take_append_cons_drop .. |>.trans (if_pos hkl);rw [e9];exact hst
    ·rcases List.mem_or_eq_of_mem_set hx with h1 | rfl
     ·exact (HU.out.inn x h1).grown hgr (fun b e _=>hbt b e) (by decide)
     ·exact (HU.out.inn ((XA,Xc,xl),xn) (List.mem_of_getElem? HMK.out)).grown hgr (fun b e _=>hbt b e) (by decide)
    ·rcases List.mem_or_eq_of_mem_set hx with h1 | rfl
     ·exact HU.out.num x h1
     ·show _ <= xn + n /\ xn + n <= _;omega
    ·rw [<- HPL.out];simp [Je,List.map_set]
    ·have h1:=Xo HWU.out (some g0);exact ⟨hgr.os.trans h1.os,hgr.tape.trans h1.tape,hgr.output.trans h1.output,tR h1.size hgr.size,fun k h2 h3=>(hgr.block k (Nat.lt_of_lt_of_le h2 h1.size) h3).trans (h1.block k h2 h3)⟩
 ·have HNE:Hid (∀ hk:K < L.length,0 < J8 L[K].1.2.2 g):=zH (fun hk=>by
   have h1:=HGE.out hk;rw [JZ (by rw [HTL.out];exact hk)] at h1;simp only [List.getElem_map] at h1;have h2:J8 L[K].1.2.2 g ≠ 0:=fun e=>hcase ⟨hk,e⟩;omega)
  have HPL:Hid ((Je L).take K ++ (g,n) :: (Je L).drop K = Qy (Je L) g n):=zH (by
   unfold Qy;rw [<- HK.out];by_cases hk:K < L.length
   ·have hk2:K < (Je L).length:=(by rw [HTL.out];exact hk);rw [gE hk2];simp only;rw [if_neg];have:=HNE.out hk;simp only [List.getElem_map];omega
   ·rw [List.getElem?_eq_none (by rw [HTL.out];omega)])
  have HLEN:Hid ((L.take K ++ (((none:Option Addr),0,g),n) :: L.drop K).length = L.length + 1):=zH (by
   have:=congrArg List.length (List.take_append_drop K L);simp only [List.length_append] at this;simp only [List.length_append,List.length_cons];omega)
  have hsl1:=fun W=>Zf0 A L.length c K hKl hcap W;have hsl2:=fun W=>Zdm A L.length c K hKl W;clear hcase;go_enter Tryz.func70,Tryz.ntmps70;go_wp2_with fail;go_loopw [7] (fun i wr=>∃ k:Nat,k <= K /\ i = .int .i64 k /\ ∃ m,wr = w.drewN m) (fun i _=>L.length - (intOf i).toNat)
  case atStart=>exact ⟨0,by omega,rfl,0,rfl⟩
  case round=>
   obtain ⟨k,hk,rfl,m,hwd⟩:=hrel;by_cases hlt:k < K
   ·have hkl2:k < L.length:=(by omega);obtain ⟨bk,off,eA,hbk,hcw,hcn⟩:=(HL.out.below (Ja w m)).tb.at_ hkl2;subst eA;rw [<- hwd] at hcw hcn hbk;have HQ1:=zH (HQ.out k hkl2 m);have hneg:J8 L[k].1.2.2 g < 0:=by
     have:=HLT.out k hlt;rw [JZ (by rw [HTL.out];exact hkl2)] at this;simpa using this
    obtain ⟨s,hs⟩:∃ s,s = J8 L[k].1.2.2 g:=⟨_,rfl⟩;rw [<- hs] at hneg HQ1;clear hs;generalize L[k] = Y at *
    obtain ⟨⟨YA,Yc,yl⟩,yn⟩:=Y;simp only at *
    rw [<- hwd] at HQ1;have WD:=zH hwd;clear hwd;go_wp2_with fail;refine HQ1.out.mono ?_;rintro e w2 ⟨rfl,m2,rfl⟩;go_wp2_with fail;exact ⟨⟨k + 1,by omega,by go_num,by rw [WD.out];exact Zbn _ _ _⟩,by simp [intOf];omega⟩
   ·obtain rfl:K = k:=(by omega);by_cases hkl:K < L.length
    ·obtain ⟨s,hs⟩:∃ s,s = J8 L[K].1.2.2 g:=⟨_,rfl⟩;have hpos : 0 < s:=(by rw [hs];exact HNE.out hkl);have q0:(s == 0) = false:=(by simp;omega);have HQK:Hid (∀ m,Calls Tryz.prog 128 #[.slice L[K].1.1 L[K].1.2.2.length L[K].1.2.1,.slice S g.length sc] (w.drewN m) fun e w'=>e = .returned (.int .i64 s) /\ ∃ k',w' = (w.drewN m).drewN k'):=zH (fun m=>by
      have:=HQ.out K hkl m;rw [<- hs] at this;exact this)
     have HATK:Hid (∀ m,∃ b off,A = some ⟨b,off,none⟩ /\ b < (w.drewN m).heap.size /\ (w.drewN m).cell? ⟨b,off + K * 2,none⟩ = some (.slice L[K].1.1 L[K].1.2.2.length L[K].1.2.1)):=zH (fun m=>by
      obtain ⟨b,off,e,h1,h2,_⟩:=(HL.out.below (Ja w m)).tb.at_ hkl;exact ⟨b,off,e,h1,h2⟩)
     clear hs;generalize L[K] = X at *
     obtain ⟨⟨XA,Xc,xl⟩,xn⟩:=X;simp only at *
     obtain ⟨g0,o0,eA,hg1,hcw⟩:=HATK.out m;subst eA;rw [<- hwd] at hcw hg1;have HQ1:=zH (HQK.out m);rw [<- hwd] at HQ1;have WD:=zH hwd;clear hwd;go_wp2_with fail;refine HQ1.out.mono ?_;rintro e w2 ⟨rfl,m2,hw2⟩;obtain ⟨m3,hm3⟩:∃ m3,w2 = w.drewN m3:=⟨_,by rw [hw2,WD.out,World.drewN_drewN]⟩;have HQ2:=zH (HQK.out m3);obtain ⟨g9,o9,eA,hg1',hcw'⟩:=HATK.out m3;injection eA with eA
     injection eA with eA eB
     subst eA eB;rw [<- hm3] at HQ2 hcw' hg1';have WD2:=zH hm3;clear hm3 hw2 hcw hg1 HQ1 WD;go_wp2_with fail;refine HQ2.out.mono ?_;rintro e U ⟨rfl,m4,hw4⟩;obtain ⟨m5,hm5⟩:∃ m5,U = w.drewN m5:=⟨_,by rw [hw4,WD2.out,World.drewN_drewN]⟩;have HU:Hid (GLo U base (some ⟨g0,o0,none⟩) c L):=zH (by rw [hm5];exact HL.out.below (Ja w m5));have HSU:Hid (Lies U S (ics g)):=zH (by rw [hm5];exact HS.out.below (Ja w m5));have HWU:Hid (Below w.heap.size w U):=zH (by rw [hm5];exact Ja w m5);have HUS:Hid (base <= U.heap.size):=zH (by rw [hm5];exact hb);clear hm5 hw4 hcw' hg1' HQ2 WD2 HQK HATK;have HKL1:=zH (ZcI HU.out K);have HDL1:=zH (ZcJ HU.out K hKl hcap);go_wp2_with (at_builtin;refine Jg _ rfl _ _ _ rfl U.heap.size 3 j0 _ 1 8 Tryz.underlying35 KI.out KZ0.out KZ1.out KZ2.out rfl (by omega) (.slice none 0 0) 0 [] (by rfl) (World.ownsRow_nil _ _ _ _) S g.length sc (ics g) (by rfl) HSN.out HSU.out (by simp) (UO g) (by unfold maxLen;omega) (by omega) nR g.length (by omega) ?_;intro A1 c1 w1 ho1 hg1 _);have HB1:Hid (Below U.heap.size U w1):=zH (Ye hg1);have HO1:Hid (w1.ownsRow U.heap.size 3 1 (.slice A1 g.length c1) g.length (ics g)):=zH (by simpa using ho1);clear ho1 hg1;obtain ⟨W2,hW2⟩:∃ W2:World,W2 = w1.alloc (.cells #[.slice A1 g.length c1,.int .i64 n] 93):=⟨_,rfl⟩;have HB2:Hid (Below w1.heap.size w1 W2):=zH (by rw [hW2];exact bR.alloc nR _);have HBU:Hid (Below U.heap.size U W2):=zH (HB1.out.trans (HB2.out.mono HB1.out.size));have HX8:Hid (W2.heap[w1.heap.size]? = some (.cells #[.slice A1 g.length c1,.int .i64 n] 93 (0,0))):=zH (by rw [hW2];exact heap_alloc_new w1 _);have HS8:Hid (∀ u,Below W2.heap.size W2 u -> u.cell? ⟨w1.heap.size,0,none⟩ = some (.slice A1 g.length c1) /\ u.cell? ⟨w1.heap.size,1,none⟩ = some (.int .i64 n)):=zH (fun u hu=>by
      have hh:=(hu.block _ (aE HX8.out).1).trans HX8.out;exact ⟨(cR 0 hh).trans rfl,(cR 1 hh).trans rfl⟩)
     have HL2:Hid (GLo W2 base (some ⟨g0,o0,none⟩) c L):=zH (HU.out.below HBU.out);have HKL:=zH (HKL1.out.below HBU.out);have HDL:=zH (HDL1.out.below HBU.out);have HT2:Hid (InT W2 (A1,c1,g)):=zH (InT.of_own (n:=g.length) (base:=U.heap.size) (Jr HO1.out HB2.out) rfl HGL.out HGB.out);have hsz1:base <= W2.heap.size:=(by have:=HBU.out.size;have:=HUS.out;omega);go_upto_region 8 with fail;rw [<- hW2];clear hW2;refine Jk (S:=fun w'=>Below W2.heap.size W2 w') 12 rfl (by kernel_rfl) (bR.drew) (fun hd=>?_);iterate 3 (((refine Jd (v:=?_) rfl (by kernel_rfl) (fun _ _ _ h=>h) ⟨by rfl,?_⟩ hd ?_;rotate_left;· intro w' sw;go_simp;try with_reducible rfl);simp only [zA,zB,zC]))
     refine Jv (i:=4) 59 (v:=?_) rfl rfl (by kernel_rfl) (by kernel_rfl) (by kernel_rfl) (fun _ _ _ h=>h) ⟨by rfl,?_⟩ hd ?_;rotate_left
     ·intro w' sw;obtain ⟨x0,x1⟩:=HS8.out _ sw;go_simp;try with_reducible rfl
     simp only [zA,zB,zC];refine Jv (i:=7) 62 (v:=?_) rfl rfl (by kernel_rfl) (by kernel_rfl) (by kernel_rfl) (fun _ _ _ h=>h) ⟨by rfl,?_⟩ hd ?_;rotate_left
     ·intro w' sw;go_simp;try with_reducible rfl
     simp only [zA,zB,zC];refine Jv (i:=8) 63 (v:=?_) rfl rfl (by kernel_rfl) (by kernel_rfl) (by kernel_rfl) (fun _ _ _ h=>h) ⟨by rfl,?_⟩ hd ?_;rotate_left
     ·intro w' sw;go_simp;try with_reducible rfl
     simp only [zA,zB,zC];refine Jv (i:=9) 64 (v:=?_) rfl rfl (by kernel_rfl) (by kernel_rfl) (by kernel_rfl) (fun _ _ _ h=>h) ⟨by rfl,?_⟩ hd ?_;rotate_left
     ·intro w' sw;go_simp;try with_reducible rfl
     simp only [zA,zB,zC];refine Up 3 5 rfl rfl (by kernel_rfl) rfl rfl (fun K' hK=>?_) (fun K' hK=>?_)
     ·refine JC _ _ _ _ rfl W2.heap.size 93 i0 _ 2 32 Tryz.underlying25 TI.out TZ0.out TZ1.out TZ2.out rfl (by omega) (.slice none 0 0) 0 [] (by rfl) (World.ownsRow_nil _ _ _ _) (some ⟨g0,o0,none⟩) K c (J6 (L.take K)) (by rfl) HKN.out (HKL.out.below bR.drew) (by rw [Jp,List.length_take];omega) (X5 _) (by unfold maxLen;omega) (by omega) (by show _ <= W2.heap.size;omega) K (by omega) ?_;intro A3 c3 w3 ho3 hg3 _;have HB3:Hid (Below W2.heap.size W2 w3):=zH (bR.drew.trans (Ye hg3));have HO3:Hid (w3.ownsRow W2.heap.size 93 2 (.slice A3 K c3) K (J6 (L.take K))):=zH (by simpa using ho3);clear ho3 hg3;refine hK.out _ _ HB3.out (fun hd=>?_);clear hK K';refine Jh 5 rfl (by kernel_rfl) rfl (fun K' hK=>?_);go_simp;obtain ⟨W4,hW4⟩:∃ W4:World,W4 = w3.alloc (.cells #[.slice A1 g.length c1,.int .i64 n] 93):=⟨_,rfl⟩;have HB34:Hid (Below w3.heap.size w3 W4):=zH (by rw [hW4];exact bR.alloc nR _);have HB4:Hid (Below W2.heap.size W2 W4):=zH (HB3.out.trans (HB34.out.mono HB3.out.size));have HO4:Hid (W4.ownsRow W2.heap.size 93 2 (.slice A3 K c3) K (J6 (L.take K))):=zH (Jr HO3.out HB34.out);have HLN:Hid (Lies W4 (some ⟨w3.heap.size,0,none⟩) [.slice A1 g.length c1,.int .i64 n]):=zH (by rw [hW4];exact Vd _ _ _ _);rw [<- hW4];clear hW4;refine hK.out _ _ HB4.out (fun hd=>?_);clear hK K';refine Jh 6 rfl (by kernel_rfl) rfl (fun K' hK=>?_);refine JC _ _ _ _ rfl W2.heap.size 93 i0 _ 2 32 Tryz.underlying25 TI.out TZ0.out TZ1.out TZ2.out rfl (by omega) (.slice A3 K c3) K (J6 (L.take K)) (by rfl) HO4.out (some ⟨w3.heap.size,0,none⟩) 1 1 [.slice A1 g.length c1,.int .i64 n] (by rfl) (fun e=>by cases e) HLN.out (by simp) (by simp [Value.oneCell']) (by unfold maxLen;omega) (by omega) HB4.out.size (K + 1) (by omega) ?_;intro A5 c5 W5 ho5 hg5 _;have HB5:Hid (Below W2.heap.size W2 W5):=zH (HB4.out.grown hg5 HB4.out.size (fun b e=>(HO4.out.lt b e).1));refine hK.out _ _ HB5.out (fun hd=>?_);clear hK K';refine Jh 10 rfl (by kernel_rfl) rfl (fun K' hK=>?_);refine JC _ _ _ _ rfl W2.heap.size 93 i0 _ 2 32 Tryz.underlying25 TI.out TZ0.out TZ1.out TZ2.out rfl (by omega) (.slice A5 (K + 1) c5) (K + 1) (J6 (L.take K) ++ [.slice A1 g.length c1,.int .i64 n]) (by rfl) ho5 (Qj (some ⟨g0,o0,none⟩) c K) (L.length - K) (c - K) (J6 (L.drop K)) (by rfl) HDN.out (HDL.out.below HB5.out) (by rw [Jp,List.length_drop]) (X5 _) (by unfold maxLen;omega) (by omega) HB5.out.size (L.length + 1) (by omega) ?_;intro A6 c6 W6 ho6 hg6 _;have HB6:Hid (Below W2.heap.size W2 W6):=zH (HB5.out.grown hg6 HB5.out.size (fun b e=>(ho5.lt b e).1));have HO6:=zH ho6;clear ho5 ho6 hg5 hg6;refine hK.out _ _ HB6.out (fun hd=>?_);clear hK K';refine Jh 11 rfl (by kernel_rfl) rfl (fun K' hK=>?_);go_simp;refine hK.out _ _ HB6.out (fun hd=>?_);clear hK K';refine wpAnyH_done (by kernel_rfl) ?_ _;go_wp2_with fail;go_ret;refine ⟨A6,c6,L.take K ++ ((A1,c1,g),n) :: L.drop K,?_,Q6 HL2.out HB6.out HT2.out hnn HO6.out hsz1,?_,Xo (HWU.out.trans ((HBU.out.trans (HB6.out.mono HBU.out.size)).mono HWU.out.size)) _⟩
      ·have:=HLEN.out;simp only [List.length_append,List.length_cons] at this ⊢;rw [this];rfl
      ·refine Eq.trans ?_ HPL.out;simp [Je,List.map_take,List.map_drop]
     ·go_simp;obtain ⟨w3,hW3⟩:∃ w3:World,w3 = (W2.alloc (.cells #[.slice A1 g.length c1,.int .i64 n] 93)).drew:=⟨_,rfl⟩;have HB3:Hid (Below W2.heap.size W2 w3):=zH (by rw [hW3];exact (bR.alloc nR _).drew);have HLN3:Hid (Lies w3 (some ⟨W2.heap.size,0,none⟩) [.slice A1 g.length c1,.int .i64 n]):=zH (by rw [hW3];exact (Vd W2 _ _ _).below bR.drew);rw [<- hW3];clear hW3;refine hK.out _ _ HB3.out (fun hd=>?_);clear hK K';refine Jh 3 rfl (by kernel_rfl) rfl (fun K' hK=>?_);refine JC _ _ _ _ rfl W2.heap.size 93 i0 _ 2 32 Tryz.underlying25 TI.out TZ0.out TZ1.out TZ2.out rfl (by omega) (.slice none 0 0) 0 [] (by rfl) (World.ownsRow_nil _ _ _ _) (some ⟨g0,o0,none⟩) K c (J6 (L.take K)) (by rfl) HKN.out (HKL.out.below HB3.out) (by rw [Jp,List.length_take];omega) (X5 _) (by unfold maxLen;omega) (by omega) HB3.out.size K (by omega) ?_;intro A3 c3 W4 ho3 hg3 _;have HB34:Hid (Below w3.heap.size w3 W4):=zH (Ye hg3);have HB4:Hid (Below W2.heap.size W2 W4):=zH (HB3.out.trans (HB34.out.mono HB3.out.size));have HO4:Hid (W4.ownsRow W2.heap.size 93 2 (.slice A3 K c3) K (J6 (L.take K))):=zH (by simpa using ho3);have HLN:Hid (Lies W4 (some ⟨W2.heap.size,0,none⟩) [.slice A1 g.length c1,.int .i64 n]):=zH (HLN3.out.below HB34.out);clear ho3 hg3;refine hK.out _ _ HB4.out (fun hd=>?_);clear hK K';refine Jh 6 rfl (by kernel_rfl) rfl (fun K' hK=>?_);refine JC _ _ _ _ rfl W2.heap.size 93 i0 _ 2 32 Tryz.underlying25 TI.out TZ0.out TZ1.out TZ2.out rfl (by omega) (.slice A3 K c3) K (J6 (L.take K)) (by rfl) HO4.out (some ⟨W2.heap.size,0,none⟩) 1 1 [.slice A1 g.length c1,.int .i64 n] (by rfl) (fun e=>by cases e) HLN.out (by simp) (by simp [Value.oneCell']) (by unfold maxLen;omega) (by omega) HB4.out.size (K + 1) (by omega) ?_;intro A5 c5 W5 ho5 hg5 _;have HB5:Hid (Below W2.heap.size W2 W5):=zH (HB4.out.grown hg5 HB4.out.size (fun b e=>(HO4.out.lt b e).1));refine hK.out _ _ HB5.out (fun hd=>?_);clear hK K';refine Jh 10 rfl (by kernel_rfl) rfl (fun K' hK=>?_);refine JC _ _ _ _ rfl W2.heap.size 93 i0 _ 2 32 Tryz.underlying25 TI.out TZ0.out TZ1.out TZ2.out rfl (by omega) (.slice A5 (K + 1) c5) (K + 1) (J6 (L.take K) ++ [.slice A1 g.length c1,.int .i64 n]) (by rfl) ho5 (Qj (some ⟨g0,o0,none⟩) c K) (L.length - K) (c - K) (J6 (L.drop K)) (by rfl) HDN.out (HDL.out.below HB5.out) (by rw [Jp,List.length_drop]) (X5 _) (by unfold maxLen;omega) (by omega) HB5.out.size (L.length + 1) (by omega) ?_;intro A6 c6 W6 ho6 hg6 _;have HB6:Hid (Below W2.heap.size W2 W6):=zH (HB5.out.grown hg6 HB5.out.size (fun b e=>(ho5.lt b e).1));have HO6:=zH ho6;clear ho5 ho6 hg5 hg6;refine hK.out _ _ HB6.out (fun hd=>?_);clear hK K';refine Jh 11 rfl (by kernel_rfl) rfl (fun K' hK=>?_);go_simp;refine hK.out _ _ HB6.out (fun hd=>?_);clear hK K';refine wpAnyH_done (by kernel_rfl) ?_ _;go_wp2_with fail;go_ret;refine ⟨A6,c6,L.take K ++ ((A1,c1,g),n) :: L.drop K,?_,Q6 HL2.out HB6.out HT2.out hnn HO6.out hsz1,?_,Xo (HWU.out.trans ((HBU.out.trans (HB6.out.mono HBU.out.size)).mono HWU.out.size)) _⟩
      ·have:=HLEN.out;simp only [List.length_append,List.length_cons] at this ⊢;rw [this];rfl
      ·refine Eq.trans ?_ HPL.out;simp [Je,List.map_take,List.map_drop]
    ·have HU:Hid (GLo wr base A c L):=zH (by rw [hwd];exact HL.out.below (Ja w m));have HSU:Hid (Lies wr S (ics g)):=zH (by rw [hwd];exact HS.out.below (Ja w m));have HWU:Hid (Below w.heap.size w wr):=zH (by rw [hwd];exact Ja w m);have HUS:Hid (base <= wr.heap.size):=zH (by rw [hwd];exact hb);obtain ⟨U,rfl⟩:∃ U,U = wr:=⟨_,rfl⟩;clear hwd;have HKL1:=zH (ZcI HU.out K);have HDL1:=zH (ZcJ HU.out K hKl hcap);go_wp2_with (at_builtin;refine Jg _ rfl _ _ _ rfl U.heap.size 3 j0 _ 1 8 Tryz.underlying35 KI.out KZ0.out KZ1.out KZ2.out rfl (by omega) (.slice none 0 0) 0 [] (by rfl) (World.ownsRow_nil _ _ _ _) S g.length sc (ics g) (by rfl) HSN.out HSU.out (by simp) (UO g) (by unfold maxLen;omega) (by omega) nR g.length (by omega) ?_;intro A1 c1 w1 ho1 hg1 _);have HB1:Hid (Below U.heap.size U w1):=zH (Ye hg1);have HO1:Hid (w1.ownsRow U.heap.size 3 1 (.slice A1 g.length c1) g.length (ics g)):=zH (by simpa using ho1);clear ho1 hg1;obtain ⟨W2,hW2⟩:∃ W2:World,W2 = w1.alloc (.cells #[.slice A1 g.length c1,.int .i64 n] 93):=⟨_,rfl⟩;have HB2:Hid (Below w1.heap.size w1 W2):=zH (by rw [hW2];exact bR.alloc nR _);have HBU:Hid (Below U.heap.size U W2):=zH (HB1.out.trans (HB2.out.mono HB1.out.size));have HX8:Hid (W2.heap[w1.heap.size]? = some (.cells #[.slice A1 g.length c1,.int .i64 n] 93 (0,0))):=zH (by rw [hW2];exact heap_alloc_new w1 _);have HS8:Hid (∀ u,Below W2.heap.size W2 u -> u.cell? ⟨w1.heap.size,0,none⟩ = some (.slice A1 g.length c1) /\ u.cell? ⟨w1.heap.size,1,none⟩ = some (.int .i64 n)):=zH (fun u hu=>by
      have hh:=(hu.block _ (aE HX8.out).1).trans HX8.out;exact ⟨(cR 0 hh).trans rfl,(cR 1 hh).trans rfl⟩)
     have HL2:Hid (GLo W2 base A c L):=zH (HU.out.below HBU.out);have HKL:=zH (HKL1.out.below HBU.out);have HDL:=zH (HDL1.out.below HBU.out);have HT2:Hid (InT W2 (A1,c1,g)):=zH (InT.of_own (n:=g.length) (base:=U.heap.size) (Jr HO1.out HB2.out) rfl HGL.out HGB.out);have hsz1:base <= W2.heap.size:=(by have:=HBU.out.size;have:=HUS.out;omega);go_upto_region 8 with fail;rw [<- hW2];clear hW2;refine Jk (S:=fun w'=>Below W2.heap.size W2 w') 12 rfl (by kernel_rfl) (bR.drew) (fun hd=>?_);iterate 3 (((refine Jd (v:=?_) rfl (by kernel_rfl) (fun _ _ _ h=>h) ⟨by rfl,?_⟩ hd ?_;rotate_left;· intro w' sw;go_simp;try with_reducible rfl);simp only [zA,zB,zC]))
     refine Jv (i:=4) 59 (v:=?_) rfl rfl (by kernel_rfl) (by kernel_rfl) (by kernel_rfl) (fun _ _ _ h=>h) ⟨by rfl,?_⟩ hd ?_;rotate_left
     ·intro w' sw;obtain ⟨x0,x1⟩:=HS8.out _ sw;go_simp;try with_reducible rfl
     simp only [zA,zB,zC];refine Jv (i:=7) 62 (v:=?_) rfl rfl (by kernel_rfl) (by kernel_rfl) (by kernel_rfl) (fun _ _ _ h=>h) ⟨by rfl,?_⟩ hd ?_;rotate_left
     ·intro w' sw;go_simp;try with_reducible rfl
     simp only [zA,zB,zC];refine Jv (i:=8) 63 (v:=?_) rfl rfl (by kernel_rfl) (by kernel_rfl) (by kernel_rfl) (fun _ _ _ h=>h) ⟨by rfl,?_⟩ hd ?_;rotate_left
     ·intro w' sw;go_simp;try with_reducible rfl
     simp only [zA,zB,zC];refine Jv (i:=9) 64 (v:=?_) rfl rfl (by kernel_rfl) (by kernel_rfl) (by kernel_rfl) (fun _ _ _ h=>h) ⟨by rfl,?_⟩ hd ?_;rotate_left
     ·intro w' sw;go_simp;try with_reducible rfl
     simp only [zA,zB,zC];refine Up 3 5 rfl rfl (by kernel_rfl) rfl rfl (fun K' hK=>?_) (fun K' hK=>?_)
     ·refine JC _ _ _ _ rfl W2.heap.size 93 i0 _ 2 32 Tryz.underlying25 TI.out TZ0.out TZ1.out TZ2.out rfl (by omega) (.slice none 0 0) 0 [] (by rfl) (World.ownsRow_nil _ _ _ _) A K c (J6 (L.take K)) (by rfl) HKN.out (HKL.out.below bR.drew) (by rw [Jp,List.length_take];omega) (X5 _) (by unfold maxLen;omega) (by omega) (by show _ <= W2.heap.size;omega) K (by omega) ?_;intro A3 c3 w3 ho3 hg3 _;have HB3:Hid (Below W2.heap.size W2 w3):=zH (bR.drew.trans (Ye hg3));have HO3:Hid (w3.ownsRow W2.heap.size 93 2 (.slice A3 K c3) K (J6 (L.take K))):=zH (by simpa using ho3);clear ho3 hg3;refine hK.out _ _ HB3.out (fun hd=>?_);clear hK K';refine Jh 5 rfl (by kernel_rfl) rfl (fun K' hK=>?_);go_simp;obtain ⟨W4,hW4⟩:∃ W4:World,W4 = w3.alloc (.cells #[.slice A1 g.length c1,.int .i64 n] 93):=⟨_,rfl⟩;have HB34:Hid (Below w3.heap.size w3 W4):=zH (by rw [hW4];exact bR.alloc nR _);have HB4:Hid (Below W2.heap.size W2 W4):=zH (HB3.out.trans (HB34.out.mono HB3.out.size));have HO4:Hid (W4.ownsRow W2.heap.size 93 2 (.slice A3 K c3) K (J6 (L.take K))):=zH (Jr HO3.out HB34.out);have HLN:Hid (Lies W4 (some ⟨w3.heap.size,0,none⟩) [.slice A1 g.length c1,.int .i64 n]):=zH (by rw [hW4];exact Vd _ _ _ _);rw [<- hW4];clear hW4;refine hK.out _ _ HB4.out (fun hd=>?_);clear hK K';refine Jh 6 rfl (by kernel_rfl) rfl (fun K' hK=>?_);refine JC _ _ _ _ rfl W2.heap.size 93 i0 _ 2 32 Tryz.underlying25 TI.out TZ0.out TZ1.out TZ2.out rfl (by omega) (.slice A3 K c3) K (J6 (L.take K)) (by rfl) HO4.out (some ⟨w3.heap.size,0,none⟩) 1 1 [.slice A1 g.length c1,.int .i64 n] (by rfl) (fun e=>by cases e) HLN.out (by simp) (by simp [Value.oneCell']) (by unfold maxLen;omega) (by omega) HB4.out.size (K + 1) (by omega) ?_;intro A5 c5 W5 ho5 hg5 _;have HB5:Hid (Below W2.heap.size W2 W5):=zH (HB4.out.grown hg5 HB4.out.size (fun b e=>(HO4.out.lt b e).1));refine hK.out _ _ HB5.out (fun hd=>?_);clear hK K';refine Jh 10 rfl (by kernel_rfl) rfl (fun K' hK=>?_);refine JC _ _ _ _ rfl W2.heap.size 93 i0 _ 2 32 Tryz.underlying25 TI.out TZ0.out TZ1.out TZ2.out rfl (by omega) (.slice A5 (K + 1) c5) (K + 1) (J6 (L.take K) ++ [.slice A1 g.length c1,.int .i64 n]) (by rfl) ho5 (Qj A c K) (L.length - K) (c - K) (J6 (L.drop K)) (by rfl) HDN.out (HDL.out.below HB5.out) (by rw [Jp,List.length_drop]) (X5 _) (by unfold maxLen;omega) (by omega) HB5.out.size (L.length + 1) (by omega) ?_;intro A6 c6 W6 ho6 hg6 _;have HB6:Hid (Below W2.heap.size W2 W6):=zH (HB5.out.grown hg6 HB5.out.size (fun b e=>(ho5.lt b e).1));have HO6:=zH ho6;clear ho5 ho6 hg5 hg6;refine hK.out _ _ HB6.out (fun hd=>?_);clear hK K';refine Jh 11 rfl (by kernel_rfl) rfl (fun K' hK=>?_);go_simp;refine hK.out _ _ HB6.out (fun hd=>?_);clear hK K';refine wpAnyH_done (by kernel_rfl) ?_ _;go_wp2_with fail;go_ret;refine ⟨A6,c6,L.take K ++ ((A1,c1,g),n) :: L.drop K,?_,Q6 HL2.out HB6.out HT2.out hnn HO6.out hsz1,?_,Xo (HWU.out.trans ((HBU.out.trans (HB6.out.mono HBU.out.size)).mono HWU.out.size)) _⟩
      ·have:=HLEN.out;simp only [List.length_append,List.length_cons] at this ⊢;rw [this];rfl
      ·refine Eq.trans ?_ HPL.out;simp [Je,List.map_take,List.map_drop]
     ·go_simp;obtain ⟨w3,hW3⟩:∃ w3:World,w3 = (W2.alloc (.cells #[.slice A1 g.length c1,.int .i64 n] 93)).drew:=⟨_,rfl⟩;have HB3:Hid (Below W2.heap.size W2 w3):=zH (by rw [hW3];exact (bR.alloc nR _).drew);have HLN3:Hid (Lies w3 (some ⟨W2.heap.size,0,none⟩) [.slice A1 g.length c1,.int .i64 n]):=zH (by rw [hW3];exact (Vd W2 _ _ _).below bR.drew);rw [<- hW3];clear hW3;refine hK.out _ _ HB3.out (fun hd=>?_);clear hK K';refine Jh 3 rfl (by kernel_rfl) rfl (fun K' hK=>?_);refine JC _ _ _ _ rfl W2.heap.size 93 i0 _ 2 32 Tryz.underlying25 TI.out TZ0.out TZ1.out TZ2.out rfl (by omega) (.slice none 0 0) 0 [] (by rfl) (World.ownsRow_nil _ _ _ _) A K c (J6 (L.take K)) (by rfl) HKN.out (HKL.out.below HB3.out) (by rw [Jp,List.length_take];omega) (X5 _) (by unfold maxLen;omega) (by omega) HB3.out.size K (by omega) ?_;intro A3 c3 W4 ho3 hg3 _;have HB34:Hid (Below w3.heap.size w3 W4):=zH (Ye hg3);have HB4:Hid (Below W2.heap.size W2 W4):=zH (HB3.out.trans (HB34.out.mono HB3.out.size));have HO4:Hid (W4.ownsRow W2.heap.size 93 2 (.slice A3 K c3) K (J6 (L.take K))):=zH (by simpa using ho3);have HLN:Hid (Lies W4 (some ⟨W2.heap.size,0,none⟩) [.slice A1 g.length c1,.int .i64 n]):=zH (HLN3.out.below HB34.out);clear ho3 hg3;refine hK.out _ _ HB4.out (fun hd=>?_);clear hK K';refine Jh 6 rfl (by kernel_rfl) rfl (fun K' hK=>?_);refine JC _ _ _ _ rfl W2.heap.size 93 i0 _ 2 32 Tryz.underlying25 TI.out TZ0.out TZ1.out TZ2.out rfl (by omega) (.slice A3 K c3) K (J6 (L.take K)) (by rfl) HO4.out (some ⟨W2.heap.size,0,none⟩) 1 1 [.slice A1 g.length c1,.int .i64 n] (by rfl) (fun e=>by cases e) HLN.out (by simp) (by simp [Value.oneCell']) (by unfold maxLen;omega) (by omega) HB4.out.size (K + 1) (by omega) ?_;intro A5 c5 W5 ho5 hg5 _;have HB5:Hid (Below W2.heap.size W2 W5):=zH (HB4.out.grown hg5 HB4.out.size (fun b e=>(HO4.out.lt b e).1));refine hK.out _ _ HB5.out (fun hd=>?_);clear hK K';refine Jh 10 rfl (by kernel_rfl) rfl (fun K' hK=>?_);refine JC _ _ _ _ rfl W2.heap.size 93 i0 _ 2 32 Tryz.underlying25 TI.out TZ0.out TZ1.out TZ2.out rfl (by omega) (.slice A5 (K + 1) c5) (K + 1) (J6 (L.take K) ++ [.slice A1 g.length c1,.int .i64 n]) (by rfl) ho5 (Qj A c K) (L.length - K) (c - K) (J6 (L.drop K)) (by rfl) HDN.out (HDL.out.below HB5.out) (by rw [Jp,List.length_drop]) (X5 _) (by unfold maxLen;omega) (by omega) HB5.out.size (L.length + 1) (by omega) ?_;intro A6 c6 W6 ho6 hg6 _;have HB6:Hid (Below W2.heap.size W2 W6):=zH (HB5.out.grown hg6 HB5.out.size (fun b e=>(ho5.lt b e).1));have HO6:=zH ho6;clear ho5 ho6 hg5 hg6;refine hK.out _ _ HB6.out (fun hd=>?_);clear hK K';refine Jh 11 rfl (by kernel_rfl) rfl (fun K' hK=>?_);go_simp;refine hK.out _ _ HB6.out (fun hd=>?_);clear hK K';refine wpAnyH_done (by kernel_rfl) ?_ _;go_wp2_with fail;go_ret;refine ⟨A6,c6,L.take K ++ ((A1,c1,g),n) :: L.drop K,?_,Q6 HL2.out HB6.out HT2.out hnn HO6.out hsz1,?_,Xo (HWU.out.trans ((HBU.out.trans (HB6.out.mono HBU.out.size)).mono HWU.out.size)) _⟩
      ·have:=HLEN.out;simp only [List.length_append,List.length_cons] at this ⊢;rw [this];rfl
      ·refine Eq.trans ?_ HPL.out;simp [Je,List.map_take,List.map_drop]
end Go.Proofs.YtlgdlenoohkipaaGreat
