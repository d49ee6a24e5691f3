/- TalkLearns -/
import Derived.Test.YtcjicjfbippmnaaGreatMTLear26
set_option maxRecDepth 100000
set_option maxHeartbeats 32000000
namespace Ear
def Qt (o:Nat) (s:List Int):Nat -> Tbl
 | 0=>[]
 | k + 1=>Qq (Qt o s k) (JK o s k) 1
theorem Zaw {T:Tbl} {g:List Int} {n:Int} {x:List Int × Int} (h:x ∈ Qq T g n):x = (g,n) ∨ x ∈ T ∨ ∃ y ∈ T,x = (y.1,y.2 + n):=by
 have ins:x ∈ T.take (ZK T g) ++ (g,n) :: T.drop (ZK T g) -> x = (g,n) ∨ x ∈ T ∨ ∃ y ∈ T,x = (y.1,y.2 + n):=fun h=>by
  rcases List.mem_append.1 h with h | h
  ·exact .inr (.inl (List.mem_of_mem_take h))
  ·rcases List.mem_cons.1 h with h | h
   ·exact .inl h
   ·exact .inr (.inl (List.mem_of_mem_drop h))
 unfold Qq at h;split at h
 ·rename_i y hy;split at h
  ·rcases List.mem_or_eq_of_mem_set h with h | h
   ·exact .inr (.inl h)
   ·exact .inr (.inr ⟨y,List.mem_of_getElem? hy,h⟩)
  ·exact ins h
 ·exact ins h
theorem UI (T:Tbl) (g:List Int) (n:Int):(Qq T g n).length <= T.length + 1:=by
 have ins:(T.take (ZK T g) ++ (g,n) :: T.drop (ZK T g)).length <= T.length + 1:=by
  have:=congrArg List.length (List.take_append_drop (ZK T g) T);simp only [List.length_append] at this;simp only [List.length_append,List.length_cons];omega
 unfold Qq;split
 ·split
  ·simp
  ·exact ins
 ·exact ins
theorem ZaJ (o:Nat) (s:List Int):∀ k,(Qt o s k).length <= k
 | 0=>by simp [Qt]
 | k + 1=>by
  have:=ZaJ o s k;have:=UI (Qt o s k) (JK o s k) 1;show (Qq _ _ _).length <= _;omega
theorem VB {o:Nat} (ho : 1 <= o) (s:List Int):∀ k,k <= s.length + 1 -> ∀ x ∈ Qt o s k,x.1.length = o /\ 1 <= x.2 /\ x.2 <= k
 | 0,_=>fun x h=>by simp [Qt] at h
 | k + 1,hk=>fun x h=>by
  have ih:=VB ho s k (by omega);rcases Zaw h with rfl | h | ⟨y,hy,rfl⟩
  ·exact ⟨Xi ho (by omega),by simp,by simp;omega⟩
  ·have:=ih x h;exact ⟨this.1,this.2.1,by omega⟩
  ·have:=ih y hy;exact ⟨this.1,by show 1 <= y.2 + 1;omega,by show y.2 + 1 <= _;omega⟩
end Ear
namespace Go.Proofs.YtcjicjfbippmnaaGreat
open Go.RowKit Ear

theorem ZdX (A:Option Addr) (l c f t:Nat) (h1:f <= t) (h2:t <= c) (hf:f < c) (W:World):(Instr.sliceAt 40 (.slice A l c) (some (.int .i64 (f:Int))) (some (.int .i64 (t:Int))) none).run Tryz.prog W = .ok (.slice (A.map (·.add f)) (t - f) (c - f)) W:=by
 have e0:Tryz.prog.underlying 40 = some (.slice (Tryz.prog.elem 40)):=by kernel_rfl
 have hs:(sizeOf (Tryz.prog.elem 40)).run Tryz.prog W = .ok 1 W:=by kernel_rfl
 have h4:¬ c = f:=by omega
 rw [run_sliceAt_slice (h:=e0),run_slice_lh (ht:=e0) (h0:=by omega) (h1:=by omega) (h2:=by omega),hs];simp [Result.andThen,sliced,h4]
theorem Lies.cutN {w:World} {g:Nat} {l:List Int} {f o:Nat} (h:Lies w (some ⟨g,0,none⟩) (ics l)) (h1:f + o <= l.length):Lies w (some ⟨g,f,none⟩) (ics ((l.drop f).take o)):=h.cut3 h1
theorem Zfe (o:Nat) (A:Option Addr) (c:Nat) (s:List Int) (w:World) (h:Lies w A (ics s)) (hA:A = none -> c = 0) (ho1 : 1 <= o) (ho2:o <= 4) (hs:s.length <= 600) (hsb:Hid (∀ y ∈ s,-9223372036854775808 <= y /\ y <= 9223372036854775807)) :
  Calls Tryz.prog 110 #[.int .i64 o,.slice A s.length c] w (ZiZ ((List.range (s.length + 1)).map (JK o s)) w):=by
 obtain ⟨i0,hi0,hz0,hz1,hz2⟩:=info_parts Vq;have TI:=zH hi0;have TZ0:=zH hz0;have TZ1:=zH hz1;have TZ2:=zH hz2;obtain ⟨j0,hj0,hy0,hy1,hy2⟩:=info_parts YH;have KI:=zH hj0;have KZ0:=zH hy0;have KZ1:=zH hy1;have KZ2:=zH hy2;clear hi0 hz0 hz1 hz2 hj0 hy0 hy1 hy2;have HL:=zH h;have HAN:=zH hA;obtain ⟨p,hp⟩:∃ p,p = o - 1:=⟨_,rfl⟩;have p1:IntKind.i64.wrap ((o:Int) - 1) = (p:Int):=by rw [IntWalk.i64_in _ (by omega)];omega
 have HP:Hid (o = p + 1):=zH (by omega);have HFL:Hid ((Vu o s).length = p + s.length + 1):=zH (by rw [Zn ho1];omega);have hp4:p <= 3:=by omega
 obtain ⟨N,hN⟩:∃ N,N = p + s.length + 1:=⟨_,rfl⟩;have HN:=zH hN;have hN2:N <= 700:=by omega
 clear hp h hA hN;obtain ⟨w1,hmk,ho1',hb1⟩:=Vm w p (by omega) w.heap.size nR;have HO1:=zH ho1';have HB1:=zH hb1;have HL1:Hid (Lies w1 A (ics s)):=zH (HL.out.below hb1);clear ho1' hb1;go_enter Tryz.func110,Tryz.ntmps110;go_wp2_with (first
  | (
    at_builtin;refine Jh _ rfl (.tmp 11) (.tmp 12) _ rfl w.heap.size 3 j0 _ 1 8 Tryz.underlying40 KI.out KZ0.out KZ1.out KZ2.out rfl (by omega) (.slice (some ⟨w.heap.size,0,none⟩) p p) p (ics (List.replicate p 0)) rfl HO1.out A s.length c (ics s) rfl HAN.out HL1.out (by simp) (Xk _) (by unfold maxLen;omega) (by omega) HB1.out.size (p + s.length) rfl ?_;intro A2 c2 w2 ho2 hg2 _
    have HB2:Hid (Below w.heap.size w w2):=zH (HB1.out.grown hg2 HB1.out.size (fun b e=>(HO1.out.lt b e).1));have HO2:Hid (w2.ownsRow w.heap.size 3 1 (.slice A2 (p + s.length) c2) (p + s.length) (ics (List.replicate p 0 ++ s))):=zH (by rw [YU];exact ho2);have hs2:=HB2.out.size;clear ho2 hg2 hmk HO1 HL1)
  | (
    at_builtin;refine Jh _ rfl (.tmp 13) (.tmp 14) _ rfl w.heap.size 3 j0 _ 1 8 Tryz.underlying40 KI.out KZ0.out KZ1.out KZ2.out rfl (by omega) (.slice A2 (p + s.length) c2) (p + s.length) (ics (List.replicate p 0 ++ s)) rfl (HO2.out.alloc _) (some ⟨w2.heap.size,0,none⟩) 1 1 [.int .i64 0] rfl (fun e=>by cases e) (Vo _ _ _) (by simp) (by simp [Value.oneCell']) (by unfold maxLen;omega) (by omega) (by simp;omega) N (by have:=HN.out;omega) ?_;intro A4 c4 w4 ho4 hg4 _
    have HB4:Hid (Below w.heap.size w w4):=zH ((HB2.out.alloc hs2 _).grown hg4 (by simp;omega) (fun b e=>(HO2.out.lt b e).1));have HO4:Hid (w4.ownsRow w.heap.size 3 1 (.slice A4 N c4) N (ics (Vu o s))):=zH (by
     have e:Vu o s = (List.replicate p 0 ++ s) ++ [0]:=(by unfold Vu;rw [HP.out];rfl);rw [e,YU];exact ho4)
    clear ho4 hg4 HO2 hs2))
 obtain ⟨fb,cap,hv,hfb,hfl⟩:=HO4.out.form (by have:=HN.out;omega);injection hv with e1 e2 e3
 subst e1 e3;have hcap:N <= c4:=VR HO4.out;have HBT:Hid (BT w4 fb 3):=zH (BT.of_own HO4.out rfl);have HLF:Hid (Lies w4 (some ⟨fb,0,none⟩) (ics (Vu o s))):=zH (Lies.of_own HO4.out);have HRG:Hid (∀ k,∀ y ∈ JK o s k,-9223372036854775808 <= y /\ y <= 9223372036854775807):=zH (fun k y hy=>by
  rcases ZC hy with rfl | hy
  ·omega
  ·exact hsb.out y hy)
 clear e2;go_loopw [6,7] (fun t6 i wr=>∃ (k q:Nat) (Ao:Option Addr) (co:Nat) (O:List Inn),k <= s.length + 1 /\ q <= N /\ i = .int .i64 q /\ Hid (q = p + k) /\ t6 = .slice Ao k co /\ Hid (O.length = k) /\ Hid (LLo wr w4.heap.size Ao co O) /\ Hid (Jx O = (List.range k).map (JK o s)) /\ Hid (Below w4.heap.size w4 wr)) (fun _ i _=>N - (intOf i).toNat)
 case atStart=>exact ⟨0,p,none,0,[],by omega,by have:=HN.out;omega,rfl,zH rfl,rfl,zH rfl,zH (LLo.nil _ _),zH rfl,zH bR⟩
 case round=>
  obtain ⟨k,q,Ao,co,O,hk,hq,rfl,HQ,rfl,r1,r2,r3,r4⟩:=hrel;obtain ⟨Wr,rfl⟩:∃ X,X = wr:=⟨_,rfl⟩;have hsW:=r4.out.size;by_cases hlt:q < N
  ·obtain ⟨z,hz⟩:∃ z:Int,z = (k:Int) - 1:=⟨_,rfl⟩;have HZ:=zH hz;have hkc:k + o <= c4 /\ k < c4 /\ k < s.length + 1 /\ k + o <= p + s.length + 1:=(by have:=HQ.out;have:=HN.out;have:=HP.out;omega);have HKC:=zH hkc;have p2:IntKind.i64.wrap ((q:Int) - (o:Int)) = z:=(by have:=HP.out;have:=HQ.out;have:=HZ.out;rw [IntWalk.i64_in _ (by omega)];omega);have p3:IntKind.i64.wrap (z + 1) = (k:Int):=(by have:=HZ.out;rw [IntWalk.i64_in _ (by omega)];omega);have p4:IntKind.i64.wrap ((q:Int) + 1) = ((q + 1:Nat):Int):=(by rw [IntWalk.i64_in _ (by omega)];omega);have hsl:∀ W,(Instr.sliceAt 40 (.slice (some ⟨fb,0,none⟩) N c4) (some (.int .i64 (k:Int))) (some (.int .i64 ((q:Int) + 1))) none).run Tryz.prog W = .ok (.slice (some ⟨fb,k,none⟩) o (c4 - k)) W:=fun W=>by
    have h1:=HQ.out;have h2:=HP.out;have:=ZdX (some ⟨fb,0,none⟩) N c4 k (q + 1) (by omega) (by omega) (by omega) W;rw [show q + 1 - k = o by omega,show (some (⟨fb,0,none⟩:Addr)).map (·.add k) = some ⟨fb,k,none⟩ by cases k <;> simp [Addr.add]] at this;exact this
   have hkm:k <= s.length:=(by omega);clear hz hkc;have HWF:Hid (Lies (Wr.alloc (.cells #[.slice (some ⟨fb,k,none⟩) o (c4 - k)] 40)) (some ⟨fb,k,none⟩) (ics (JK o s k))):=zH (((HLF.out.below r4.out).alloc _).cutN (by have:=HFL.out;have:=HKC.out;omega));have HWT:Hid (BT (Wr.alloc (.cells #[.slice (some ⟨fb,k,none⟩) o (c4 - k)] 40)) fb 3):=zH ((HBT.out.below r4.out).below (bR.alloc nR _));have HGLn:Hid ((JK o s k).length = o):=zH (Xi ho1 (by omega));have HOW:Hid ((Wr.alloc (.cells #[.slice (some ⟨fb,k,none⟩) o (c4 - k)] 40)).ownsRow w4.heap.size 40 1 (.slice Ao k co) k (lcs O)):=zH (by have:=r2.out.row.alloc (.cells #[.slice (some ⟨fb,k,none⟩) o (c4 - k)] 40);rwa [r1.out] at this);have HOC:Hid (o <= c4 - k):=zH (by have:=HKC.out;omega);go_wp2_with (at_builtin;refine Jh _ rfl (.tmp 24) (.tmp 33) _ rfl w4.heap.size 40 i0 _ 1 24 Tryz.underlying22 TI.out TZ0.out TZ1.out TZ2.out rfl (by omega) (.slice Ao k co) k (lcs O) rfl HOW.out (some ⟨Wr.heap.size,0,none⟩) 1 1 [.slice (some ⟨fb,k,none⟩) o (c4 - k)] rfl (fun e=>by cases e) (Vo _ _ _) (by simp) (by simp [Value.oneCell']) (by unfold maxLen;omega) (by omega) (by simp;omega) (k + 1) rfl ?_;intro A5 c5 w5 ho5 hg5 _);have hit:InT (Wr.alloc (.cells #[.slice (some ⟨fb,k,none⟩) o (c4 - k)] 40)) (some ⟨fb,k,none⟩,c4 - k,JK o s k):=
    ⟨⟨HWF.out,(fun e=>by cases e),by show (JK o s k).length <= _;rw [HGLn.out];omega,by show (JK o s k).length <= _;rw [HGLn.out];exact HOC.out,HRG.out k⟩,fun b off e=>by
     simp only [Option.some.injEq,Addr.mk.injEq] at e;rw [<- e.1];exact HWT.out⟩
   have hll:LLo (Wr.alloc (.cells #[.slice (some ⟨fb,k,none⟩) o (c4 - k)] 40)) w4.heap.size Ao co O:=r2.out.below (bR.alloc nR _);have hsn:=hll.snoc (n:=k) (x:=(some ⟨fb,k,none⟩,c4 - k,JK o s k)) (w':=w5) (A':=A5) (c':=c5) (base':=w4.heap.size) hit hg5 (by
    simp only [HGLn.out];rw [r1.out];exact ho5)
   have hbel:Below w4.heap.size w4 w5:=(r4.out.alloc hsW _).grown hg5 (by simp;omega) (fun b e=>(HOW.out.lt b e).1);exact ⟨⟨k + 1,q + 1,A5,c5,_,by omega,by omega,by go_num,zH (by have:=HQ.out;omega),rfl,zH (by rw [List.length_append,r1.out];rfl),zH hsn,zH (by
    have h5:=r3.out;rw [Jx] at h5;rw [Jx,List.map_append,h5,List.range_succ,List.map_append];rfl),zH hbel⟩,by simp [intOf];omega⟩
  ·obtain rfl:q = N:=by omega
   obtain rfl:k = s.length + 1:=(by have:=HQ.out;have:=HN.out;omega);go_wp2_with fail;go_ret;exact ⟨Ao,co,O,by rw [r1.out];rfl,r3,r2.out.le HB4.out.size |>.below bR,HB4.out.trans (r4.out.mono HB4.out.size)⟩
def ZP (T:Tbl):Tbl -> Tbl
 | []=>T
 | g :: l=>ZP (Qq T g.1 g.2) l
theorem Qg (T:Tbl):∀ a b:Tbl,ZP T (a ++ b) = ZP (ZP T a) b:=by
 intro a
 induction a generalizing T with
 | nil=>intro b;rfl
 | cons g l ih=>intro b;exact ih _ b
structure Srt (o:Nat) (v:Int) (T:Tbl):Prop where
 ord:T.Pairwise fun x y=>J3 x.1 y.1 < 0
 row:∀ g ∈ T,g.1.length = o /\ Xy 0 v g.1 = true /\ 1 <= g.2
theorem VO {o:Nat} {v:Int} {T:Tbl} (h:XH o v T = 0):Srt o v T:=
 ⟨VP h,fun g hg=>by have:=XQ h g hg;exact ⟨by omega,this.2.1,this.2.2.1⟩⟩
theorem Srt.nil (o:Nat) (v:Int):Srt o v []:=⟨List.Pairwise.nil,fun g hg=>by cases hg⟩
theorem Zg3 {T:Tbl} {g:List Int} {x:List Int × Int} (h:x ∈ T.take (ZK T g)):J3 x.1 g < 0:=by
 obtain ⟨j,hj,rfl⟩:=List.getElem_of_mem h;rw [List.length_take] at hj;rw [List.getElem_take];have h1:=List.not_of_lt_findIdx (p:=fun x:List Int × Int=>decide (¬ J3 x.1 g < 0)) (xs:=T) (i:=j) (by show j < ZK T g;omega);simpa using h1
theorem Zg5 {T:Tbl} {g:List Int} (hk:ZK T g < T.length):¬ J3 T[ZK T g].1 g < 0:=by
 have h1:=List.findIdx_getElem (p:=fun x:List Int × Int=>decide (¬ J3 x.1 g < 0)) (xs:=T) (w:=hk);exact of_decide_eq_true h1
theorem Y2 (a b:Tbl) (k:K4):Xl (a ++ b) k = Xl a k + Xl b k:=by
 induction a with
 | nil=>simp [Xl]
 | cons g l ih=>simp only [List.cons_append,Xl,ih];omega
theorem ZcA (T:Tbl) (g:List Int) (n:Int) (k:K4):Xl (Qq T g n) k = Xl T k + if kOf g = k then n else 0:=by
 have ins:Xl (T.take (ZK T g) ++ (g,n) :: T.drop (ZK T g)) k = Xl T k + if kOf g = k then n else 0:=by
  have h1:=Y2 (T.take (ZK T g)) (T.drop (ZK T g)) k;rw [List.take_append_drop] at h1;rw [Y2,h1];simp only [Xl];omega
 unfold Qq;split
 ·rename_i x hx;split
  ·rename_i h0;have e:=Xn.1 h0;obtain ⟨hk,hx2⟩:=List.getElem?_eq_some_iff.1 hx;generalize ZK T g = K at *
   have h1:T = T.take K ++ x :: T.drop (K + 1):=(by rw [<- hx2,<- List.drop_eq_getElem_cons hk,List.take_append_drop]);have h2:T.set K (x.1,x.2 + n) = T.take K ++ (x.1,x.2 + n) :: T.drop (K + 1):=by
    rw [List.set_eq_take_append_cons_drop,if_pos hk]
   rw [h2,Y2]
   conv=>rhs;rw [h1]
   rw [Y2];simp only [Xl];rw [e];split <;> omega
  ·exact ins
 ·exact ins
theorem ZcB {o:Nat} {v:Int} {T:Tbl} (h:Srt o v T) {g:List Int} {n:Int} (hg:g.length = o) (ha:Xy 0 v g = true) (hn : 1 <= n):Srt o v (Qq T g n):=by
 refine ⟨?_,fun x hx=>?_⟩
 ·have ins:(∀ hk:ZK T g < T.length,J3 T[ZK T g].1 g ≠ 0) -> (T.take (ZK T g) ++ (g,n) :: T.drop (ZK T g)).Pairwise fun x y=>J3 x.1 y.1 < 0:=fun hne=>by
   have hp:=h.ord;rw [<- List.take_append_drop (ZK T g) T,List.pairwise_append] at hp;obtain ⟨p1,p2,p3⟩:=hp;have hd:∀ x ∈ T.drop (ZK T g),J3 g x.1 < 0:=fun x hx=>by
    by_cases hk:ZK T g < T.length
    ·have h1:=Zg5 hk;have h2:=hne hk;have h3:J3 g T[ZK T g].1 < 0:=(by have:=VD g T[ZK T g].1;omega);rw [List.drop_eq_getElem_cons hk] at hx p2;rcases List.mem_cons.1 hx with rfl | hx
     ·exact h3
     ·exact XO h3 ((List.pairwise_cons.1 p2).1 x hx)
    ·rw [List.drop_eq_nil_of_le (by omega)] at hx;cases hx
   rw [List.pairwise_append];refine ⟨p1,List.pairwise_cons.2 ⟨hd,p2⟩,fun x hx y hy=>?_⟩;rcases List.mem_cons.1 hy with rfl | hy
   ·exact Zg3 hx
   ·exact p3 x hx y hy
  unfold Qq;split
  ·rename_i x hx;obtain ⟨hk,hx2⟩:=List.getElem?_eq_some_iff.1 hx;split
   ·rename_i h0;have e:(T.set (ZK T g) (x.1,x.2 + n)).map (·.1) = T.map (·.1):=by
     apply List.ext_getElem?;intro j;simp only [List.getElem?_map,List.getElem?_set];split
     ·rename_i e;subst e;rw [hx];rfl
     ·rfl
    have hp:=h.ord;have q1:(T.map (·.1)).Pairwise fun x y=>J3 x y < 0:=List.pairwise_map.2 hp;rw [<- e] at q1;exact List.pairwise_map.1 q1
   ·rename_i h0;exact ins fun hk=>by rw [hx2];exact h0
  ·rename_i hx;exact ins fun hk=>by rw [gE hk] at hx;cases hx
 ·rcases Zaw hx with rfl | hx | ⟨y,hy,rfl⟩
  ·exact ⟨hg,ha,hn⟩
  ·exact h.row x hx
  ·have:=h.row y hy;exact ⟨this.1,this.2.1,by show 1 <= y.2 + n;omega⟩
theorem ZaL:∀ (X T:Tbl) (k:K4),Xl (ZP T X) k = Xl T k + Xl X k
 | [],T,k=>by simp [ZP,Xl]
 | g :: l,T,k=>by
  show Xl (ZP (Qq T g.1 g.2) l) k = _;rw [ZaL l,ZcA];simp only [Xl];omega
theorem ZaM {o:Nat} {v:Int}:∀ (X T:Tbl),Srt o v T -> (∀ g ∈ X,g.1.length = o /\ Xy 0 v g.1 = true /\ 1 <= g.2) -> Srt o v (ZP T X)
 | [],_,h,_=>h
 | g :: l,_,h,hx=>by
  have h1:=hx g (by simp);exact ZaM l _ (ZcB h h1.1 h1.2.1 h1.2.2) (fun y hy=>hx y (by simp [hy]))
theorem Zgw {o:Nat} (ho:o <= 4) {v v':Int} {a b:Tbl} (ha:Srt o v a) (hb:Srt o v' b) (h:∀ k,Xl a k = Xl b k):a = b:=
 ZdL ho a b ha.ord hb.ord (fun g hg=>⟨(ha.row g hg).1,(ha.row g hg).2.2⟩) (fun g hg=>⟨(hb.row g hg).1,(hb.row g hg).2.2⟩) h
theorem ZcX {o:Nat} (ho:o <= 4) {v:Int} {T:Tbl} (h:Srt o v T):ZP [] T = T:=
 Zgw ho (ZaM T [] (Srt.nil o v) h.row) h (fun k=>by rw [ZaL];simp [Xl])
theorem ZcU {o:Nat} (ho : 1 <= o) {v:Int} (hv : 0 <= v) {s:List Int} (ha:Xy 1 v s = true):∀ k,k <= s.length + 1 -> Srt o v (Qt o s k)
 | 0,_=>Srt.nil o v
 | k + 1,hk=>ZcB (ZcU ho hv ha k (by omega)) (Xi ho (by omega)) (Ze8 fun x hx=>by
   rcases ZC hx with rfl | hx
   ·omega
   ·have:=ZF ha hx;omega) (by omega)
theorem ZcT (o:Nat) (s:List Int):∀ (j:Nat) (k:K4),Xl (Qt o s j) k = (J7 (Yg o s j) k).getD 0
 | 0,k=>by simp [Qt,Yg,Xl,J7]
 | j + 1,k=>by
  show Xl (Qq _ _ _) k = (J7 (Y0 _ _ _) k).getD 0;rw [ZcA,ZcT o s j k];by_cases h:kOf (JK o s j) = k
  ·subst h;rw [Y6,if_pos rfl];simp
  ·rw [ZO _ _ (fun e=>h e.symm),if_neg h];simp
def scT (n:Int) (T:Tbl):Tbl:=T.map fun g=>(g.1,g.2 * n)
theorem ZbY (n:Int) (k:K4):∀ T:Tbl,Xl (scT n T) k = Xl T k * n
 | []=>by simp [scT,Xl]
 | g :: l=>by
  show (if kOf g.1 = k then g.2 * n else 0) + Xl (scT n l) k = _;rw [ZbY n k l];simp only [Xl];rw [Int.add_mul];split <;> simp
theorem ZfB {o:Nat} {v n:Int} {T:Tbl} (h:Srt o v T) (hn : 1 <= n):∀ g ∈ scT n T,g.1.length = o /\ Xy 0 v g.1 = true /\ 1 <= g.2:=fun g hg=>by
 obtain ⟨x,hx,rfl⟩:=List.mem_map.1 hg;have h1:=h.row x hx;refine ⟨h1.1,h1.2.1,?_⟩;have:=Int.mul_le_mul h1.2.2 hn (by omega) (by omega);show 1 <= x.2 * n;omega
def Vh (o:Nat) (T:Tbl) (s:List Int) (n:Int):Tbl:=ZP T (scT n (Qt o s (s.length + 1)))
theorem UP {o:Nat} (ho : 1 <= o) {v n:Int} (hv : 0 <= v) {T:Tbl} (h:Srt o v T) {s:List Int} (ha:Xy 1 v s = true) (hn : 1 <= n):Srt o v (Vh o T s n):=
 ZaM _ _ h (ZfB (ZcU ho hv ha _ nR) hn)
theorem Zhy {o:Nat} (ho : 1 <= o) (ho4:o <= 4) {v n:Int} (hv : 0 <= v) {s:List Int} (ha:Xy 1 v s = true) (k:K4):Zit o s n k = Xl (scT n (Qt o s (s.length + 1))) k:=by
 unfold Zit;have e:((Yg o s (s.length + 1)).map fun q=>(gmW o q.1,q.2 * n)) = scT n ((Yg o s (s.length + 1)).map fun q=>(gmW o q.1,q.2)):=by
  unfold scT;rw [List.map_map];rfl
 rw [e,ZbY,ZbY,ZcT,Zaj ho4 _ (Zq ho hv ha _ nR) (Ua _ _ _)]
theorem Zaz {o:Nat} (ho:o <= 4) {a:Tbl} (hn:(a.map (·.1)).Nodup) (ha:∀ g ∈ a,g.1.length = o /\ 1 <= g.2) (x:List Int × Int) (hx:x.1.length = o):x ∈ a ↔ 1 <= x.2 /\ Xl a (kOf x.1) = x.2:=by
 induction a with
 | nil=>
  simp [Xl];omega
 | cons g l ih=>
  simp only [List.map_cons,List.nodup_cons] at hn;have hg:=ha g (by simp);have ih:=ih hn.2 (fun y hy=>ha y (by simp [hy]));have hz:Xl l (kOf g.1) = 0:=Za5 fun y hy e=>hn.1 (by
   rw [<- Zca ho (ha y (by simp [hy])).1 hg.1 e];exact List.mem_map_of_mem (f:=fun z:List Int × Int=>z.1) hy)
  simp only [List.mem_cons,Xl];by_cases e:kOf g.1 = kOf x.1
  ·have e1:=Zca ho hg.1 hx e;rw [if_pos e,<- e,hz];constructor
   ·rintro (rfl | h)
    ·exact ⟨hg.2,by omega⟩
    ·exact absurd (List.mem_map_of_mem (f:=fun z:List Int × Int=>z.1) h) (by rw [<- e1];exact hn.1)
   ·rintro ⟨h1,h2⟩;exact .inl (Prod.ext e1.symm (by omega))
  ·rw [if_neg e];constructor
   ·rintro (rfl | h)
    ·exact absurd rfl e
    ·have:=ih.1 h;omega
   ·rintro ⟨h1,h2⟩;exact .inr (ih.2 ⟨h1,by omega⟩)
theorem ZfK {o:Nat} (ho:o <= 4) {a b:Tbl} (na:(a.map (·.1)).Nodup) (nb:(b.map (·.1)).Nodup) (ha:∀ g ∈ a,g.1.length = o /\ 1 <= g.2) (hb:∀ g ∈ b,g.1.length = o /\ 1 <= g.2) (h:∀ k,Xl a k = Xl b k):a.Perm b:=by
 have nd:∀ l:Tbl,(l.map (·.1)).Nodup -> l.Nodup:=fun l hl=>by
  rw [List.Nodup,List.pairwise_map] at hl;exact hl.imp fun hne e=>hne (by rw [e])
 rw [List.perm_ext_iff_of_nodup (nd a na) (nd b nb)];intro x;constructor
 ·intro hx;have h1:=(ha x hx).1;rw [Zaz ho nb hb x h1,<- h];exact (Zaz ho na ha x h1).1 hx
 ·intro hx;have h1:=(hb x hx).1;rw [Zaz ho na ha x h1,h];exact (Zaz ho nb hb x h1).1 hx
theorem Srt.nodup {o:Nat} {v:Int} {T:Tbl} (h:Srt o v T):(T.map (·.1)).Nodup:=by
 rw [List.Nodup,List.pairwise_map];exact h.ord.imp fun hlt e=>by rw [e,Xn.2 rfl] at hlt;omega
theorem ZcH {o:Nat} {v n:Int} {s:List Int} {T T1:Tbl} (hz:XD o v = true) (ha:Xy 1 v s = true) (hn : 1 <= n) (hT:XH o v T = 0) (h1:T1.Perm ((Yg o s (s.length + 1)).map fun q=>(gmW o q.1,q.2 * n))) :
  ((mrg (mrg [] T) T1).map fun q=>(gmW o q.1,q.2)).Perm (Vh o T s n):=by
 have hzz:=JL.1 hz;have ho4:o <= 4:=by omega
 have hf:=Zq (o:=o) (by omega) (by omega) ha (s.length + 1) nR;have hrow:∀ g ∈ T1,g.1.length = o /\ Xy 0 v g.1 = true /\ 1 <= g.2:=fun g hg=>by
  obtain ⟨q,hq,rfl⟩:=List.mem_map.1 (h1.mem_iff.1 hg);obtain ⟨q1,x,q2,q3,q4⟩:=hf q hq;rw [q3,Ys q2 (by omega)];refine ⟨q2,q4,?_⟩;have:=Int.mul_le_mul q1 hn (by omega) (by omega);show 1 <= q.2 * n;omega
 have hF:=Y5 T1 (mrg [] T) (Y5 T [] (fun p hp=>by cases hp) (fun g hg=>by have:=XQ hT g hg;exact ⟨by omega,this.2.1,this.2.2.1⟩)) hrow;have hN:=Yq T1 _ (Yq T [] (by simp));have hS:=UP (o:=o) (by omega) (by omega) (VO hT) ha hn;refine ZfK ho4 ?_ hS.nodup (fun g hg=>?_) (fun g hg=>⟨(hS.row g hg).1,(hS.row g hg).2.2⟩) (fun k=>?_)
 ·rw [List.map_map];rw [List.Nodup,List.pairwise_map] at hN ⊢;refine hN.imp_of_mem (fun {a b} ha hb' hne e=>hne ?_);obtain ⟨_,g1,q1,q2,_⟩:=hF a ha;obtain ⟨_,g2,r1,r2,_⟩:=hF b hb';simp only [Function.comp] at e;rw [q2,r2,Ys q1 ho4,Ys r1 ho4] at e;rw [q2,r2,e]
 ·obtain ⟨q,hq,rfl⟩:=List.mem_map.1 hg;obtain ⟨q1,x,q2,q3,q4⟩:=hF q hq;rw [q3,Ys q2 (by omega)];exact ⟨q2,q1⟩
 ·rw [ZeX hz ha hn hT h1 (List.Perm.refl _) k,Vh,ZaL,Zhy (by omega) ho4 (by omega) ha]
theorem ZgX {o:Nat} {v:Int} {T:Tbl} (hz:XD o v = true) (h:Srt o v T):XH o v T = if 20000 < T.length then 5 else if ∃ p ∈ T,1073741824 < p.2 then 2 else 0:=by
 unfold XH;split
 ·rfl
 ·try rw [if_pos hz]
  by_cases hb:∃ p ∈ T,1073741824 < p.2
  ·rw [if_pos hb,if_neg];intro hk;obtain ⟨p,hp,hb⟩:=hb;have:=XQ (o:=o) (v:=v) (l:=T) (JP.2 ⟨by omega,hz,hk⟩) p hp;omega
  ·rw [if_neg hb,if_pos];refine Zam fun k hk=>?_;unfold Xr;rw [JU hk];simp only [Bool.and_eq_true,Bool.or_eq_true,beq_iff_eq,decide_eq_true_eq];have h1:=h.row _ (yM hk);refine ⟨Xj.2 ⟨by omega,h1.2.1,h1.2.2,?_⟩,?_⟩
   ·by_cases h2 : 1073741824 < T[k].2
    ·exact absurd ⟨_,yM hk,h2⟩ hb
    ·omega
   ·by_cases h0:k = 0
    ·exact .inl h0
    ·have hk1:k - 1 < T.length:=(by omega);rw [JU hk1];exact .inr (List.pairwise_iff_getElem.1 h.ord (k - 1) k hk1 hk (by omega))
theorem ZhB {o:Nat} {v n:Int} {s:List Int} {T T1:Tbl} (hz:XD o v = true) (ha:Xy 1 v s = true) (hn : 1 <= n) (hT:XH o v T = 0) (h1:T1.Perm ((Yg o s (s.length + 1)).map fun q=>(gmW o q.1,q.2 * n))) :
  Uw (mrg (mrg [] T) T1) = XH o v (Vh o T s n):=by
 have hp:=ZcH hz ha hn hT h1;have hzz:=JL.1 hz;rw [ZgX hz (UP (by omega) (by omega) (VO hT) ha hn)];unfold Uw;have hl:=hp.length_eq;rw [List.length_map] at hl;rw [hl];have e:(∃ p ∈ mrg (mrg [] T) T1,1073741824 < p.2) ↔ ∃ p ∈ Vh o T s n,1073741824 < p.2:=by
  constructor
  ·rintro ⟨p,hp1,hp2⟩;exact ⟨_,hp.mem_iff.1 (List.mem_map_of_mem (f:=fun q:K4 × Int=>(gmW o q.1,q.2)) hp1),hp2⟩
  ·rintro ⟨p,hp1,hp2⟩;obtain ⟨q,hq,e⟩:=List.mem_map.1 (hp.mem_iff.2 hp1);refine ⟨q,hq,?_⟩;rw [<- e] at hp2;exact hp2
 simp only [e]
theorem ZhA {o:Nat} {v n:Int} {s:List Int} {T T1 T2:Tbl} (hz:XD o v = true) (ha:Xy 1 v s = true) (hn : 1 <= n) (hT:XH o v T = 0) (h1:T1.Perm ((Yg o s (s.length + 1)).map fun q=>(gmW o q.1,q.2 * n)))
  (h2:T2.Perm ((mrg (mrg [] T) T1).map fun q=>(gmW o q.1,q.2))) (hok:XH o v T2 = 0):T2 = Vh o T s n:=by
 have hzz:=JL.1 hz;refine Zgw (by omega) (VO hok) (UP (by omega) (by omega) (VO hT) ha hn) (fun k=>?_);exact UB (h2.trans (ZcH hz ha hn hT h1)) k
def Zp (o:Nat) (T:Tbl) (cs:List (List Int × Int)):Tbl:=cs.foldl (fun T c=>Vh o T c.1 c.2) T
theorem Qa (o:Nat) (T:Tbl) (cs:List (List Int × Int)) (c:List Int × Int):Zp o T (cs ++ [c]) = Vh o (Zp o T cs) c.1 c.2:=by
 unfold Zp;rw [List.foldl_append];rfl
structure CtS (w:World) (o v:Int) (T:Tbl) (W:World):Prop where
 box:∃ A c L,W.heap[w.heap.size + 1]? = some (.cells #[.int .i64 o,.int .i64 v,.slice A (L:List Gm).length c] 84 (0,0)) /\ GLo W w.heap.size A c L /\ Jf L = T
 res:W.heap[w.heap.size]? = some (.cells #[.int .i64 0,.int .i64 0,.slice none 0 0] 84 (0,0))
 bel:RowKit.Below w.heap.size w W
theorem CtS.below {w:World} {o v:Int} {T:Tbl} {W W':World} (h:CtS w o v T W) (hb:RowKit.Below W.heap.size W W'):CtS w o v T W':=by
 obtain ⟨A,c,L,h1,h2,h3⟩:=h.box;exact ⟨⟨A,c,L,(hb.block _ (aE h1).1).trans h1,h2.below hb,h3⟩,(hb.block _ (aE h.res).1).trans h.res,h.bel.trans (hb.mono h.bel.size)⟩
theorem LLo.blockT {w w':World} {base c:Nat} {A:Option Addr} {L:List Inn} (h:LLo w base A c L) (hs:w.heap.size <= w'.heap.size) (hk:∀ b,BT w b 3 ∨ BT w b 40 -> w'.heap[b]? = w.heap[b]?):LLo w' base A c L:=by
 refine ⟨?_,fun x hx=>(h.inn x hx).block hs fun b hb=>hk b (.inl hb)⟩;have hrow:=h.row;obtain ⟨q1,q2⟩:=hrow;refine ⟨q1,?_⟩;rcases q2 with e | ⟨g,cap,cur,e,hb,hg,rest⟩
 ·exact .inl e
 ·exact .inr ⟨g,cap,cur,e,hb,(hk g (.inr ⟨_,_,hg⟩)).trans hg,rest⟩
theorem LLo.grownG {w w':World} {base c:Nat} {A:Option Addr} {L:List Inn} (h:LLo w base A c L) {r:Option Nat} (hg:w.grownBy w' r) (hr:∀ k,r = some k -> BT w k 114):LLo w' base A c L:=
 h.blockT hg.size fun b hb=>by
  rcases hb with hb | hb
  ·exact hg.block b hb.lt fun e=>hb.ne (hr b e.symm) (by decide) rfl
  ·exact hg.block b hb.lt fun e=>hb.ne (hr b e.symm) (by decide) rfl
theorem QO (o:Nat) (v:Int) (A:Option Addr) (c:Nat) (x:Inn) (w:World) (h:LL w A [x]) (ho1 : 1 <= o) (ho2:o <= 4) (hs:x.2.2.length <= 600) :
  Calls Tryz.prog 53 #[.int .i64 o,.int .i64 v,.slice A 1 c] w fun e w'=>∃ A' c' L',e = .returned (.agg #[.int .i64 o,.int .i64 v,.slice A' (L':List Gm).length c']) /\ GLo w' w.heap.size A' c' L' /\ Jf L' = Qt o x.2.2 (x.2.2.length + 1) /\ RowKit.Below w.heap.size w w':=by
 obtain ⟨W,hW⟩:∃ W:World,W = (w.alloc (.cells #[.int .i64 0,.int .i64 0,.slice none 0 0] 84)).alloc (.cells #[.int .i64 o,.int .i64 v,.slice none 0 0] 84):=⟨_,rfl⟩;have HB0:Hid (RowKit.Below w.heap.size w W):=zH (by rw [hW];exact al2 w _ _);have HC0:Hid (CtS w o v [] W):=zH ⟨⟨none,0,[],by rw [hW];exact VM _ _ _,GLo.nil _ _,rfl⟩,by rw [hW];exact VN _ _ _,HB0.out⟩;have HLL:=zH h;clear h;go_enter Tryz.func53,Tryz.ntmps53;go_wp2_with fail;rw [<- hW];clear hW;go_loopw [8] (fun i wr=>∃ k:Nat,k <= 1 /\ i = .int .i64 k /\ Hid (CtS w o v (if k = 0 then [] else Qt o x.2.2 (x.2.2.length + 1)) wr) ) (fun i _=>1 - (intOf i).toNat)
 case atStart=>exact ⟨0,by omega,rfl,zH (by rw [if_pos rfl];exact HC0.out)⟩
 case round=>
  obtain ⟨k,hk,rfl,HC⟩:=hrel;obtain ⟨Wr,rfl⟩:∃ X,X = wr:=⟨_,rfl⟩;by_cases hlt:k < 1
  ·obtain rfl:k = 0:=by omega
   have HCW:Hid (CtS w o v [] Wr):=zH (by have:=HC.out;rwa [if_pos rfl] at this);clear HC HC0 HB0;have HLW:=zH (HLL.out.below HCW.out.bel);clear HLL;obtain ⟨bk,off,rfl,hbk,hcw⟩:=HLW.out.lies.lat (k:=0) (by simp);have HX:=zH (HLW.out.inn x (by simp));have hcw0:Wr.cell? ⟨bk,off,none⟩ = some (.slice x.1 x.2.2.length x.2.1):=(by simpa using hcw);obtain ⟨XA,Xc,s⟩:=x;simp only at *
   clear hcw;go_wp2_with fail;refine (Zfe o XA Xc s Wr HX.out.1 (fun e=>(HX.out.2.1 e).1) ho1 ho2 hs (zH HX.out.2.2.2.2)).mono ?_;rintro e w1 ⟨A9,c9,L9,rfl,hv9,hl9,hb9⟩;have HC1:=zH (HCW.out.below hb9);have HL9:=zH hl9;have hlen9:L9.length = s.length + 1:=(by have:=congrArg List.length hv9.out;simpa using this);have HLEN:=zH hlen9;have hl9m:L9.length <= 1000:=(by omega);clear hl9 hb9 hlen9 HCW HLW;go_wp2_with fail;go_loopw [10] (fun i wr=>∃ j:Nat,j <= L9.length /\ i = .int .i64 j /\ Hid (CtS w o v (Qt o s j) wr) /\ Hid (LLo wr Wr.heap.size A9 c9 L9)  ) (fun i _=>L9.length - (intOf i).toNat)
   case atStart=>exact ⟨0,by omega,rfl,HC1,HL9⟩
   case round=>
    obtain ⟨j,hj,rfl,HCj,HL⟩:=hrel;obtain ⟨V,rfl⟩:∃ X,X = wr:=⟨_,rfl⟩;by_cases hjl:j < L9.length
    ·obtain ⟨g9,o9,rfl,hg9,hcg⟩:=HL.out.lies.lat hjl;have HXJ:=zH (HL.out.inn _ (yM hjl));have HG:Hid (L9[j].2.2 = JK o s j):=zH (by
      have h1:=Zai hjl;rw [hv9.out,List.getElem?_map,List.getElem?_range (by rw [<- HLEN.out];exact hjl)] at h1;exact h1.symm)
     obtain ⟨GA,Gc,GL,hbox,hglo,htb⟩:=HCj.out.box;have HBOX:=zH hbox;have HGLO:=zH hglo;have HTB:=zH htb;have c7:V.cell? ⟨w.heap.size + 1,2,none⟩ = some (.slice GA GL.length Gc):=(cR 2 hbox).trans rfl;have f7:V.frozen? ⟨w.heap.size + 1,2,none⟩ = false:=Jp hbox 2;have HRW:Hid (∀ y ∈ GL,y.1.2.2.length = o /\ 0 <= y.2 /\ y.2 <= 1000):=zH (fun y hy=>by
      have h1:(y.1.2.2,y.2) ∈ Qt o s j:=(by rw [<- htb];exact List.mem_map_of_mem (f:=fun g:Gm=>(g.1.2.2,g.2)) hy);have h2:=VB ho1 s j (by rw [<- HLEN.out];exact hj) _ h1;simp only at h2;exact ⟨h2.1,by omega,by omega⟩)
     have hgl:GL.length <= 1000:=(by have:=ZaJ o s j;rw [<- htb] at this;simp at this;omega);clear hbox hglo htb;generalize L9[j] = X9 at *
     obtain ⟨JA,Jc,jl⟩:=X9;simp only at *
     have hjo:jl.length = o:=(by rw [HG.out];exact Xi ho1 (by rw [<- HLEN.out];exact hjl));have HP:=zH (Zb1 w.heap.size GA JA Gc Jc GL jl 1 V.drew (HGLO.out.below (RowKit.Below.refl _ V).drew) (HXJ.out.below (RowKit.Below.refl _ V).drew).1.1 (fun e=>(HXJ.out.1.2.1 e).1) (HCj.out.bel.size) (zH (fun y hy=>by rw [(HRW.out y hy).1,hjo])) (zH (fun y hy=>by have:=HRW.out y hy;omega)) (by omega) (by omega) (by omega) (zH HXJ.out.1.2.2.2.2));have HBTb:Hid (BT V (w.heap.size + 1) 84):=zH ⟨_,_,HBOX.out⟩;have HBTg:Hid (∀ b,blk GA = some b -> BT V b 114 /\ w.heap.size <= b):=zH (fun b hb=>⟨BT.of_own HGLO.out.row (by rw [Jn];exact hb),(HGLO.out.row.lt b (by rw [Jn];exact hb)).1⟩);have HBTi:Hid (BT V g9 40):=zH (BT.of_own HL.out.row rfl);clear hjo;go_upto_region 9 with fail;refine JJ (S:=fun w'=>w'.cell? ⟨w.heap.size + 1,2,none⟩ = some (.slice GA GL.length Gc) /\ w'.cell? ⟨g9,o9 + j,none⟩ = some (.slice JA jl.length Jc)) 8 (by kernel_rfl) (by kernel_rfl) ⟨c7,hcg⟩ (fun hd=>?_);simp only [List.pop_toArray,List.dropLast_cons_cons,List.dropLast_singleton];iterate 6 (((refine Je (v:=?_) rfl (by kernel_rfl) (fun _ _ _ h=>h) ⟨by rfl,?_⟩ hd ?_;rotate_left;· intro w' sw;obtain ⟨s1,s2⟩:=sw;go_simp;try with_reducible rfl);simp only [zA,zB,zC]))
     refine Jd 6 rfl (by kernel_rfl) rfl (fun K hK=>?_);go_simp;refine HP.out.mono ?_;rintro e w2 ⟨A2,c2,L2,rfl,hL2,hT2,hg2⟩;have HL2:=zH hL2;have hne7:some (w.heap.size + 1) ≠ blk GA:=fun e=>(HBTg.out _ e.symm).1.ne HBTb.out (by decide) rfl;have hne9:some g9 ≠ blk GA:=fun e=>(HBTg.out _ e.symm).1.ne HBTi.out (by decide) rfl;have HG2:Hid (V.grownBy w2 (blk GA)):=zH ⟨hg2.os,hg2.tape,hg2.output,hg2.size,hg2.block⟩;have hbx2:w2.heap[w.heap.size + 1]? = some (.cells #[.int .i64 o,.int .i64 v,.slice GA GL.length Gc] 84 (0,0)):=(HG2.out.block _ HBTb.out.lt hne7).trans HBOX.out;have HBX2:=zH hbx2;have d7:w2.cell? ⟨w.heap.size + 1,2,none⟩ = some (.slice GA GL.length Gc):=(cR 2 hbx2).trans rfl;have k7:w2.frozen? ⟨w.heap.size + 1,2,none⟩ = false:=Jp hbx2 2;have d9:w2.cell? ⟨g9,o9 + j,none⟩ = some (.slice JA jl.length Jc):=(World.cell?_of_block (a:=⟨g9,o9 + j,none⟩) (HG2.out.block _ hg9 hne9)).trans hcg;have HRES2:Hid (w2.heap[w.heap.size]? = some (.cells #[.int .i64 0,.int .i64 0,.slice none 0 0] 84 (0,0))):=zH ((HG2.out.block _ (aE HCj.out.res).1 (fun e=>(HBTg.out _ e.symm).1.ne ⟨_,_,HCj.out.res⟩ (by decide) rfl)).trans HCj.out.res);have HB2:Hid (RowKit.Below w.heap.size w w2):=zH (HCj.out.bel.grown HG2.out HCj.out.bel.size (fun b e=>(HBTg.out b e).2));have HL9':Hid (LLo w2 Wr.heap.size (some ⟨g9,o9,none⟩) c9 L9):=zH (HL.out.grownG HG2.out (fun b e=>(HBTg.out b e).1));clear hL2 hg2 hne7 hne9 hbx2;go_simp;refine hK.out _ _ ⟨d7,d9⟩ (fun hd=>?_);clear hK K
     ((refine Je (v:=?_) rfl (by kernel_rfl) (fun _ _ _ h=>h) ⟨by rfl,?_⟩ hd ?_;rotate_left;· intro w' sw;obtain ⟨s1,s2⟩:=sw;go_simp;try with_reducible rfl);simp only [zA,zB,zC])
     refine wpAnyH_done (by kernel_rfl) ?_ _;refine PopQ.last rfl rfl (fun K hK=>?_);go_simp;refine hK _ _ ?_;clear hK K;go_wp2_with fail;have hbX:∀ b,b ≠ w.heap.size + 1 -> (w2.setCell ⟨w.heap.size + 1,2,none⟩ (.slice A2 L2.length c2)).heap[b]? = w2.heap[b]?:=fun b hb=>RowKit.Below.heap_setCell w2 _ _ b hb;have hbt:BT w2 (w.heap.size + 1) 84:=⟨_,_,HBX2.out⟩;have hset:=JF HBX2.out 2 (.slice A2 L2.length c2);refine ⟨⟨j + 1,by omega,by go_num,zH ⟨⟨A2,c2,L2,hset.trans rfl,?_,?_⟩,?_,?_⟩,zH ?_⟩,by simp [intOf];omega⟩
     ·refine HL2.out.block (by simp [World.setCell]) (fun b hb=>hbX b ?_);rcases hb with hb | hb
      ·exact hb.ne hbt (by decide)
      ·exact hb.1.ne hbt (by decide)
     ·rw [hT2,HTB.out,HG.out];rfl
     ·exact (hbX _ (by omega)).trans HRES2.out
     ·exact HB2.out.setCell (by show w.heap.size <= w.heap.size + 1;omega) _
     ·refine HL9'.out.blockT (by simp [World.setCell]) (fun b hb=>hbX b ?_);rcases hb with hb | hb
      ·exact hb.ne hbt (by decide)
      ·exact hb.ne hbt (by decide)
    ·obtain rfl:j = L9.length:=(by omega);go_wp2_with fail;exact ⟨⟨1,by omega,by go_num,zH (by rw [if_neg (by decide),<- HLEN.out];exact HCj.out)⟩,by simp [intOf]⟩
  ·obtain rfl:k = 1:=by omega
   have HCW:Hid (CtS w o v (Qt o x.2.2 (x.2.2.length + 1)) Wr):=zH (by have:=HC.out;rwa [if_neg (by decide)] at this);obtain ⟨GA,Gc,GL,hbox,hglo,htb⟩:=HCW.out.box;have HRES:=zH HCW.out.res;have c0:=(cR 0 hbox).trans rfl;have c1:=(cR 1 hbox).trans rfl;have c2:=(cR 2 hbox).trans rfl;have d0:=(cR 0 HRES.out).trans rfl;have d1:=(cR 1 HRES.out).trans rfl;have d2:=(cR 2 HRES.out).trans rfl;have f0:=Jp HRES.out 0;have f1:=Jp HRES.out 1;have f2:=Jp HRES.out 2;have HGLO:=zH hglo;have HTB:=zH htb;clear hbox hglo htb HC HC0 HLL HB0;go_wp2_with fail;have hr6:=row3 HRES.out (.int .i64 o) (.int .i64 v) (.slice GA GL.length Gc);have g0:=(cR 0 hr6).trans rfl;have g1:=(cR 1 hr6).trans rfl;have g2:=(cR 2 hr6).trans rfl;refine bodyPost_ret (v:=.agg #[.int .i64 o,.int .i64 v,.slice GA GL.length Gc]) (by simp [results,Tryz.results53,go_sem,g0,g1,g2]) rfl ?_;have hbt:BT Wr w.heap.size 84:=⟨_,_,HRES.out⟩;refine ⟨GA,Gc,GL,rfl,HGLO.out.block (by simp [World.setCell]) (fun b hb=>?_),HTB.out,((HCW.out.bel.setCell nR _).setCell nR _).setCell nR _⟩;have hne:b ≠ w.heap.size:=by
    rcases hb with hb | hb
    ·exact hb.ne hbt (by decide)
    ·exact hb.1.ne hbt (by decide)
   rw [RowKit.Below.heap_setCell _ _ _ b hne,RowKit.Below.heap_setCell _ _ _ b hne,RowKit.Below.heap_setCell _ _ _ b hne]
end Go.Proofs.YtcjicjfbippmnaaGreat
