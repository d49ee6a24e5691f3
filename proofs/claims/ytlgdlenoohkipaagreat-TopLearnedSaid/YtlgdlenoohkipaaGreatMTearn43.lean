/- TopLearned -/
import Derived.Test.YtlgdlenoohkipaaGreatMTearn42
import Derived.Test.YtlgdlenoohkipaaGreatMTearn29
set_option maxRecDepth 100000
set_option maxHeartbeats 32000000
namespace Ear
def Ud (o:Nat) (s:List Int):Nat -> Tbl
 | 0=>[]
 | k + 1=>Qy (Ud o s k) (Jt o s k) 1
theorem ZcE {T:Tbl} {g:List Int} {n:Int} {x:List Int × Int} (h:x ∈ Qy T g n):x = (g,n) ∨ x ∈ T ∨ ∃ y ∈ T,x = (y.1,y.2 + n):=by
 have ins:x ∈ T.take (Zw T g) ++ (g,n) :: T.drop (Zw T g) -> x = (g,n) ∨ x ∈ T ∨ ∃ y ∈ T,x = (y.1,y.2 + n):=fun h=>by
  rcases List.mem_append.1 h with h | h
  ·exact .inr (.inl (List.mem_of_mem_take h))
  ·rcases List.mem_cons.1 h with h | h
   ·exact .inl h
   ·exact .inr (.inl (List.mem_of_mem_drop h))
 unfold Qy at h;split at h
 ·rename_i y hy;split at h
  ·rcases List.mem_or_eq_of_mem_set h with h | h
   ·exact .inr (.inl h)
   ·exact .inr (.inr ⟨y,List.mem_of_getElem? hy,h⟩)
  ·exact ins h
 ·exact ins h
theorem UD (T:Tbl) (g:List Int) (n:Int):(Qy T g n).length <= T.length + 1:=by
 have ins:(T.take (Zw T g) ++ (g,n) :: T.drop (Zw T g)).length <= T.length + 1:=by
  have:=congrArg List.length (List.take_append_drop (Zw T g) T);simp only [List.length_append] at this;simp only [List.length_append,List.length_cons];omega
 unfold Qy;split
 ·split
  ·simp
  ·exact ins
 ·exact ins
theorem Zaq (o:Nat) (s:List Int):∀ k,(Ud o s k).length <= k
 | 0=>by simp [Ud]
 | k + 1=>by
  have:=Zaq o s k;have:=UD (Ud o s k) (Jt o s k) 1;show (Qy _ _ _).length <= _;omega
theorem Zbp {o:Nat} (ho : 1 <= o) (s:List Int):∀ k,k <= s.length + 1 -> ∀ x ∈ Ud o s k,x.1.length = o /\ 1 <= x.2 /\ x.2 <= k
 | 0,_=>fun x h=>by simp [Ud] at h
 | k + 1,hk=>fun x h=>by
  have ih:=Zbp ho s k (by omega);rcases ZcE h with rfl | h | ⟨y,hy,rfl⟩
  ·exact ⟨JY ho (by omega),by simp,by simp;omega⟩
  ·have:=ih x h;exact ⟨this.1,this.2.1,by omega⟩
  ·have:=ih y hy;exact ⟨this.1,by show 1 <= y.2 + 1;omega,by show y.2 + 1 <= _;omega⟩
end Ear
namespace Go.Proofs.YtlgdlenoohkipaaGreat
open Go.RowKit Ear

theorem Zek (A:Option Addr) (l c f t:Nat) (h1:f <= t) (h2:t <= c) (hf:f < c) (W:World):(Instr.sliceAt 35 (.slice A l c) (some (.int .i64 (f:Int))) (some (.int .i64 (t:Int))) none).run Tryz.prog W = .ok (.slice (A.map (·.add f)) (t - f) (c - f)) W:=by
 have e0:Tryz.prog.underlying 35 = some (.slice (Tryz.prog.elem 35)):=by kernel_rfl
 have hs:(sizeOf (Tryz.prog.elem 35)).run Tryz.prog W = .ok 1 W:=by kernel_rfl
 have h4:¬ c = f:=by omega
 rw [run_sliceAt_slice (h:=e0),run_slice_lh (ht:=e0) (h0:=by omega) (h1:=by omega) (h2:=by omega),hs];simp [Result.andThen,sliced,h4]
theorem Lies.cutN {w:World} {g:Nat} {l:List Int} {f o:Nat} (h:Lies w (some ⟨g,0,none⟩) (ics l)) (h1:f + o <= l.length):Lies w (some ⟨g,f,none⟩) (ics ((l.drop f).take o)):=h.cut3 h1
theorem ZfK (o:Nat) (A:Option Addr) (c:Nat) (s:List Int) (w:World) (h:Lies w A (ics s)) (hA:A = none -> c = 0) (ho1 : 1 <= o) (ho2:o <= 4) (hs:s.length <= 600) (hsb:Hid (∀ y ∈ s,-9223372036854775808 <= y /\ y <= 9223372036854775807)) :
  Calls Tryz.prog 69 #[.int .i64 o,.slice A s.length c] w (ZjZ ((List.range (s.length + 1)).map (Jt o s)) w):=by
 obtain ⟨i0,hi0,hz0,hz1,hz2⟩:=info_parts Ze7;have TI:=zH hi0;have TZ0:=zH hz0;have TZ1:=zH hz1;have TZ2:=zH hz2;obtain ⟨j0,hj0,hy0,hy1,hy2⟩:=info_parts Yz;have KI:=zH hj0;have KZ0:=zH hy0;have KZ1:=zH hy1;have KZ2:=zH hy2;clear hi0 hz0 hz1 hz2 hj0 hy0 hy1 hy2;have HL:=zH h;have HAN:=zH hA;obtain ⟨p,hp⟩:∃ p,p = o - 1:=⟨_,rfl⟩;have p1:IntKind.i64.wrap ((o:Int) - 1) = (p:Int):=by rw [IntWalk.i64_in _ (by omega)];omega
 have HP:Hid (o = p + 1):=zH (by omega);have HFL:Hid ((YE o s).length = p + s.length + 1):=zH (by rw [Zc ho1];omega);have hp4:p <= 3:=by omega
 obtain ⟨N,hN⟩:∃ N,N = p + s.length + 1:=⟨_,rfl⟩;have HN:=zH hN;have hN2:N <= 700:=by omega
 clear hp h hA hN;obtain ⟨w1,hmk,ho1',hb1⟩:=Za4 w p (by omega) w.heap.size nR;have HO1:=zH ho1';have HB1:=zH hb1;have HL1:Hid (Lies w1 A (ics s)):=zH (HL.out.below hb1);clear ho1' hb1;go_enter Tryz.func69,Tryz.ntmps69;go_wp2_with (first
  | (
    at_builtin;refine Jg _ rfl (.tmp 11) (.tmp 12) _ rfl w.heap.size 3 j0 _ 1 8 Tryz.underlying35 KI.out KZ0.out KZ1.out KZ2.out rfl (by omega) (.slice (some ⟨w.heap.size,0,none⟩) p p) p (ics (List.replicate p 0)) rfl HO1.out A s.length c (ics s) rfl HAN.out HL1.out (by simp) (UO _) (by unfold maxLen;omega) (by omega) HB1.out.size (p + s.length) rfl ?_;intro A2 c2 w2 ho2 hg2 _
    have HB2:Hid (Below w.heap.size w w2):=zH (HB1.out.grown hg2 HB1.out.size (fun b e=>(HO1.out.lt b e).1));have HO2:Hid (w2.ownsRow w.heap.size 3 1 (.slice A2 (p + s.length) c2) (p + s.length) (ics (List.replicate p 0 ++ s))):=zH (by rw [YP];exact ho2);have hs2:=HB2.out.size;clear ho2 hg2 hmk HO1 HL1)
  | (
    at_builtin;refine Jg _ rfl (.tmp 13) (.tmp 14) _ rfl w.heap.size 3 j0 _ 1 8 Tryz.underlying35 KI.out KZ0.out KZ1.out KZ2.out rfl (by omega) (.slice A2 (p + s.length) c2) (p + s.length) (ics (List.replicate p 0 ++ s)) rfl (HO2.out.alloc _) (some ⟨w2.heap.size,0,none⟩) 1 1 [.int .i64 0] rfl (fun e=>by cases e) (Ve _ _ _) (by simp) (by simp [Value.oneCell']) (by unfold maxLen;omega) (by omega) (by simp;omega) N (by have:=HN.out;omega) ?_;intro A4 c4 w4 ho4 hg4 _
    have HB4:Hid (Below w.heap.size w w4):=zH ((HB2.out.alloc hs2 _).grown hg4 (by simp;omega) (fun b e=>(HO2.out.lt b e).1));have HO4:Hid (w4.ownsRow w.heap.size 3 1 (.slice A4 N c4) N (ics (YE o s))):=zH (by
     have e:YE o s = (List.replicate p 0 ++ s) ++ [0]:=(by unfold YE;rw [HP.out];rfl);rw [e,YP];exact ho4)
    clear ho4 hg4 HO2 hs2))
 obtain ⟨fb,cap,hv,hfb,hfl⟩:=HO4.out.form (by have:=HN.out;omega);injection hv with e1 e2 e3
 subst e1 e3;have hcap:N <= c4:=Zaa HO4.out;have HBT:Hid (BT w4 fb 3):=zH (BT.of_own HO4.out rfl);have HLF:Hid (Lies w4 (some ⟨fb,0,none⟩) (ics (YE o s))):=zH (Lies.of_own HO4.out);have HRG:Hid (∀ k,∀ y ∈ Jt o s k,-9223372036854775808 <= y /\ y <= 9223372036854775807):=zH (fun k y hy=>by
  rcases YQ hy with rfl | hy
  ·omega
  ·exact hsb.out y hy)
 clear e2;go_loopw [6,7] (fun t6 i wr=>∃ (k q:Nat) (Ao:Option Addr) (co:Nat) (O:List Inn),k <= s.length + 1 /\ q <= N /\ i = .int .i64 q /\ Hid (q = p + k) /\ t6 = .slice Ao k co /\ Hid (O.length = k) /\ Hid (LLo wr w4.heap.size Ao co O) /\ Hid (ZdW O = (List.range k).map (Jt o s)) /\ Hid (Below w4.heap.size w4 wr)) (fun _ i _=>N - (intOf i).toNat)
 case atStart=>exact ⟨0,p,none,0,[],by omega,by have:=HN.out;omega,rfl,zH rfl,rfl,zH rfl,zH (LLo.nil _ _),zH rfl,zH bR⟩
 case round=>
  obtain ⟨k,q,Ao,co,O,hk,hq,rfl,HQ,rfl,r1,r2,r3,r4⟩:=hrel;obtain ⟨Wr,rfl⟩:∃ X,X = wr:=⟨_,rfl⟩;have hsW:=r4.out.size;by_cases hlt:q < N
  ·obtain ⟨z,hz⟩:∃ z:Int,z = (k:Int) - 1:=⟨_,rfl⟩;have HZ:=zH hz;have hkc:k + o <= c4 /\ k < c4 /\ k < s.length + 1 /\ k + o <= p + s.length + 1:=(by have:=HQ.out;have:=HN.out;have:=HP.out;omega);have HKC:=zH hkc;have p2:IntKind.i64.wrap ((q:Int) - (o:Int)) = z:=(by have:=HP.out;have:=HQ.out;have:=HZ.out;rw [IntWalk.i64_in _ (by omega)];omega);have p3:IntKind.i64.wrap (z + 1) = (k:Int):=(by have:=HZ.out;rw [IntWalk.i64_in _ (by omega)];omega);have p4:IntKind.i64.wrap ((q:Int) + 1) = ((q + 1:Nat):Int):=(by rw [IntWalk.i64_in _ (by omega)];omega);have hsl:∀ W,(Instr.sliceAt 35 (.slice (some ⟨fb,0,none⟩) N c4) (some (.int .i64 (k:Int))) (some (.int .i64 ((q:Int) + 1))) none).run Tryz.prog W = .ok (.slice (some ⟨fb,k,none⟩) o (c4 - k)) W:=fun W=>by
    have h1:=HQ.out;have h2:=HP.out;have:=Zek (some ⟨fb,0,none⟩) N c4 k (q + 1) (by omega) (by omega) (by omega) W;rw [show q + 1 - k = o by omega,show (some (⟨fb,0,none⟩:Addr)).map (·.add k) = some ⟨fb,k,none⟩ by cases k <;> simp [Addr.add]] at this;exact this
   have hkm:k <= s.length:=(by omega);clear hz hkc;have HWF:Hid (Lies (Wr.alloc (.cells #[.slice (some ⟨fb,k,none⟩) o (c4 - k)] 35)) (some ⟨fb,k,none⟩) (ics (Jt o s k))):=zH (((HLF.out.below r4.out).alloc _).cutN (by have:=HFL.out;have:=HKC.out;omega));have HWT:Hid (BT (Wr.alloc (.cells #[.slice (some ⟨fb,k,none⟩) o (c4 - k)] 35)) fb 3):=zH ((HBT.out.below r4.out).below (bR.alloc nR _));have HGLn:Hid ((Jt o s k).length = o):=zH (JY ho1 (by omega));have HOW:Hid ((Wr.alloc (.cells #[.slice (some ⟨fb,k,none⟩) o (c4 - k)] 35)).ownsRow w4.heap.size 35 1 (.slice Ao k co) k (lcs O)):=zH (by have:=r2.out.row.alloc (.cells #[.slice (some ⟨fb,k,none⟩) o (c4 - k)] 35);rwa [r1.out] at this);have HOC:Hid (o <= c4 - k):=zH (by have:=HKC.out;omega);go_wp2_with (at_builtin;refine Jg _ rfl (.tmp 24) (.tmp 33) _ rfl w4.heap.size 35 i0 _ 1 24 Tryz.underlying96 TI.out TZ0.out TZ1.out TZ2.out rfl (by omega) (.slice Ao k co) k (lcs O) rfl HOW.out (some ⟨Wr.heap.size,0,none⟩) 1 1 [.slice (some ⟨fb,k,none⟩) o (c4 - k)] rfl (fun e=>by cases e) (Ve _ _ _) (by simp) (by simp [Value.oneCell']) (by unfold maxLen;omega) (by omega) (by simp;omega) (k + 1) rfl ?_;intro A5 c5 w5 ho5 hg5 _);have hit:InT (Wr.alloc (.cells #[.slice (some ⟨fb,k,none⟩) o (c4 - k)] 35)) (some ⟨fb,k,none⟩,c4 - k,Jt o s k):=
    ⟨⟨HWF.out,(fun e=>by cases e),by show (Jt o s k).length <= _;rw [HGLn.out];omega,by show (Jt o s k).length <= _;rw [HGLn.out];exact HOC.out,HRG.out k⟩,fun b off e=>by
     simp only [Option.some.injEq,Addr.mk.injEq] at e;rw [<- e.1];exact HWT.out⟩
   have hll:LLo (Wr.alloc (.cells #[.slice (some ⟨fb,k,none⟩) o (c4 - k)] 35)) w4.heap.size Ao co O:=r2.out.below (bR.alloc nR _);have hsn:=hll.snoc (n:=k) (x:=(some ⟨fb,k,none⟩,c4 - k,Jt o s k)) (w':=w5) (A':=A5) (c':=c5) (base':=w4.heap.size) hit hg5 (by
    simp only [HGLn.out];rw [r1.out];exact ho5)
   have hbel:Below w4.heap.size w4 w5:=(r4.out.alloc hsW _).grown hg5 (by simp;omega) (fun b e=>(HOW.out.lt b e).1);exact ⟨⟨k + 1,q + 1,A5,c5,_,by omega,by omega,by go_num,zH (by have:=HQ.out;omega),rfl,zH (by rw [List.length_append,r1.out];rfl),zH hsn,zH (by
    have h5:=r3.out;rw [ZdW] at h5;rw [ZdW,List.map_append,h5,List.range_succ,List.map_append];rfl),zH hbel⟩,by simp [intOf];omega⟩
  ·obtain rfl:q = N:=by omega
   obtain rfl:k = s.length + 1:=(by have:=HQ.out;have:=HN.out;omega);go_wp2_with fail;go_ret;exact ⟨Ao,co,O,by rw [r1.out];rfl,r3,r2.out.le HB4.out.size |>.below bR,HB4.out.trans (r4.out.mono HB4.out.size)⟩
def Zhr (T:Tbl):Tbl -> Tbl
 | []=>T
 | g :: l=>Zhr (Qy T g.1 g.2) l
structure Srt (o:Nat) (v:Int) (T:Tbl):Prop where
 ord:T.Pairwise fun x y=>J8 x.1 y.1 < 0
 row:∀ g ∈ T,g.1.length = o /\ XI 0 v g.1 = true /\ 1 <= g.2
theorem Vz {o:Nat} {v:Int} {T:Tbl} (h:Xz o v T = 0):Srt o v T:=
 ⟨VB h,fun g hg=>by have:=XY h g hg;exact ⟨by omega,this.2.1,this.2.2.1⟩⟩
theorem Srt.nil (o:Nat) (v:Int):Srt o v []:=⟨List.Pairwise.nil,fun g hg=>by cases hg⟩
theorem ZhT {T:Tbl} {g:List Int} {x:List Int × Int} (h:x ∈ T.take (Zw T g)):J8 x.1 g < 0:=by
 obtain ⟨j,hj,rfl⟩:=List.getElem_of_mem h;rw [List.length_take] at hj;rw [List.getElem_take];have h1:=List.not_of_lt_findIdx (p:=fun x:List Int × Int=>decide (¬ J8 x.1 g < 0)) (xs:=T) (i:=j) (by show j < Zw T g;omega);simpa using h1
theorem ZhV {T:Tbl} {g:List Int} (hk:Zw T g < T.length):¬ J8 T[Zw T g].1 g < 0:=by
 have h1:=List.findIdx_getElem (p:=fun x:List Int × Int=>decide (¬ J8 x.1 g < 0)) (xs:=T) (w:=hk);exact of_decide_eq_true h1
theorem YU (a b:Tbl) (k:K4):J3 (a ++ b) k = J3 a k + J3 b k:=by
 induction a with
 | nil=>simp [J3]
 | cons g l ih=>simp only [List.cons_append,J3,ih];omega
theorem ZcC (T:Tbl) (g:List Int) (n:Int) (k:K4):J3 (Qy T g n) k = J3 T k + if kOf g = k then n else 0:=by
 have ins:J3 (T.take (Zw T g) ++ (g,n) :: T.drop (Zw T g)) k = J3 T k + if kOf g = k then n else 0:=by
  have h1:=YU (T.take (Zw T g)) (T.drop (Zw T g)) k;rw [List.take_append_drop] at h1;rw [YU,h1];simp only [J3];omega
 unfold Qy;split
 ·rename_i x hx;split
  ·rename_i h0;have e:=XU.1 h0;obtain ⟨hk,hx2⟩:=List.getElem?_eq_some_iff.1 hx;generalize Zw T g = K at *
   have h1:T = T.take K ++ x :: T.drop (K + 1):=(by rw [<- hx2,<- List.drop_eq_getElem_cons hk,List.take_append_drop]);have h2:T.set K (x.1,x.2 + n) = T.take K ++ (x.1,x.2 + n) :: T.drop (K + 1):=by
    rw [List.set_eq_take_append_cons_drop,if_pos hk]
   rw [h2,YU]
   conv=>rhs;rw [h1]
   rw [YU];simp only [J3];rw [e];split <;> omega
  ·exact ins
 ·exact ins
theorem ZcD {o:Nat} {v:Int} {T:Tbl} (h:Srt o v T) {g:List Int} {n:Int} (hg:g.length = o) (ha:XI 0 v g = true) (hn : 1 <= n):Srt o v (Qy T g n):=by
 refine ⟨?_,fun x hx=>?_⟩
 ·have ins:(∀ hk:Zw T g < T.length,J8 T[Zw T g].1 g ≠ 0) -> (T.take (Zw T g) ++ (g,n) :: T.drop (Zw T g)).Pairwise fun x y=>J8 x.1 y.1 < 0:=fun hne=>by
   have hp:=h.ord;rw [<- List.take_append_drop (Zw T g) T,List.pairwise_append] at hp;obtain ⟨p1,p2,p3⟩:=hp;have hd:∀ x ∈ T.drop (Zw T g),J8 g x.1 < 0:=fun x hx=>by
    by_cases hk:Zw T g < T.length
    ·have h1:=ZhV hk;have h2:=hne hk;have h3:J8 g T[Zw T g].1 < 0:=(by have:=Vt g T[Zw T g].1;omega);rw [List.drop_eq_getElem_cons hk] at hx p2;rcases List.mem_cons.1 hx with rfl | hx
     ·exact h3
     ·exact XH h3 ((List.pairwise_cons.1 p2).1 x hx)
    ·rw [List.drop_eq_nil_of_le (by omega)] at hx;cases hx
   rw [List.pairwise_append];refine ⟨p1,List.pairwise_cons.2 ⟨hd,p2⟩,fun x hx y hy=>?_⟩;rcases List.mem_cons.1 hy with rfl | hy
   ·exact ZhT hx
   ·exact p3 x hx y hy
  unfold Qy;split
  ·rename_i x hx;obtain ⟨hk,hx2⟩:=List.getElem?_eq_some_iff.1 hx;split
   ·rename_i h0;have e:(T.set (Zw T g) (x.1,x.2 + n)).map (·.1) = T.map (·.1):=by
     apply List.ext_getElem?;intro j;simp only [List.getElem?_map,List.getElem?_set];split
     ·rename_i e;subst e;rw [hx];rfl
     ·rfl
    have hp:=h.ord;have q1:(T.map (·.1)).Pairwise fun x y=>J8 x y < 0:=List.pairwise_map.2 hp;rw [<- e] at q1;exact List.pairwise_map.1 q1
   ·rename_i h0;exact ins fun hk=>by rw [hx2];exact h0
  ·rename_i hx;exact ins fun hk=>by rw [gE hk] at hx;cases hx
 ·rcases ZcE hx with rfl | hx | ⟨y,hy,rfl⟩
  ·exact ⟨hg,ha,hn⟩
  ·exact h.row x hx
  ·have:=h.row y hy;exact ⟨this.1,this.2.1,by show 1 <= y.2 + n;omega⟩
theorem Um:∀ (X T:Tbl) (k:K4),J3 (Zhr T X) k = J3 T k + J3 X k
 | [],T,k=>by simp [Zhr,J3]
 | g :: l,T,k=>by
  show J3 (Zhr (Qy T g.1 g.2) l) k = _;rw [Um l,ZcC];simp only [J3];omega
theorem Zc3 {o:Nat} {v:Int}:∀ (X T:Tbl),Srt o v T -> (∀ g ∈ X,g.1.length = o /\ XI 0 v g.1 = true /\ 1 <= g.2) -> Srt o v (Zhr T X)
 | [],_,h,_=>h
 | g :: l,_,h,hx=>by
  have h1:=hx g (by simp);exact Zc3 l _ (ZcD h h1.1 h1.2.1 h1.2.2) (fun y hy=>hx y (by simp [hy]))
theorem ZiK {o:Nat} (ho:o <= 4) {v v':Int} {a b:Tbl} (ha:Srt o v a) (hb:Srt o v' b) (h:∀ k,J3 a k = J3 b k):a = b:=
 Zd9 ho a b ha.ord hb.ord (fun g hg=>⟨(ha.row g hg).1,(ha.row g hg).2.2⟩) (fun g hg=>⟨(hb.row g hg).1,(hb.row g hg).2.2⟩) h
theorem Zc0 {o:Nat} (ho : 1 <= o) {v:Int} (hv : 0 <= v) {s:List Int} (ha:XI 1 v s = true):∀ k,k <= s.length + 1 -> Srt o v (Ud o s k)
 | 0,_=>Srt.nil o v
 | k + 1,hk=>ZcD (Zc0 ho hv ha k (by omega)) (JY ho (by omega)) (Zau fun x hx=>by
   rcases YQ hx with rfl | hx
   ·omega
   ·have:=Ya ha hx;omega) (by omega)
theorem Vq (o:Nat) (s:List Int):∀ (j:Nat) (k:K4),J3 (Ud o s j) k = (JB (XV o s j) k).getD 0
 | 0,k=>by simp [Ud,XV,J3,JB]
 | j + 1,k=>by
  show J3 (Qy _ _ _) k = (JB (Xr _ _ _) k).getD 0;rw [ZcC,Vq o s j k];by_cases h:kOf (Jt o s j) = k
  ·subst h;rw [JJ,if_pos rfl];simp
  ·rw [JP _ _ (fun e=>h e.symm),if_neg h];simp
def scT (n:Int) (T:Tbl):Tbl:=T.map fun g=>(g.1,g.2 * n)
theorem Uz (n:Int) (k:K4):∀ T:Tbl,J3 (scT n T) k = J3 T k * n
 | []=>by simp [scT,J3]
 | g :: l=>by
  show (if kOf g.1 = k then g.2 * n else 0) + J3 (scT n l) k = _;rw [Uz n k l];simp only [J3];rw [Int.add_mul];split <;> simp
theorem Zf6 {o:Nat} {v n:Int} {T:Tbl} (h:Srt o v T) (hn : 1 <= n):∀ g ∈ scT n T,g.1.length = o /\ XI 0 v g.1 = true /\ 1 <= g.2:=fun g hg=>by
 obtain ⟨x,hx,rfl⟩:=List.mem_map.1 hg;have h1:=h.row x hx;refine ⟨h1.1,h1.2.1,?_⟩;have:=Int.mul_le_mul h1.2.2 hn (by omega) (by omega);show 1 <= x.2 * n;omega
def XC (o:Nat) (T:Tbl) (s:List Int) (n:Int):Tbl:=Zhr T (scT n (Ud o s (s.length + 1)))
theorem Z5 {o:Nat} (ho : 1 <= o) {v n:Int} (hv : 0 <= v) {T:Tbl} (h:Srt o v T) {s:List Int} (ha:XI 1 v s = true) (hn : 1 <= n):Srt o v (XC o T s n):=
 Zc3 _ _ h (Zf6 (Zc0 ho hv ha _ nR) hn)
theorem Zit {o:Nat} (ho : 1 <= o) (ho4:o <= 4) {v n:Int} (hv : 0 <= v) {s:List Int} (ha:XI 1 v s = true) (k:K4):Zjk o s n k = J3 (scT n (Ud o s (s.length + 1))) k:=by
 unfold Zjk;have e:((XV o s (s.length + 1)).map fun q=>(gmW o q.1,q.2 * n)) = scT n ((XV o s (s.length + 1)).map fun q=>(gmW o q.1,q.2)):=by
  unfold scT;rw [List.map_map];rfl
 rw [e,Uz,Uz,Vq,QU ho4 _ (Ze ho hv ha _ nR) (VR _ _ _)]
theorem VO {o:Nat} (ho:o <= 4) {a:Tbl} (hn:(a.map (·.1)).Nodup) (ha:∀ g ∈ a,g.1.length = o /\ 1 <= g.2) (x:List Int × Int) (hx:x.1.length = o):x ∈ a ↔ 1 <= x.2 /\ J3 a (kOf x.1) = x.2:=by
 induction a with
 | nil=>
  simp [J3];omega
 | cons g l ih=>
  simp only [List.map_cons,List.nodup_cons] at hn;have hg:=ha g (by simp);have ih:=ih hn.2 (fun y hy=>ha y (by simp [hy]));have hz:J3 l (kOf g.1) = 0:=ZaM fun y hy e=>hn.1 (by
   rw [<- UM ho (ha y (by simp [hy])).1 hg.1 e];exact List.mem_map_of_mem (f:=fun z:List Int × Int=>z.1) hy)
  simp only [List.mem_cons,J3];by_cases e:kOf g.1 = kOf x.1
  ·have e1:=UM ho hg.1 hx e;rw [if_pos e,<- e,hz];constructor
   ·rintro (rfl | h)
    ·exact ⟨hg.2,by omega⟩
    ·exact absurd (List.mem_map_of_mem (f:=fun z:List Int × Int=>z.1) h) (by rw [<- e1];exact hn.1)
   ·rintro ⟨h1,h2⟩;exact .inl (Prod.ext e1.symm (by omega))
  ·rw [if_neg e];constructor
   ·rintro (rfl | h)
    ·exact absurd rfl e
    ·have:=ih.1 h;omega
   ·rintro ⟨h1,h2⟩;exact .inr (ih.2 ⟨h1,by omega⟩)
theorem Zgg {o:Nat} (ho:o <= 4) {a b:Tbl} (na:(a.map (·.1)).Nodup) (nb:(b.map (·.1)).Nodup) (ha:∀ g ∈ a,g.1.length = o /\ 1 <= g.2) (hb:∀ g ∈ b,g.1.length = o /\ 1 <= g.2) (h:∀ k,J3 a k = J3 b k):a.Perm b:=by
 have nd:∀ l:Tbl,(l.map (·.1)).Nodup -> l.Nodup:=fun l hl=>by
  rw [List.Nodup,List.pairwise_map] at hl;exact hl.imp fun hne e=>hne (by rw [e])
 rw [List.perm_ext_iff_of_nodup (nd a na) (nd b nb)];intro x;constructor
 ·intro hx;have h1:=(ha x hx).1;rw [VO ho nb hb x h1,<- h];exact (VO ho na ha x h1).1 hx
 ·intro hx;have h1:=(hb x hx).1;rw [VO ho na ha x h1,h];exact (VO ho nb hb x h1).1 hx
theorem Srt.nodup {o:Nat} {v:Int} {T:Tbl} (h:Srt o v T):(T.map (·.1)).Nodup:=by
 rw [List.Nodup,List.pairwise_map];exact h.ord.imp fun hlt e=>by rw [e,XU.2 rfl] at hlt;omega
theorem ZcM {o:Nat} {v n:Int} {s:List Int} {T T1:Tbl} (hz:Xv o v = true) (ha:XI 1 v s = true) (hn : 1 <= n) (hT:Xz o v T = 0) (h1:T1.Perm ((XV o s (s.length + 1)).map fun q=>(gmW o q.1,q.2 * n))) :
  ((mrg (mrg [] T) T1).map fun q=>(gmW o q.1,q.2)).Perm (XC o T s n):=by
 have hzz:=Jx.1 hz;have ho4:o <= 4:=by omega
 have hf:=Ze (o:=o) (by omega) (by omega) ha (s.length + 1) nR;have hrow:∀ g ∈ T1,g.1.length = o /\ XI 0 v g.1 = true /\ 1 <= g.2:=fun g hg=>by
  obtain ⟨q,hq,rfl⟩:=List.mem_map.1 (h1.mem_iff.1 hg);obtain ⟨q1,x,q2,q3,q4⟩:=hf q hq;rw [q3,Yj q2 (by omega)];refine ⟨q2,q4,?_⟩;have:=Int.mul_le_mul q1 hn (by omega) (by omega);show 1 <= q.2 * n;omega
 have hF:=YV T1 (mrg [] T) (YV T [] (fun p hp=>by cases hp) (fun g hg=>by have:=XY hT g hg;exact ⟨by omega,this.2.1,this.2.2.1⟩)) hrow;have hN:=Yh T1 _ (Yh T [] (by simp));have hS:=Z5 (o:=o) (by omega) (by omega) (Vz hT) ha hn;refine Zgg ho4 ?_ hS.nodup (fun g hg=>?_) (fun g hg=>⟨(hS.row g hg).1,(hS.row g hg).2.2⟩) (fun k=>?_)
 ·rw [List.map_map];rw [List.Nodup,List.pairwise_map] at hN ⊢;refine hN.imp_of_mem (fun {a b} ha hb' hne e=>hne ?_);obtain ⟨_,g1,q1,q2,_⟩:=hF a ha;obtain ⟨_,g2,r1,r2,_⟩:=hF b hb';simp only [Function.comp] at e;rw [q2,r2,Yj q1 ho4,Yj r1 ho4] at e;rw [q2,r2,e]
 ·obtain ⟨q,hq,rfl⟩:=List.mem_map.1 hg;obtain ⟨q1,x,q2,q3,q4⟩:=hF q hq;rw [q3,Yj q2 (by omega)];exact ⟨q2,q1⟩
 ·rw [Zfy hz ha hn hT h1 (List.Perm.refl _) k,XC,Um,Zit (by omega) ho4 (by omega) ha]
theorem Zeg {o:Nat} {v:Int} {T:Tbl} (hz:Xv o v = true) (h:Srt o v T):Xz o v T = if 20000 < T.length then 5 else if ∃ p ∈ T,1073741824 < p.2 then 2 else 0:=by
 unfold Xz;split
 ·rfl
 ·try rw [if_pos hz]
  by_cases hb:∃ p ∈ T,1073741824 < p.2
  ·rw [if_pos hb,if_neg];intro hk;obtain ⟨p,hp,hb⟩:=hb;have:=XY (o:=o) (v:=v) (l:=T) (JK.2 ⟨by omega,hz,hk⟩) p hp;omega
  ·rw [if_neg hb,if_pos];refine QX fun k hk=>?_;unfold Xs;rw [JZ hk];simp only [Bool.and_eq_true,Bool.or_eq_true,beq_iff_eq,decide_eq_true_eq];have h1:=h.row _ (yM hk);refine ⟨Xk.2 ⟨by omega,h1.2.1,h1.2.2,?_⟩,?_⟩
   ·by_cases h2 : 1073741824 < T[k].2
    ·exact absurd ⟨_,yM hk,h2⟩ hb
    ·omega
   ·by_cases h0:k = 0
    ·exact .inl h0
    ·have hk1:k - 1 < T.length:=(by omega);rw [JZ hk1];exact .inr (List.pairwise_iff_getElem.1 h.ord (k - 1) k hk1 hk (by omega))
theorem Ziw {o:Nat} {v n:Int} {s:List Int} {T T1:Tbl} (hz:Xv o v = true) (ha:XI 1 v s = true) (hn : 1 <= n) (hT:Xz o v T = 0) (h1:T1.Perm ((XV o s (s.length + 1)).map fun q=>(gmW o q.1,q.2 * n))) :
  Ul (mrg (mrg [] T) T1) = Xz o v (XC o T s n):=by
 have hp:=ZcM hz ha hn hT h1;have hzz:=Jx.1 hz;rw [Zeg hz (Z5 (by omega) (by omega) (Vz hT) ha hn)];unfold Ul;have hl:=hp.length_eq;rw [List.length_map] at hl;rw [hl];have e:(∃ p ∈ mrg (mrg [] T) T1,1073741824 < p.2) ↔ ∃ p ∈ XC o T s n,1073741824 < p.2:=by
  constructor
  ·rintro ⟨p,hp1,hp2⟩;exact ⟨_,hp.mem_iff.1 (List.mem_map_of_mem (f:=fun q:K4 × Int=>(gmW o q.1,q.2)) hp1),hp2⟩
  ·rintro ⟨p,hp1,hp2⟩;obtain ⟨q,hq,e⟩:=List.mem_map.1 (hp.mem_iff.2 hp1);refine ⟨q,hq,?_⟩;rw [<- e] at hp2;exact hp2
 simp only [e]
theorem Ziv {o:Nat} {v n:Int} {s:List Int} {T T1 T2:Tbl} (hz:Xv o v = true) (ha:XI 1 v s = true) (hn : 1 <= n) (hT:Xz o v T = 0) (h1:T1.Perm ((XV o s (s.length + 1)).map fun q=>(gmW o q.1,q.2 * n)))
  (h2:T2.Perm ((mrg (mrg [] T) T1).map fun q=>(gmW o q.1,q.2))) (hok:Xz o v T2 = 0):T2 = XC o T s n:=by
 have hzz:=Jx.1 hz;refine ZiK (by omega) (Vz hok) (Z5 (by omega) (by omega) (Vz hT) ha hn) (fun k=>?_);exact Ut (h2.trans (ZcM hz ha hn hT h1)) k
def ZdJ (o:Nat) (T:Tbl) (cs:List (List Int × Int)):Tbl:=cs.foldl (fun T c=>XC o T c.1 c.2) T
theorem Zfz (o:Nat) (T:Tbl) (cs:List (List Int × Int)) (c:List Int × Int):ZdJ o T (cs ++ [c]) = XC o (ZdJ o T cs) c.1 c.2:=by
 unfold ZdJ;rw [List.foldl_append];rfl
theorem ZhP (l:List Rat) (x:Rat):qP (l ++ [x]) = qP l * x:=by
 induction l with
 | nil=>simp only [List.nil_append,qP];grind
 | cons y l ih=>simp only [List.cons_append,qP,ih];grind
def ZK (o:Nat) (g:List Int):List Int:=g.take (o - 1)
def QG (o:Nat) (g:List Int):Nat:=(g[o - 1]?.getD 0).toNat
def gms (o:Nat) (s:List Int):List (List Int):=(List.range (s.length + 1)).map (Jt o s)
theorem Q8 (ct:K4 -> Int -> Int) (V:Nat) (q:Rat) (o:Nat) (s:List Int):∀ k,prW ct V q o s k = qP (((List.range k).map (Jt o s)).map fun g=>rwF ct V q (kOf (ZK o g)) (QG o g))
 | 0=>rfl
 | k + 1=>by
  rw [List.range_succ,List.map_append,List.map_append];simp only [List.map_cons,List.map_nil];rw [ZhP,<- Q8 ct V q o s k];rfl
theorem Zif {o:Nat} (ho : 1 <= o) {s g:List Int} (hg:g ∈ gms o s):g.length = o:=by
 obtain ⟨i,hi,rfl⟩:=List.mem_map.1 hg;exact JY ho (List.mem_range.1 hi)
theorem VF {o:Nat} (ho : 1 <= o) {g:List Int} (hl:g.length = o) (h0:∀ y ∈ g,0 <= y):g = ZK o g ++ [((QG o g:Nat):Int)] /\ (ZK o g).length = o - 1:=by
 have hlt:o - 1 < g.length:=by omega
 have e1:((QG o g:Nat):Int) = g[o - 1]:=by
  unfold QG;rw [gE hlt,Option.getD_some];have:=h0 _ (yM hlt);omega
 refine ⟨?_,by unfold ZK;rw [List.length_take];omega⟩;rw [e1];unfold ZK;have:=List.take_append_getElem hlt;rw [this];rw [List.take_of_length_le (by omega)]
theorem Zap {o:Nat} {v:Int} {T:Tbl} (ho : 1 <= o) (ho4:o <= 4) (hT:Xz o v T = 0) {h:List Int} (hl:h.length = o - 1) (z:Int):ctL o T (kOf h) z = J3 T (kOf (h ++ [z])):=by
 obtain ⟨e1,e2⟩:=Zgy hl (by omega) z;unfold ctL lv;rw [if_pos e2,e1];have hs:=Vz hT;have hp:T.Pairwise fun a b=>kOf a.1 ≠ kOf b.1:=by
  have:=hs.nodup;rw [List.Nodup,List.pairwise_map] at this;exact this.imp_of_mem fun {a b} ha hb hne e=>hne (UM ho4 (hs.row a ha).1 (hs.row b hb).1 e)
 rw [Zbj T [] _ hp (by simp [JB])];simp [JB]
theorem Vs (o:Nat) (s:List Int) (k:K4):∀ j,(JB (XV o s j) k).getD 0 = (((List.range j).filter fun i=>kOf (Jt o s i) == k).length:Int)
 | 0=>by simp [XV,JB]
 | j + 1=>by
  rw [List.range_succ,List.filter_append,List.length_append];show (JB (Xr (XV o s j) (kOf (Jt o s j)) _) k).getD 0 = _;by_cases e:kOf (Jt o s j) = k
  ·rw [e,JJ];simp only [Option.getD_some];rw [Vs o s k j];simp [e]
  ·rw [JP _ _ (fun e'=>e e'.symm),Vs o s k j];simp [e]
theorem Zbo {o:Nat} (ho4:o <= 4) {s:List Int} {x:List Int} (hx:x.length = o):∀ (l:List Nat),(∀ i ∈ l,(Jt o s i).length = o) -> (l.filter fun i=>kOf (Jt o s i) == kOf x).length = (l.map (Jt o s)).count x
 | [],_=>rfl
 | i :: l,h=>by
  have ih:=Zbo ho4 hx l (fun j hj=>h j (by simp [hj]));rw [List.map_cons,List.count_cons,<- ih];by_cases e:Jt o s i = x
  ·rw [List.filter_cons_of_pos (by simp [e])];simp [e]
  ·have e2:¬ kOf (Jt o s i) = kOf x:=fun e'=>e (UM ho4 (h i (by simp)) hx e');rw [List.filter_cons_of_neg (by simp [e2])];simp [e]
theorem ZcL {o:Nat} (ho : 1 <= o) (ho4:o <= 4) {T:Tbl} {s:List Int} {n:Int} {x:List Int} (hx:x.length = o):J3 (XC o T s n) (kOf x) = J3 T (kOf x) + n * ((gms o s).count x:Int):=by
 unfold XC;rw [Um,Uz,Vq,Vs,Zbo ho4 hx _ (fun i hi=>JY ho (List.mem_range.1 hi))];show J3 T (kOf x) + ((gms o s).count x:Int) * n = _;rw [Int.mul_comm]
theorem Yt (F:Int -> Int) (V:Nat):smF F (V + 1) = smF F V + F (V:Int):=by
 unfold smF;rw [List.range_succ,List.map_append,List.sum_append];simp
theorem ZbO (F G:Int -> Int) (n:Int):∀ V,smF (fun z=>F z + n * G z) V = smF F V + n * smF G V
 | 0=>by simp [smF]
 | V + 1=>by rw [Yt,Yt,Yt,ZbO F G n V,Int.mul_add];omega
theorem Uy {F G:Int -> Int}:∀ {V:Nat},(∀ i:Nat,i < V -> F i = G i) -> smF F V = smF G V
 | 0,_=>rfl
 | V + 1,h=>by rw [Yt,Yt,Uy (fun i hi=>h i (by omega)),h V (by omega)]
theorem Zej (c:Nat):∀ V:Nat,smF (fun z=>if z = (c:Int) then 1 else 0) V = if c < V then 1 else 0
 | 0=>by simp [smF]
 | V + 1=>by
  rw [Yt,Zej c V];by_cases h:c < V
  ·rw [if_pos h,if_neg (by omega),if_pos (by omega)];rfl
  ·by_cases h2:c = V
   ·rw [if_neg h,if_pos (by omega),if_pos (by omega)];rfl
   ·rw [if_neg h,if_neg (by omega),if_neg (by omega)];rfl
theorem Zct:∀ V:Nat,smF (fun _=>0) V = 0
 | 0=>rfl
 | V + 1=>by rw [Yt,Zct V];rfl
theorem ZaO {o:Nat} (ho : 1 <= o) {V:Nat} {b:List Int}:∀ (P:List (List Int)),(∀ g ∈ P,g.length = o /\ (∀ y ∈ g,0 <= y) /\ QG o g < V) -> smF (fun z=>((P.count (b ++ [z]):Nat):Int)) V = ((P.filter fun g=>ZK o g == b).length:Int)
 | [],_=>by simpa using Zct V
 | p :: P,h=>by
  obtain ⟨h1,h2,h3⟩:=h p (by simp);have ih:=ZaO ho (b:=b) P (fun g hg=>h g (by simp [hg]));obtain ⟨hp,_⟩:=VF ho h1 h2;have e:∀ i:Nat,i < V -> (((p :: P).count (b ++ [(i:Int)]):Nat):Int) = ((P.count (b ++ [(i:Int)]):Nat):Int) + (if ZK o p = b then 1 else 0) * (if (i:Int) = ((QG o p:Nat):Int) then 1 else 0):=fun i _=>by
   rw [List.count_cons];by_cases hb:ZK o p = b
   ·by_cases hi:(i:Int) = ((QG o p:Nat):Int)
    ·have:p = b ++ [(i:Int)]:=(by rw [hi,<- hb];exact hp);rw [if_pos hb,if_pos hi,if_pos (by rw [<- this];simp)];push_cast;omega
    ·have:¬ p = b ++ [(i:Int)]:=fun e=>hi (by
      rw [hp,hb] at e;have:=List.append_cancel_left e;simpa using this.symm)
     rw [if_pos hb,if_neg hi,if_neg (by simpa using this)];push_cast;omega
   ·have:¬ p = b ++ [(i:Int)]:=fun e=>hb (by
     unfold ZK;have hl:=congrArg List.length e;rw [h1] at hl;simp at hl;rw [e,List.take_left' (by omega)])
    rw [if_neg hb,if_neg (by simpa using this)];push_cast;omega
  rw [Uy (F:=fun z=>(((p :: P).count (b ++ [z]):Nat):Int)) (G:=fun z=>((P.count (b ++ [z]):Nat):Int) + (if ZK o p = b then 1 else 0) * (if z = ((QG o p:Nat):Int) then 1 else 0)) e,ZbO,ih,Zej,if_pos h3];by_cases hb:ZK o p = b
  ·rw [if_pos hb,List.filter_cons_of_pos (by simpa using hb),List.length_cons];push_cast;omega
  ·rw [if_neg hb,List.filter_cons_of_neg (by simpa using hb)];omega
theorem Zef (F:Int -> Int) (q:Rat):∀ V:Nat,((smF F V:Int):Rat) + q * ((V:Int):Rat) = VE V fun w=>((F (w:Int):Int):Rat) + q
 | 0=>by
  simp only [smF,VE,List.range_zero,List.map_nil,List.sum_nil];push_cast;grind
 | V + 1=>by
  show _ = VE V (fun w=>((F (w:Int):Int):Rat) + q) + (((F (V:Int):Int):Rat) + q);rw [<- Zef F q V,Yt];push_cast;grind
theorem ZdN {o V:Nat} {T:Tbl} {s:List Int} {n:Int} {q:Rat} (hT:Xz o ((V:Int) - 1) T = 0) (hT':Xz o ((V:Int) - 1) (XC o T s n) = 0) (ha:XI 1 ((V:Int) - 1) s = true) (hn : 1 <= n) (hq : 0 < q) :
  prW (ctL o T) V q o s (s.length + 1) <= prW (ctL o (XC o T s n)) V q o s (s.length + 1):=by
 have hz:=(JK.1 hT).2.1;have hsz:=Jx.1 hz;have ho : 1 <= o:=by omega
 have ho4:o <= 4:=by omega
 have hg:∀ g ∈ gms o s,g.length = o /\ (∀ y ∈ g,0 <= y) /\ QG o g < V:=fun g hg=>by
  obtain ⟨i,hi,rfl⟩:=List.mem_map.1 hg;have hl:=Zif ho hg;have hb:=Zje ha hz i;refine ⟨hl,fun y hy=>(hb y hy).1,?_⟩;have hlt:o - 1 < (Jt o s i).length:=by omega
  unfold QG;rw [gE hlt,Option.getD_some];have:=hb _ (yM hlt);omega
 have hc:∀ g ∈ gms o s,ctL o T (kOf (ZK o g)) ((QG o g:Nat):Int) = J3 T (kOf g):=fun g h=>by
  obtain ⟨h1,h2,_⟩:=hg g h;obtain ⟨e,hl⟩:=VF ho h1 h2;rw [Zap ho ho4 hT hl,<- e]
 have hc':∀ g ∈ gms o s,ctL o (XC o T s n) (kOf (ZK o g)) ((QG o g:Nat):Int) = ctL o T (kOf (ZK o g)) ((QG o g:Nat):Int) + n * ((gms o s).count g:Int):=fun g h=>by
  obtain ⟨h1,h2,_⟩:=hg g h;obtain ⟨e,hl⟩:=VF ho h1 h2;rw [hc g h,Zap ho ho4 hT' hl,<- e,ZcL ho ho4 h1]
 have hs':∀ g ∈ gms o s,smF (ctL o (XC o T s n) (kOf (ZK o g))) V = smF (ctL o T (kOf (ZK o g))) V + n * (((gms o s).filter fun g'=>ZK o g' == ZK o g).length:Int):=fun g h=>by
  obtain ⟨h1,h2,_⟩:=hg g h;obtain ⟨e,hl⟩:=VF ho h1 h2;rw [<- ZaO ho (gms o s) hg,<- ZbO];refine Uy fun i hi=>?_;have hx:(ZK o g ++ [(i:Int)]).length = o:=by rw [List.length_append,hl];simp;omega
  rw [Zap ho ho4 hT' hl,Zap ho ho4 hT hl,ZcL ho ho4 hx]
 have hp0:=Q8 (ctL o T) V q o s (s.length + 1);have hp1:=Q8 (ctL o (XC o T s n)) V q o s (s.length + 1);rw [hp0,hp1];have hV : 0 < V:=by omega
 have hqV : 0 < q * ((V:Int):Rat):=Rat.mul_pos hq (by exact_mod_cast (by omega:(0:Int) < (V:Int)));have hnn:∀ (h:K4) (z:Int),(0:Rat) <= ((ctL o T h z:Int):Rat):=fun h z=>by exact_mod_cast (Zhm hT h z).1
 have hb:=Zjm (gms o s) (ZK o) (QG o) V (fun g=>((ctL o T (kOf (ZK o g)) ((QG o g:Nat):Int):Int):Rat) + q) (fun b=>((smF (ctL o T (kOf b)) V:Int):Rat) + q * ((V:Int):Rat)) (fun b w=>((ctL o T (kOf b) (w:Int):Int):Rat) + q) (n:Rat) (by exact_mod_cast (by omega:(0:Int) < n)) (fun g h=>(hg g h).2.2)
  (fun g h g' h' e1 e2=>by
   have q1:=(VF ho (hg g h).1 (hg g h).2.1).1;have q2:=(VF ho (hg g' h').1 (hg g' h').2.1).1;rw [q1,q2,e1,e2])
  (fun g _=>by have:=hnn (kOf (ZK o g)) ((QG o g:Nat):Int);grind) (fun b w=>by have:=hnn (kOf b) (w:Int);grind) (fun g _=>rfl) (fun b=>Zef _ q V)
  (fun b=>by
   have h1:(0:Rat) <= ((smF (ctL o T (kOf b)) V:Int):Rat):=(by exact_mod_cast (Zcv (V:=V) (Zhm hT (kOf b))).1);grind)
 have e0:(gms o s).map (fun g=>rwF (ctL o T) V q (kOf (ZK o g)) (QG o g)) = (gms o s).map (fun g=>(((ctL o T (kOf (ZK o g)) ((QG o g:Nat):Int):Int):Rat) + q) / (((smF (ctL o T (kOf (ZK o g))) V:Int):Rat) + q * ((V:Int):Rat))):=by
  refine List.map_congr_left fun g _=>?_;unfold rwF Zga;rw [Rat.div_def]
 have e1:(gms o s).map (fun g=>rwF (ctL o (XC o T s n)) V q (kOf (ZK o g)) (QG o g)) = (gms o s).map (fun g=>((((ctL o T (kOf (ZK o g)) ((QG o g:Nat):Int):Int):Rat) + q) + (n:Rat) * ((gms o s).count g:Rat)) / ((((smF (ctL o T (kOf (ZK o g))) V:Int):Rat) + q * ((V:Int):Rat)) + (n:Rat) * (((gms o s).filter fun g'=>ZK o g' == ZK o g).length:Rat))):=by
  refine List.map_congr_left fun g h=>?_;unfold rwF Zga;rw [Rat.div_def,hc' g h,hs' g h];push_cast;congr 1
  ·grind
  ·congr 1;grind
 have hi:(instBEqOfDecidableEq:BEq (List Int)) = List.instBEq:=by
  have h:∀ a b:List Int,decide (a = b) = List.beq a b:=fun a b=>by
   rw [show List.beq a b = (a == b) from rfl,Bool.eq_iff_iff];simp
  exact congrArg BEq.mk (funext fun a=>funext fun b=>h a b)
 rw [hi] at hb;show qP ((gms o s).map _) <= qP ((gms o s).map _);rw [e0,e1];exact hb
end Go.Proofs.YtlgdlenoohkipaaGreat
