/- TalkClusters -/
import Derived.Test.YtcjicjfbippmnaaGreatMTClus37
import Derived.Test.YtcjicjfbippmnaaGreatMTClus28
set_option maxRecDepth 100000
set_option maxHeartbeats 32000000
namespace Ear
def Zc7 (o:Nat) (s:List Int):Nat -> Tbl
 | 0=>[]
 | k + 1=>ZdN (Zc7 o s k) (JP o s k) 1
theorem Zfq {T:Tbl} {g:List Int} {n:Int} {x:List Int × Int} (h:x ∈ ZdN T g n):x = (g,n) ∨ x ∈ T ∨ ∃ y ∈ T,x = (y.1,y.2 + n):=by
 have ins:x ∈ T.take (Zc0 T g) ++ (g,n) :: T.drop (Zc0 T g) -> x = (g,n) ∨ x ∈ T ∨ ∃ y ∈ T,x = (y.1,y.2 + n):=fun h=>by
  rcases List.mem_append.1 h with h | h
  ·exact .inr (.inl (List.mem_of_mem_take h))
  ·rcases List.mem_cons.1 h with h | h
   ·exact .inl h
   ·exact .inr (.inl (List.mem_of_mem_drop h))
 unfold ZdN at h;split at h
 ·rename_i y hy;split at h
  ·rcases List.mem_or_eq_of_mem_set h with h | h
   ·exact .inr (.inl h)
   ·exact .inr (.inr ⟨y,List.mem_of_getElem? hy,h⟩)
  ·exact ins h
 ·exact ins h
theorem ZbL (T:Tbl) (g:List Int) (n:Int):(ZdN T g n).length <= T.length + 1:=by
 have ins:(T.take (Zc0 T g) ++ (g,n) :: T.drop (Zc0 T g)).length <= T.length + 1:=by
  have:=congrArg List.length (List.take_append_drop (Zc0 T g) T);simp only [List.length_append] at this;simp only [List.length_append,List.length_cons];omega
 unfold ZdN;split
 ·split
  ·simp
  ·exact ins
 ·exact ins
theorem Zcy (o:Nat) (s:List Int):∀ k,(Zc7 o s k).length <= k
 | 0=>by simp [Zc7]
 | k + 1=>by
  have:=Zcy o s k;have:=ZbL (Zc7 o s k) (JP o s k) 1;show (ZdN _ _ _).length <= _;omega
theorem Zbh {o:Nat} (ho : 1 <= o) (s:List Int):∀ k,k <= s.length + 1 -> ∀ x ∈ Zc7 o s k,x.1.length = o /\ 1 <= x.2 /\ x.2 <= k
 | 0,_=>fun x h=>by simp [Zc7] at h
 | k + 1,hk=>fun x h=>by
  have ih:=Zbh ho s k (by omega);rcases Zfq h with rfl | h | ⟨y,hy,rfl⟩
  ·exact ⟨Xt ho (by omega),by simp,by simp;omega⟩
  ·have:=ih x h;exact ⟨this.1,this.2.1,by omega⟩
  ·have:=ih y hy;exact ⟨this.1,by show 1 <= y.2 + 1;omega,by show y.2 + 1 <= _;omega⟩
end Ear
namespace Go.Proofs.YtcjicjfbippmnaaGreat
open Go.RowKit Ear

theorem ZdE (A:Option Addr) (l c f t:Nat) (h1:f <= t) (h2:t <= c) (hf:f < c) (W:World):(Instr.sliceAt 40 (.slice A l c) (some (.int .i64 (f:Int))) (some (.int .i64 (t:Int))) none).run Tryz.prog W = .ok (.slice (A.map (·.add f)) (t - f) (c - f)) W:=by
 have e0:Tryz.prog.underlying 40 = some (.slice (Tryz.prog.elem 40)):=by kernel_rfl
 have hs:(sizeOf (Tryz.prog.elem 40)).run Tryz.prog W = .ok 1 W:=by kernel_rfl
 have h4:¬ c = f:=by omega
 rw [run_sliceAt_slice (h:=e0),run_slice_lh (ht:=e0) (h0:=by omega) (h1:=by omega) (h2:=by omega),hs];simp [Result.andThen,sliced,h4]
theorem Lies.cutN {w:World} {g:Nat} {l:List Int} {f o:Nat} (h:Lies w (some ⟨g,0,none⟩) (ics l)) (h1:f + o <= l.length):Lies w (some ⟨g,f,none⟩) (ics ((l.drop f).take o)):=h.cut3 h1
theorem ZeW (o:Nat) (A:Option Addr) (c:Nat) (s:List Int) (w:World) (h:Lies w A (ics s)) (hA:A = none -> c = 0) (ho1 : 1 <= o) (ho2:o <= 4) (hs:s.length <= 600) (hsb:Hid (∀ y ∈ s,-9223372036854775808 <= y /\ y <= 9223372036854775807)) :
  Calls Tryz.prog 110 #[.int .i64 o,.slice A s.length c] w (ZiT ((List.range (s.length + 1)).map (JP o s)) w):=by
 obtain ⟨i0,hi0,hz0,hz1,hz2⟩:=info_parts Zj;have TI:=zH hi0;have TZ0:=zH hz0;have TZ1:=zH hz1;have TZ2:=zH hz2;obtain ⟨j0,hj0,hy0,hy1,hy2⟩:=info_parts Yz;have KI:=zH hj0;have KZ0:=zH hy0;have KZ1:=zH hy1;have KZ2:=zH hy2;clear hi0 hz0 hz1 hz2 hj0 hy0 hy1 hy2;have HL:=zH h;have HAN:=zH hA;obtain ⟨p,hp⟩:∃ p,p = o - 1:=⟨_,rfl⟩;have p1:IntKind.i64.wrap ((o:Int) - 1) = (p:Int):=by rw [IntWalk.i64_in _ (by omega)];omega
 have HP:Hid (o = p + 1):=zH (by omega);have HFL:Hid ((Vk o s).length = p + s.length + 1):=zH (by rw [Zk ho1];omega);have hp4:p <= 3:=by omega
 obtain ⟨N,hN⟩:∃ N,N = p + s.length + 1:=⟨_,rfl⟩;have HN:=zH hN;have hN2:N <= 700:=by omega
 clear hp h hA hN;obtain ⟨w1,hmk,ho1',hb1⟩:=Zh w p (by omega) w.heap.size nR;have HO1:=zH ho1';have HB1:=zH hb1;have HL1:Hid (Lies w1 A (ics s)):=zH (HL.out.below hb1);clear ho1' hb1;go_enter Tryz.func110,Tryz.ntmps110;go_wp2_with (first
  | (
    at_builtin;refine Jf _ rfl (.tmp 11) (.tmp 12) _ rfl w.heap.size 3 j0 _ 1 8 Tryz.underlying40 KI.out KZ0.out KZ1.out KZ2.out rfl (by omega) (.slice (some ⟨w.heap.size,0,none⟩) p p) p (ics (List.replicate p 0)) rfl HO1.out A s.length c (ics s) rfl HAN.out HL1.out (by simp) (YX _) (by unfold maxLen;omega) (by omega) HB1.out.size (p + s.length) rfl ?_;intro A2 c2 w2 ho2 hg2 _
    have HB2:Hid (Below w.heap.size w w2):=zH (HB1.out.grown hg2 HB1.out.size (fun b e=>(HO1.out.lt b e).1));have HO2:Hid (w2.ownsRow w.heap.size 3 1 (.slice A2 (p + s.length) c2) (p + s.length) (ics (List.replicate p 0 ++ s))):=zH (by rw [YL];exact ho2);have hs2:=HB2.out.size;clear ho2 hg2 hmk HO1 HL1)
  | (
    at_builtin;refine Jf _ rfl (.tmp 13) (.tmp 14) _ rfl w.heap.size 3 j0 _ 1 8 Tryz.underlying40 KI.out KZ0.out KZ1.out KZ2.out rfl (by omega) (.slice A2 (p + s.length) c2) (p + s.length) (ics (List.replicate p 0 ++ s)) rfl (HO2.out.alloc _) (some ⟨w2.heap.size,0,none⟩) 1 1 [.int .i64 0] rfl (fun e=>by cases e) (Zu _ _ _) (by simp) (by simp [Value.oneCell']) (by unfold maxLen;omega) (by omega) (by simp;omega) N (by have:=HN.out;omega) ?_;intro A4 c4 w4 ho4 hg4 _
    have HB4:Hid (Below w.heap.size w w4):=zH ((HB2.out.alloc hs2 _).grown hg4 (by simp;omega) (fun b e=>(HO2.out.lt b e).1));have HO4:Hid (w4.ownsRow w.heap.size 3 1 (.slice A4 N c4) N (ics (Vk o s))):=zH (by
     have e:Vk o s = (List.replicate p 0 ++ s) ++ [0]:=(by unfold Vk;rw [HP.out];rfl);rw [e,YL];exact ho4)
    clear ho4 hg4 HO2 hs2))
 obtain ⟨fb,cap,hv,hfb,hfl⟩:=HO4.out.form (by have:=HN.out;omega);injection hv with e1 e2 e3
 subst e1 e3;have hcap:N <= c4:=VB HO4.out;have HBT:Hid (BT w4 fb 3):=zH (BT.of_own HO4.out rfl);have HLF:Hid (Lies w4 (some ⟨fb,0,none⟩) (ics (Vk o s))):=zH (Lies.of_own HO4.out);have HRG:Hid (∀ k,∀ y ∈ JP o s k,-9223372036854775808 <= y /\ y <= 9223372036854775807):=zH (fun k y hy=>by
  rcases VJ hy with rfl | hy
  ·omega
  ·exact hsb.out y hy)
 clear e2;go_loopw [6,7] (fun t6 i wr=>∃ (k q:Nat) (Ao:Option Addr) (co:Nat) (O:List Inn),k <= s.length + 1 /\ q <= N /\ i = .int .i64 q /\ Hid (q = p + k) /\ t6 = .slice Ao k co /\ Hid (O.length = k) /\ Hid (LLo wr w4.heap.size Ao co O) /\ Hid (Jk O = (List.range k).map (JP o s)) /\ Hid (Below w4.heap.size w4 wr)) (fun _ i _=>N - (intOf i).toNat)
 case atStart=>exact ⟨0,p,none,0,[],by omega,by have:=HN.out;omega,rfl,zH rfl,rfl,zH rfl,zH (LLo.nil _ _),zH rfl,zH bR⟩
 case round=>
  obtain ⟨k,q,Ao,co,O,hk,hq,rfl,HQ,rfl,r1,r2,r3,r4⟩:=hrel;obtain ⟨Wr,rfl⟩:∃ X,X = wr:=⟨_,rfl⟩;have hsW:=r4.out.size;by_cases hlt:q < N
  ·obtain ⟨z,hz⟩:∃ z:Int,z = (k:Int) - 1:=⟨_,rfl⟩;have HZ:=zH hz;have hkc:k + o <= c4 /\ k < c4 /\ k < s.length + 1 /\ k + o <= p + s.length + 1:=(by have:=HQ.out;have:=HN.out;have:=HP.out;omega);have HKC:=zH hkc;have p2:IntKind.i64.wrap ((q:Int) - (o:Int)) = z:=(by have:=HP.out;have:=HQ.out;have:=HZ.out;rw [IntWalk.i64_in _ (by omega)];omega);have p3:IntKind.i64.wrap (z + 1) = (k:Int):=(by have:=HZ.out;rw [IntWalk.i64_in _ (by omega)];omega);have p4:IntKind.i64.wrap ((q:Int) + 1) = ((q + 1:Nat):Int):=(by rw [IntWalk.i64_in _ (by omega)];omega);have hsl:∀ W,(Instr.sliceAt 40 (.slice (some ⟨fb,0,none⟩) N c4) (some (.int .i64 (k:Int))) (some (.int .i64 ((q:Int) + 1))) none).run Tryz.prog W = .ok (.slice (some ⟨fb,k,none⟩) o (c4 - k)) W:=fun W=>by
    have h1:=HQ.out;have h2:=HP.out;have:=ZdE (some ⟨fb,0,none⟩) N c4 k (q + 1) (by omega) (by omega) (by omega) W;rw [show q + 1 - k = o by omega,show (some (⟨fb,0,none⟩:Addr)).map (·.add k) = some ⟨fb,k,none⟩ by cases k <;> simp [Addr.add]] at this;exact this
   have hkm:k <= s.length:=(by omega);clear hz hkc;have HWF:Hid (Lies (Wr.alloc (.cells #[.slice (some ⟨fb,k,none⟩) o (c4 - k)] 40)) (some ⟨fb,k,none⟩) (ics (JP o s k))):=zH (((HLF.out.below r4.out).alloc _).cutN (by have:=HFL.out;have:=HKC.out;omega));have HWT:Hid (BT (Wr.alloc (.cells #[.slice (some ⟨fb,k,none⟩) o (c4 - k)] 40)) fb 3):=zH ((HBT.out.below r4.out).below (bR.alloc nR _));have HGLn:Hid ((JP o s k).length = o):=zH (Xt ho1 (by omega));have HOW:Hid ((Wr.alloc (.cells #[.slice (some ⟨fb,k,none⟩) o (c4 - k)] 40)).ownsRow w4.heap.size 40 1 (.slice Ao k co) k (lcs O)):=zH (by have:=r2.out.row.alloc (.cells #[.slice (some ⟨fb,k,none⟩) o (c4 - k)] 40);rwa [r1.out] at this);have HOC:Hid (o <= c4 - k):=zH (by have:=HKC.out;omega);go_wp2_with (at_builtin;refine Jf _ rfl (.tmp 24) (.tmp 33) _ rfl w4.heap.size 40 i0 _ 1 24 Tryz.underlying22 TI.out TZ0.out TZ1.out TZ2.out rfl (by omega) (.slice Ao k co) k (lcs O) rfl HOW.out (some ⟨Wr.heap.size,0,none⟩) 1 1 [.slice (some ⟨fb,k,none⟩) o (c4 - k)] rfl (fun e=>by cases e) (Zu _ _ _) (by simp) (by simp [Value.oneCell']) (by unfold maxLen;omega) (by omega) (by simp;omega) (k + 1) rfl ?_;intro A5 c5 w5 ho5 hg5 _);have hit:InT (Wr.alloc (.cells #[.slice (some ⟨fb,k,none⟩) o (c4 - k)] 40)) (some ⟨fb,k,none⟩,c4 - k,JP o s k):=
    ⟨⟨HWF.out,(fun e=>by cases e),by show (JP o s k).length <= _;rw [HGLn.out];omega,by show (JP o s k).length <= _;rw [HGLn.out];exact HOC.out,HRG.out k⟩,fun b off e=>by
     simp only [Option.some.injEq,Addr.mk.injEq] at e;rw [<- e.1];exact HWT.out⟩
   have hll:LLo (Wr.alloc (.cells #[.slice (some ⟨fb,k,none⟩) o (c4 - k)] 40)) w4.heap.size Ao co O:=r2.out.below (bR.alloc nR _);have hsn:=hll.snoc (n:=k) (x:=(some ⟨fb,k,none⟩,c4 - k,JP o s k)) (w':=w5) (A':=A5) (c':=c5) (base':=w4.heap.size) hit hg5 (by
    simp only [HGLn.out];rw [r1.out];exact ho5)
   have hbel:Below w4.heap.size w4 w5:=(r4.out.alloc hsW _).grown hg5 (by simp;omega) (fun b e=>(HOW.out.lt b e).1);exact ⟨⟨k + 1,q + 1,A5,c5,_,by omega,by omega,by go_num,zH (by have:=HQ.out;omega),rfl,zH (by rw [List.length_append,r1.out];rfl),zH hsn,zH (by
    have h5:=r3.out;rw [Jk] at h5;rw [Jk,List.map_append,h5,List.range_succ,List.map_append];rfl),zH hbel⟩,by simp [intOf];omega⟩
  ·obtain rfl:q = N:=by omega
   obtain rfl:k = s.length + 1:=(by have:=HQ.out;have:=HN.out;omega);go_wp2_with fail;go_ret;exact ⟨Ao,co,O,by rw [r1.out];rfl,r3,r2.out.le HB4.out.size |>.below bR,HB4.out.trans (r4.out.mono HB4.out.size)⟩
structure CtS (w:World) (o v:Int) (T:Tbl) (W:World):Prop where
 box:∃ A c L,W.heap[w.heap.size + 1]? = some (.cells #[.int .i64 o,.int .i64 v,.slice A (L:List Gm).length c] 84 (0,0)) /\ GLo W w.heap.size A c L /\ Jl L = T
 res:W.heap[w.heap.size]? = some (.cells #[.int .i64 0,.int .i64 0,.slice none 0 0] 84 (0,0))
 bel:RowKit.Below w.heap.size w W
theorem CtS.below {w:World} {o v:Int} {T:Tbl} {W W':World} (h:CtS w o v T W) (hb:RowKit.Below W.heap.size W W'):CtS w o v T W':=by
 obtain ⟨A,c,L,h1,h2,h3⟩:=h.box;exact ⟨⟨A,c,L,(hb.block _ (aE h1).1).trans h1,h2.below hb,h3⟩,(hb.block _ (aE h.res).1).trans h.res,h.bel.trans (hb.mono h.bel.size)⟩
theorem LLo.blockT {w w':World} {base c:Nat} {A:Option Addr} {L:List Inn} (h:LLo w base A c L) (hs:w.heap.size <= w'.heap.size) (hk:∀ b,BT w b 3 ∨ BT w b 40 -> w'.heap[b]? = w.heap[b]?):LLo w' base A c L:=by
 refine ⟨?_,fun x hx=>(h.inn x hx).block hs fun b hb=>hk b (.inl hb)⟩;have hrow:=h.row;obtain ⟨q1,q2⟩:=hrow;refine ⟨q1,?_⟩;rcases q2 with e | ⟨g,cap,cur,e,hb,hg,rest⟩
 ·exact .inl e
 ·exact .inr ⟨g,cap,cur,e,hb,(hk g (.inr ⟨_,_,hg⟩)).trans hg,rest⟩
theorem LLo.grownG {w w':World} {base c:Nat} {A:Option Addr} {L:List Inn} (h:LLo w base A c L) {r:Option Nat} (hg:w.grownBy w' r) (hr:∀ k,r = some k -> BT w k 114):LLo w' base A c L:=
 h.blockT hg.size fun b hb=>by
  rcases hb with hb | hb
  ·exact hg.block b hb.lt fun e=>hb.ne (hr b e.symm) (by decide) rfl
  ·exact hg.block b hb.lt fun e=>hb.ne (hr b e.symm) (by decide) rfl
theorem ZcP (o:Nat) (v:Int) (A:Option Addr) (c:Nat) (x:Inn) (w:World) (h:LL w A [x]) (ho1 : 1 <= o) (ho2:o <= 4) (hs:x.2.2.length <= 600) :
  Calls Tryz.prog 53 #[.int .i64 o,.int .i64 v,.slice A 1 c] w fun e w'=>∃ A' c' L',e = .returned (.agg #[.int .i64 o,.int .i64 v,.slice A' (L':List Gm).length c']) /\ GLo w' w.heap.size A' c' L' /\ Jl L' = Zc7 o x.2.2 (x.2.2.length + 1) /\ RowKit.Below w.heap.size w w':=by
 obtain ⟨W,hW⟩:∃ W:World,W = (w.alloc (.cells #[.int .i64 0,.int .i64 0,.slice none 0 0] 84)).alloc (.cells #[.int .i64 o,.int .i64 v,.slice none 0 0] 84):=⟨_,rfl⟩;have HB0:Hid (RowKit.Below w.heap.size w W):=zH (by rw [hW];exact al2 w _ _);have HC0:Hid (CtS w o v [] W):=zH ⟨⟨none,0,[],by rw [hW];exact Zdv _ _ _,GLo.nil _ _,rfl⟩,by rw [hW];exact Zdw _ _ _,HB0.out⟩;have HLL:=zH h;clear h;go_enter Tryz.func53,Tryz.ntmps53;go_wp2_with fail;rw [<- hW];clear hW;go_loopw [8] (fun i wr=>∃ k:Nat,k <= 1 /\ i = .int .i64 k /\ Hid (CtS w o v (if k = 0 then [] else Zc7 o x.2.2 (x.2.2.length + 1)) wr) ) (fun i _=>1 - (intOf i).toNat)
 case atStart=>exact ⟨0,by omega,rfl,zH (by rw [if_pos rfl];exact HC0.out)⟩
 case round=>
  obtain ⟨k,hk,rfl,HC⟩:=hrel;obtain ⟨Wr,rfl⟩:∃ X,X = wr:=⟨_,rfl⟩;by_cases hlt:k < 1
  ·obtain rfl:k = 0:=by omega
   have HCW:Hid (CtS w o v [] Wr):=zH (by have:=HC.out;rwa [if_pos rfl] at this);clear HC HC0 HB0;have HLW:=zH (HLL.out.below HCW.out.bel);clear HLL;obtain ⟨bk,off,rfl,hbk,hcw⟩:=HLW.out.lies.lat (k:=0) (by simp);have HX:=zH (HLW.out.inn x (by simp));have hcw0:Wr.cell? ⟨bk,off,none⟩ = some (.slice x.1 x.2.2.length x.2.1):=(by simpa using hcw);obtain ⟨XA,Xc,s⟩:=x;simp only at *
   clear hcw;go_wp2_with fail;refine (ZeW o XA Xc s Wr HX.out.1 (fun e=>(HX.out.2.1 e).1) ho1 ho2 hs (zH HX.out.2.2.2.2)).mono ?_;rintro e w1 ⟨A9,c9,L9,rfl,hv9,hl9,hb9⟩;have HC1:=zH (HCW.out.below hb9);have HL9:=zH hl9;have hlen9:L9.length = s.length + 1:=(by have:=congrArg List.length hv9.out;simpa using this);have HLEN:=zH hlen9;have hl9m:L9.length <= 1000:=(by omega);clear hl9 hb9 hlen9 HCW HLW;go_wp2_with fail;go_loopw [10] (fun i wr=>∃ j:Nat,j <= L9.length /\ i = .int .i64 j /\ Hid (CtS w o v (Zc7 o s j) wr) /\ Hid (LLo wr Wr.heap.size A9 c9 L9)  ) (fun i _=>L9.length - (intOf i).toNat)
   case atStart=>exact ⟨0,by omega,rfl,HC1,HL9⟩
   case round=>
    obtain ⟨j,hj,rfl,HCj,HL⟩:=hrel;obtain ⟨V,rfl⟩:∃ X,X = wr:=⟨_,rfl⟩;by_cases hjl:j < L9.length
    ·obtain ⟨g9,o9,rfl,hg9,hcg⟩:=HL.out.lies.lat hjl;have HXJ:=zH (HL.out.inn _ (yM hjl));have HG:Hid (L9[j].2.2 = JP o s j):=zH (by
      have h1:=QW hjl;rw [hv9.out,List.getElem?_map,List.getElem?_range (by rw [<- HLEN.out];exact hjl)] at h1;exact h1.symm)
     obtain ⟨GA,Gc,GL,hbox,hglo,htb⟩:=HCj.out.box;have HBOX:=zH hbox;have HGLO:=zH hglo;have HTB:=zH htb;have c7:V.cell? ⟨w.heap.size + 1,2,none⟩ = some (.slice GA GL.length Gc):=(cR 2 hbox).trans rfl;have f7:V.frozen? ⟨w.heap.size + 1,2,none⟩ = false:=JB hbox 2;have HRW:Hid (∀ y ∈ GL,y.1.2.2.length = o /\ 0 <= y.2 /\ y.2 <= 1000):=zH (fun y hy=>by
      have h1:(y.1.2.2,y.2) ∈ Zc7 o s j:=(by rw [<- htb];exact List.mem_map_of_mem (f:=fun g:Gm=>(g.1.2.2,g.2)) hy);have h2:=Zbh ho1 s j (by rw [<- HLEN.out];exact hj) _ h1;simp only at h2;exact ⟨h2.1,by omega,by omega⟩)
     have hgl:GL.length <= 1000:=(by have:=Zcy o s j;rw [<- htb] at this;simp at this;omega);clear hbox hglo htb;generalize L9[j] = X9 at *
     obtain ⟨JA,Jc,jl⟩:=X9;simp only at *
     have hjo:jl.length = o:=(by rw [HG.out];exact Xt ho1 (by rw [<- HLEN.out];exact hjl));have HP:=zH (ZgP w.heap.size GA JA Gc Jc GL jl 1 V.drew (HGLO.out.below (RowKit.Below.refl _ V).drew) (HXJ.out.below (RowKit.Below.refl _ V).drew).1.1 (fun e=>(HXJ.out.1.2.1 e).1) (HCj.out.bel.size) (zH (fun y hy=>by rw [(HRW.out y hy).1,hjo])) (zH (fun y hy=>by have:=HRW.out y hy;omega)) (by omega) (by omega) (by omega) (zH HXJ.out.1.2.2.2.2));have HBTb:Hid (BT V (w.heap.size + 1) 84):=zH ⟨_,_,HBOX.out⟩;have HBTg:Hid (∀ b,blk GA = some b -> BT V b 114 /\ w.heap.size <= b):=zH (fun b hb=>⟨BT.of_own HGLO.out.row (by rw [Jo];exact hb),(HGLO.out.row.lt b (by rw [Jo];exact hb)).1⟩);have HBTi:Hid (BT V g9 40):=zH (BT.of_own HL.out.row rfl);clear hjo;go_upto_region 9 with fail;refine JM (S:=fun w'=>w'.cell? ⟨w.heap.size + 1,2,none⟩ = some (.slice GA GL.length Gc) /\ w'.cell? ⟨g9,o9 + j,none⟩ = some (.slice JA jl.length Jc)) 8 (by kernel_rfl) (by kernel_rfl) ⟨c7,hcg⟩ (fun hd=>?_);simp only [List.pop_toArray,List.dropLast_cons_cons,List.dropLast_singleton];iterate 6 (((refine Jb (v:=?_) rfl (by kernel_rfl) (fun _ _ _ h=>h) ⟨by rfl,?_⟩ hd ?_;rotate_left;· intro w' sw;obtain ⟨s1,s2⟩:=sw;go_simp;try with_reducible rfl);simp only [zA,zB,zC]))
     refine Jg 6 rfl (by kernel_rfl) rfl (fun K hK=>?_);go_simp;refine HP.out.mono ?_;rintro e w2 ⟨A2,c2,L2,rfl,hL2,hT2,hg2⟩;have HL2:=zH hL2;have hne7:some (w.heap.size + 1) ≠ blk GA:=fun e=>(HBTg.out _ e.symm).1.ne HBTb.out (by decide) rfl;have hne9:some g9 ≠ blk GA:=fun e=>(HBTg.out _ e.symm).1.ne HBTi.out (by decide) rfl;have HG2:Hid (V.grownBy w2 (blk GA)):=zH ⟨hg2.os,hg2.tape,hg2.output,hg2.size,hg2.block⟩;have hbx2:w2.heap[w.heap.size + 1]? = some (.cells #[.int .i64 o,.int .i64 v,.slice GA GL.length Gc] 84 (0,0)):=(HG2.out.block _ HBTb.out.lt hne7).trans HBOX.out;have HBX2:=zH hbx2;have d7:w2.cell? ⟨w.heap.size + 1,2,none⟩ = some (.slice GA GL.length Gc):=(cR 2 hbx2).trans rfl;have k7:w2.frozen? ⟨w.heap.size + 1,2,none⟩ = false:=JB hbx2 2;have d9:w2.cell? ⟨g9,o9 + j,none⟩ = some (.slice JA jl.length Jc):=(World.cell?_of_block (a:=⟨g9,o9 + j,none⟩) (HG2.out.block _ hg9 hne9)).trans hcg;have HRES2:Hid (w2.heap[w.heap.size]? = some (.cells #[.int .i64 0,.int .i64 0,.slice none 0 0] 84 (0,0))):=zH ((HG2.out.block _ (aE HCj.out.res).1 (fun e=>(HBTg.out _ e.symm).1.ne ⟨_,_,HCj.out.res⟩ (by decide) rfl)).trans HCj.out.res);have HB2:Hid (RowKit.Below w.heap.size w w2):=zH (HCj.out.bel.grown HG2.out HCj.out.bel.size (fun b e=>(HBTg.out b e).2));have HL9':Hid (LLo w2 Wr.heap.size (some ⟨g9,o9,none⟩) c9 L9):=zH (HL.out.grownG HG2.out (fun b e=>(HBTg.out b e).1));clear hL2 hg2 hne7 hne9 hbx2;go_simp;refine hK.out _ _ ⟨d7,d9⟩ (fun hd=>?_);clear hK K
     ((refine Jb (v:=?_) rfl (by kernel_rfl) (fun _ _ _ h=>h) ⟨by rfl,?_⟩ hd ?_;rotate_left;· intro w' sw;obtain ⟨s1,s2⟩:=sw;go_simp;try with_reducible rfl);simp only [zA,zB,zC])
     refine wpAnyH_done (by kernel_rfl) ?_ _;refine PopQ.last rfl rfl (fun K hK=>?_);go_simp;refine hK _ _ ?_;clear hK K;go_wp2_with fail;have hbX:∀ b,b ≠ w.heap.size + 1 -> (w2.setCell ⟨w.heap.size + 1,2,none⟩ (.slice A2 L2.length c2)).heap[b]? = w2.heap[b]?:=fun b hb=>RowKit.Below.heap_setCell w2 _ _ b hb;have hbt:BT w2 (w.heap.size + 1) 84:=⟨_,_,HBX2.out⟩;have hset:=JQ HBX2.out 2 (.slice A2 L2.length c2);refine ⟨⟨j + 1,by omega,by go_num,zH ⟨⟨A2,c2,L2,hset.trans rfl,?_,?_⟩,?_,?_⟩,zH ?_⟩,by simp [intOf];omega⟩
     ·refine HL2.out.block (by simp [World.setCell]) (fun b hb=>hbX b ?_);rcases hb with hb | hb
      ·exact hb.ne hbt (by decide)
      ·exact hb.1.ne hbt (by decide)
     ·rw [hT2,HTB.out,HG.out];rfl
     ·exact (hbX _ (by omega)).trans HRES2.out
     ·exact HB2.out.setCell (by show w.heap.size <= w.heap.size + 1;omega) _
     ·refine HL9'.out.blockT (by simp [World.setCell]) (fun b hb=>hbX b ?_);rcases hb with hb | hb
      ·exact hb.ne hbt (by decide)
      ·exact hb.ne hbt (by decide)
    ·obtain rfl:j = L9.length:=(by omega);go_wp2_with fail;exact ⟨⟨1,by omega,by go_num,zH (by rw [if_neg (by decide),<- HLEN.out];exact HCj.out)⟩,by simp [intOf]⟩
  ·obtain rfl:k = 1:=by omega
   have HCW:Hid (CtS w o v (Zc7 o x.2.2 (x.2.2.length + 1)) Wr):=zH (by have:=HC.out;rwa [if_neg (by decide)] at this);obtain ⟨GA,Gc,GL,hbox,hglo,htb⟩:=HCW.out.box;have HRES:=zH HCW.out.res;have c0:=(cR 0 hbox).trans rfl;have c1:=(cR 1 hbox).trans rfl;have c2:=(cR 2 hbox).trans rfl;have d0:=(cR 0 HRES.out).trans rfl;have d1:=(cR 1 HRES.out).trans rfl;have d2:=(cR 2 HRES.out).trans rfl;have f0:=JB HRES.out 0;have f1:=JB HRES.out 1;have f2:=JB HRES.out 2;have HGLO:=zH hglo;have HTB:=zH htb;clear hbox hglo htb HC HC0 HLL HB0;go_wp2_with fail;have hr6:=Zcf HRES.out (.int .i64 o) (.int .i64 v) (.slice GA GL.length Gc);have g0:=(cR 0 hr6).trans rfl;have g1:=(cR 1 hr6).trans rfl;have g2:=(cR 2 hr6).trans rfl;refine bodyPost_ret (v:=.agg #[.int .i64 o,.int .i64 v,.slice GA GL.length Gc]) (by simp [results,Tryz.results53,go_sem,g0,g1,g2]) rfl ?_;have hbt:BT Wr w.heap.size 84:=⟨_,_,HRES.out⟩;refine ⟨GA,Gc,GL,rfl,HGLO.out.block (by simp [World.setCell]) (fun b hb=>?_),HTB.out,((HCW.out.bel.setCell nR _).setCell nR _).setCell nR _⟩;have hne:b ≠ w.heap.size:=by
    rcases hb with hb | hb
    ·exact hb.ne hbt (by decide)
    ·exact hb.1.ne hbt (by decide)
   rw [RowKit.Below.heap_setCell _ _ _ b hne,RowKit.Below.heap_setCell _ _ _ b hne,RowKit.Below.heap_setCell _ _ _ b hne]
theorem Zh1:Zat [[[0],[0]],[[3]]] = 0:=by decide +kernel
theorem Zh2:Ziy 0 [[0],[0]] [[3]] = ((6:Int):Rat):=by decide +kernel
theorem ZgZ:Zat [[[0]],[[9]],[[1]]] = 0:=by decide +kernel
theorem Zec:fq (decide ((1:Int) < 0) != decide ((2:Int) < 0)) (1:Int).natAbs (2:Int).natAbs = mkRat 1 2:=by decide +kernel
theorem Zh5:Zdk (clu 3 (mkRat 1 2) 3 (JL [[[0]],[[9]],[[1]]])) 3 = [0,1,0]:=by decide +kernel
theorem Zh3:Zc7 1 [1] 2 = [([0],1),([1],1)]:=by decide +kernel
theorem Zgl:Uq 1 1 [([0],1),([1],1)] = 0:=by decide +kernel
theorem ZgX:Uq 1 1 [([0],3),([1],5)] = 0:=by decide +kernel
theorem Zh4:YD 1 [1,1] 3 = [(kOf [1],2),(kOf [0],1)]:=by decide +kernel
theorem Zg1:U4 (mrg (mrg [] [([0],1),([1],1)]) [([1],4),([0],2)]) = 0:=by decide +kernel
theorem Zg0:U4 (mrg (mrg [] [([0],1),([1],1)]) [([0],2),([1],4)]) = 0:=by decide +kernel
def Q7:BA:=⟨#[114,101,100]⟩
def Zf3:BA:=⟨#[98,108,117,101]⟩
def kPs:List PSl:=[⟨⟨#[99,111,108,111,114]⟩,[Q7,Zf3],mkRat 1 4,mkRat 3 4⟩]
theorem ZgY:ZbP 1 10 4 kPs = true:=by decide +kernel
def kD0:PDl:=ZiC 1 10 4 kPs
def kD1:PDl:=(Qe kD0 ⟨4,Q7,mkRat 1 2,2⟩).2
def kD2:PDl:=(Qe kD1 ⟨2,⟨#[]⟩,((1:Int):Rat),4⟩).2
def kD3:PDl:=(Qe kD2 ⟨2,⟨#[]⟩,((1:Int):Rat),9⟩).2
theorem Zh6:Zil kD1 = (.agg #[.int .i64 0,.bool true,.string Q7,.int .i64 2],0):=by
 have h:kD1.stand = 0 /\ VN kD1.F = 0 /\ ((kD1.F[0]?.map (·.st)).getD 0 = 2) /\ kD1.prompt = 2 /\ (kD1.F[0]?.map (·.val)).getD ⟨#[]⟩ = Q7:=by decide +kernel
 obtain ⟨h1,h2,h3,h4,h5⟩:=h;unfold Zil;rw [if_neg (by rw [h1];simp),h2,h3,h4,h5];rfl
theorem Zeb:kD3.stand = 1 /\ kD3.cuts = 3 /\ kD3.bad = 0:=by decide +kernel
end Go.Proofs.YtcjicjfbippmnaaGreat
