/- TalkClusters -/
import Derived.Test.YtcjicjfbippmnaaGreatMTClus44
set_option maxRecDepth 100000
set_option maxHeartbeats 32000000
namespace Go.Proofs.YtcjicjfbippmnaaGreat
open Go.RowKit Ear

def flI (G:List Grp) (k:Nat):List Inn:=((G.take k).map (·.2.2)).flatten
theorem ZcB {B:Nat} {a w:World} (h:Below B a w) (n:Nat):Below B a (w.drewN n):=⟨h.os,h.tape,h.output,h.size,h.block⟩
theorem Zcs (G:List Grp):flI G 0 = []:=by simp [flI]
theorem Zct {G:List Grp} {k:Nat} (hk:k < G.length):flI G (k + 1) = flI G k ++ G[k].2.2:=by
 unfold flI;rw [List.take_succ_eq_append_getElem hk,List.map_append,List.flatten_append];simp only [List.map_cons,List.map_nil,List.flatten_cons,List.flatten_nil,List.append_nil]
theorem Zgs (G:List Grp):∀ k,k <= G.length -> Jk (flI G k) = flK (gvs G) k:=by
 intro k
 induction k with
 | zero=>intro _;rw [Zcs,Uk];rfl
 | succ k ih=>
  intro hk;rw [Zct hk,Ul (by simp;omega),Jk,List.map_append,<- Jk,ih (by omega)];simp
theorem Zhh {G:List Grp} {k:Nat} {x:Inn} (h:x ∈ flI G k):∃ g ∈ G,x ∈ g.2.2:=by
 unfold flI at h;simp only [List.mem_flatten,List.mem_map] at h;obtain ⟨l,⟨g,hg,rfl⟩,hx⟩:=h;exact ⟨g,List.mem_of_mem_take hg,hx⟩

theorem Ux (A:Option Addr) (c:Nat) (G:List Grp) (w:World) (h:GG w A G) (hn:G.length <= 1000) (hg:Hid (∀ g ∈ G,g.2.2.length <= 10000)) (hnil:Hid (∀ g ∈ G,g.1 = none -> g.2.1 = 0)) (r:Int) (hr:Hid (Zat (gvs G) = r)) :
  Calls Tryz.prog 16 #[.slice A G.length c] w (ZhA r w):=by
 obtain ⟨i0,hi0,hz0,hz1,hz2⟩:=info_parts Zj;have TI:=zH hi0;have TZ0:=zH hz0;have TZ1:=zH hz1;have TZ2:=zH hz2;clear hi0 hz0 hz1 hz2;have HGL:Hid ((gvs G).length = G.length):=zH (by simp);have HFL:Hid (∀ k,k <= G.length -> (flI G k).length = (flK (gvs G) k).length):=zH (fun k hk=>by rw [<- Zgs G k hk];simp);have HGK:Hid (∀ k (hk:k < G.length),(gvs G)[k]'(by rw [HGL.out];exact hk) = Jk G[k].2.2):=zH (fun k hk=>by simp);have HALL:Hid (flK (gvs G) G.length = (gvs G).flatten):=zH (Zaf (by rw [HGL.out];omega));have H:=zH h;clear h;have hr0:=hr.out;unfold Zat at hr0;rw [HGL.out] at hr0;by_cases hlong : 60 < G.length
 ·rw [if_pos (.inl hlong)] at hr0;subst hr0;clear hr;go_enter Tryz.func16,Tryz.ntmps16;go_wp2_with fail;go_ret;exact ⟨rfl,Below.refl _ _⟩
 ·have HR0:=zH hr0;clear hr0;go_enter Tryz.func16,Tryz.ntmps16;go_wp2_with fail;go_loopw [3,4] (fun v i wr=>∃ k N:Nat,k <= G.length /\ i = .int .i64 k /\ Hid (N = (flI G k).length) /\ N <= 10000 /\ ∃ B b,v = .slice B N b /\ Hid (wr.ownsRow w.heap.size 40 1 (.slice B N b) N (lcs (flI G k))) /\ Hid (Below w.heap.size w wr)) (fun _ i _=>G.length - (intOf i).toNat)
  case atStart=>exact ⟨0,0,by omega,rfl,zH (by rw [Zcs];rfl),by omega,none,0,rfl,zH (World.ownsRow_nil _ _ _ _),zH bR⟩
  case round=>
   obtain ⟨k,N,hk,rfl,HN,hN,B,b,rfl,HO,HB⟩:=hrel;by_cases hlt:k < G.length
   ·obtain ⟨bk,off,rfl,hbk,hc0⟩:=H.out.lies.gat hlt;have hc:wr.cell? ⟨bk,off + k,none⟩ = some (.slice G[k].1 G[k].2.2.length G[k].2.1):=(HB.out.cell (p:=⟨bk,off + k,none⟩) hbk).trans hc0;have hgk:=hg.out _ (yM hlt);have HNG:=zH (hnil.out _ (yM hlt));have HLL:=zH ((H.out.grp _ (yM hlt)).below HB.out);have HS:=zH (Zct hlt);have HTOT:Hid ((flI G (k + 1)).length <= (gvs G).flatten.length):=zH (by
     rw [HFL.out _ (by omega)];obtain ⟨r',hr'⟩:=Zet (gs:=gvs G) (k:=k + 1);rw [hr',List.length_append];omega)
    clear hc0;generalize G[k] = g at *
    obtain ⟨gA,gc,gl⟩:=g;simp only at *
    have HSL:Hid ((flI G (k + 1)).length = N + gl.length):=zH (by rw [HS.out,List.length_append,HN.out]);have hsz:w.heap.size <= wr.heap.size:=HB.out.size;by_cases hbig : 10000 < N + gl.length
    ·have hz:r = 5:=(by rw [<- HR0.out,if_pos (.inr (by have:=HTOT.out;rw [HSL.out] at this;omega))]);subst hz;clear HTOT HR0 hr;go_wp2_with fail;go_ret;exact ⟨rfl,HB.out⟩
    ·clear HTOT;go_wp2_with (at_builtin;refine Jf _ rfl (.tmp 24) (.tmp 28) _ rfl w.heap.size 40 i0 _ 1 24 Tryz.underlying22 TI.out TZ0.out TZ1.out TZ2.out rfl (by omega) (.slice B N b) N (lcs (flI G k)) rfl HO.out gA gl.length gc (lcs gl) rfl HNG.out HLL.out.lies (by simp) (by intro u hu;simp only [lcs,List.mem_map] at hu;obtain ⟨x,_,rfl⟩:=hu;rfl) (by unfold maxLen;omega) (by omega) hsz (N + gl.length) rfl ?_;intro A4 c4 w4 ho4 hg4 _);refine ⟨⟨k + 1,N + gl.length,by omega,by go_num,zH HSL.out.symm,by omega,A4,c4,rfl,zH ?_,zH (HB.out.grown hg4 hsz (fun k hk=>(HO.out.lt k (by simpa [Value.ownBlock] using hk)).1))⟩,by simp [intOf];omega⟩;rw [HS.out,lcs,List.map_append];exact ho4
   ·obtain rfl:k = G.length:=(by omega);have HT:Hid ((gvs G).flatten.length = N):=zH (by rw [<- HALL.out,<- HFL.out _ (by omega),HN.out]);have hR1:=HR0.out;rw [HT.out,if_neg (by omega)] at hR1;have HBAD:Hid (Vf (gvs G) = false -> r = 2):=zH (fun hb=>by rw [<- hR1,if_neg (by rw [hb];decide)]);have HGOOD:Hid (Vf (gvs G) = true -> r = 0):=zH (fun hb=>by rw [<- hR1,if_pos hb]);clear hR1 HR0 hr;have hsz:w.heap.size <= wr.heap.size:=HB.out.size;go_wp2_with fail;go_loop [5] (fun i=>∃ k:Nat,k <= G.length /\ i = .int .i64 k /\ Hid (∀ g ∈ (gvs G).take k,g ≠ [])) (fun i=>G.length - (intOf i).toNat)
    case atStart=>exact ⟨0,by omega,rfl,zH (by simp)⟩
    case round=>
     obtain ⟨k,hk,rfl,HNE⟩:=hrel;by_cases hlt:k < G.length
     ·obtain ⟨bk,off,rfl,hbk,hc0⟩:=H.out.lies.gat hlt;have hc:wr.cell? ⟨bk,off + k,none⟩ = some (.slice G[k].1 G[k].2.2.length G[k].2.1):=(HB.out.cell (p:=⟨bk,off + k,none⟩) hbk).trans hc0;have hgk:=hg.out _ (yM hlt);have hgk2:=HGK.out k hlt;have HEMP:Hid (G[k].2.2.length = 0 -> r = 2):=zH (fun he=>HBAD.out (Za8 (k:=k) (by rw [HGL.out];exact hlt) (by rw [hgk2];simpa using he)));have HNE2:Hid (G[k].2.2.length ≠ 0 -> ∀ g ∈ (gvs G).take (k + 1),g ≠ []):=zH (fun hne g hg'=>by
       rw [List.take_succ_eq_append_getElem (by rw [HGL.out];exact hlt),List.mem_append] at hg';rcases hg' with h' | h'
       ·exact HNE.out g h'
       ·rw [List.mem_singleton] at h';rw [h',hgk2];intro e;exact hne (by simpa using e))
      clear hgk2 HNE hc0;generalize G[k] = g at *
      obtain ⟨gA,gc,gl⟩:=g;simp only at *
      by_cases h0:gl.length = 0
      ·have hz:=HEMP.out h0;subst hz;have q0:((gl.length:Int) == 0) = true:=(by simp [h0]);clear HEMP HNE2 h0 HBAD HGOOD;go_wp2_with fail;go_ret;exact ⟨rfl,HB.out⟩
      ·have q0:((gl.length:Int) == 0) = false:=(by rw [beq_eq_false_iff_ne];omega);have HNE3:=zH (HNE2.out h0);clear HEMP HNE2;go_wp2_with fail;exact ⟨⟨k + 1,by omega,by go_num,HNE3⟩,by simp [intOf];omega⟩
     ·obtain rfl:k = G.length:=(by omega);have hAL:LL wr B (flI G G.length):=⟨Lies.of_own HO.out,fun x hx=>by
       obtain ⟨g,hg1,hg2⟩:=Zhh hx;exact ((H.out.grp g hg1).below HB.out).inn x hg2⟩
      have HC:=zH (ZdK B b (flI G G.length) wr hAL (by rw [<- HN.out];omega) (YS (gvs G).flatten) (zH (by rw [Zgs G _ (by omega),HALL.out])));rw [<- HN.out] at HC;have HE:Hid (Vf (gvs G) = YS (gvs G).flatten):=zH (by
       have:((gvs G).all fun g=>!g.isEmpty) = true:=by
        rw [List.all_eq_true];intro g hg';have:=HNE.out g (by rw [List.take_of_length_le (by rw [HGL.out];omega)];exact hg');simpa using this
       unfold Vf;rw [this,Bool.true_and])
      cases hv:YS (gvs G).flatten with
      | true=>
       rw [hv] at HC HE;have hz:=HGOOD.out HE.out;subst hz;clear hv HE HBAD HGOOD HNE;go_wp2_with fail;refine HC.out.mono ?_;rintro e w' ⟨rfl,m,rfl⟩;go_wp2_with fail;go_ret;exact ⟨rfl,ZcB HB.out m⟩
      | false=>
       rw [hv] at HC HE;have hz:=HBAD.out HE.out;subst hz;clear hv HE HBAD HGOOD HNE;go_wp2_with fail;refine HC.out.mono ?_;rintro e w' ⟨rfl,m,rfl⟩;go_wp2_with fail;go_ret;exact ⟨rfl,ZcB HB.out m⟩
theorem ZiM (a:Bool) (n d:Nat):∃ d',d' ≠ 0 /\ fq a n d = fq a n d':=by
 by_cases h:d = 0
 ·subst h;exact ⟨1,by decide,by unfold fq;rw [if_pos rfl,if_neg (by decide)]⟩
 ·exact ⟨d,h,rfl⟩
theorem ZbI (x:Fr) (p:Rat) (w:World) (hx:Fv w x p) (hN:x.N.length <= 9223372036854775807) (r:Int) (hr:Hid (Xw p = r)):Calls Tryz.prog 24 #[x.val] w fun e w'=>e = .returned (.int .i64 r) /\ Below w.heap.size w w':=by
 obtain ⟨n,hn⟩:∃ n,n = (vl x.N).toNat:=⟨_,rfl⟩;obtain ⟨d',d0,hd⟩:=ZiM x.neg n (vl x.D).toNat;have hp:p = fq x.neg n d':=by rw [<- hd,hn];exact hx.val.symm
 have HR:Hid (r = if n = 0 then 0 else if x.neg then -1 else 1):=zH (by rw [<- hr.out,hp,Zgp d0]);have HT:=zH (JJ x.A x.c x.N (w.alloc (.cells #[.bool x.neg,.slice x.A x.N.length x.c,.slice x.B x.D.length x.d] 28)) (hx.n.below (bR.alloc nR _)).lies (zH hx.n.dig) hx.n.cap hN n (zH (by rw [hn,Int.toNat_of_nonneg (Jv hx.n.dig)])));obtain ⟨xn,xA,xc,xN,xB,xd,xD⟩:=x;simp only at HR HT;clear hx hp hr hd d0 hn hN;by_cases h0:n = 0
 ·have hl:(nd n).length = 0:=by rw [h0,JE];rfl
  have HR1:Hid (r = 0):=zH (by rw [HR.out,if_pos h0]);rw [hl] at HT;clear HR hl h0;go_enter Tryz.func24,Tryz.ntmps24;go_wp2_with fail;refine HT.out.mono ?_;rintro e w' ⟨rfl,rfl⟩;go_wp2_with fail;go_ret;exact ⟨JN (by rw [HR1.out]),bR.alloc nR _⟩
 ·have hl:(nd n).length ≠ 0:=fun e=>h0 (Jr.1 e);have hq:(((nd n).length:Int) == 0) = false:=beq_eq_false_iff_ne.2 (by omega);cases xn with
  | true=>
   have HR1:Hid (r = -1):=zH (by rw [HR.out,if_neg h0];rfl);clear HR hl h0;go_enter Tryz.func24,Tryz.ntmps24;go_wp2_with fail;refine HT.out.mono ?_;rintro e w' ⟨rfl,rfl⟩;go_wp2_with fail;go_ret;exact ⟨JN (by rw [HR1.out]),bR.alloc nR _⟩
  | false=>
   have HR1:Hid (r = 1):=zH (by rw [HR.out,if_neg h0];rfl);clear HR hl h0;go_enter Tryz.func24,Tryz.ntmps24;go_wp2_with fail;refine HT.out.mono ?_;rintro e w' ⟨rfl,rfl⟩;go_wp2_with fail;go_ret;exact ⟨JN (by rw [HR1.out]),bR.alloc nR _⟩
theorem UF {w:World} {base sz n c:Nat} {e:TypeId} {A:Option Addr} {xs:List Value} (h:w.ownsRow base e sz (.slice A n c) n xs) (h0 : 0 < n):∃ g cs,A = some ⟨g,0,none⟩ /\ base <= g /\ w.heap[g]? = some (.cells cs e (0,0)):=by
 rcases h.2 with hz | ⟨g,cap,cur,e1,e2,e3,-⟩
 ·obtain ⟨hz,-⟩:=hz;injection hz with h1 h2 h3
  omega
 ·injection e1 with e1
  exact ⟨g,_,e1,e2,e3⟩
theorem QC {w:World} {A:Option Addr} {xs:List Value} (h:Lies w A xs) (K:Nat):Lies w A (xs.take K):=fun hl=>by
 obtain ⟨b,off,e,hb,hc⟩:=h (by rw [List.length_take] at hl;omega);refine ⟨b,off,e,hb,fun k v hk=>hc k v ?_⟩;have hk2:=(List.getElem?_eq_some_iff.1 hk).1;rw [<- List.take_append_drop K xs,List.getElem?_append_left hk2];exact hk
def Zdm (A:Option Addr) (c K:Nat):Option Addr:=if c = K then A else A.map (·.add K)
theorem QD {w:World} {A:Option Addr} {c:Nat} {xs:List Value} (h:Lies w A xs) (K:Nat) (hc0:xs.length <= c):Lies w (Zdm A c K) (xs.drop K):=fun hl=>by
 rw [List.length_drop] at hl;obtain ⟨b,off,e,hb,hc⟩:=h (by omega);refine ⟨b,off + K,by unfold Zdm;rw [if_neg (by omega),e];simp [Addr.add],hb,fun k v hk=>?_⟩;rw [List.getElem?_drop] at hk;rw [Nat.add_assoc];exact hc (K + k) v hk
theorem Zbj {A:Option Addr} {c K:Nat} (h:A = none -> c = 0):Zdm A c K = none -> c - K = 0:=fun e=>by
 unfold Zdm at e;split at e
 ·omega
 ·cases A with
  | none=>have:=h rfl;omega
  | some a=>cases e
theorem ZaM {t:TypeId} (e0:Tryz.prog.underlying t = some (.slice (Tryz.prog.elem t))) (hs:∀ W,(sizeOf (Tryz.prog.elem t)).run Tryz.prog W = .ok 1 W) (A:Option Addr) (l c K:Nat) (hK:K <= l) (hl:l <= c) (W:World):(Instr.sliceAt t (.slice A l c) none (some (.int .i64 (K:Int))) none).run Tryz.prog W = .ok (.slice A K c) W:=by
 rw [run_sliceAt_slice (h:=e0),run_slice_h (ht:=e0) (h0:=by omega) (h2:=by omega),hs];cases A with
 | none=>simp [Result.andThen,sliced]
 | some a=>obtain ⟨b,o,s⟩:=a;simp [Result.andThen,sliced,Addr.add]
theorem Ut {t:TypeId} (e0:Tryz.prog.underlying t = some (.slice (Tryz.prog.elem t))) (hs:∀ W,(sizeOf (Tryz.prog.elem t)).run Tryz.prog W = .ok 1 W) (A:Option Addr) (l c K:Nat) (z:Int) (hz:z = (K:Int)) (hK:K <= l) (W:World):(Instr.sliceAt t (.slice A l c) (some (.int .i64 z)) none none).run Tryz.prog W = .ok (.slice (Zdm A c K) (l - K) (c - K)) W:=by
 subst hz;rw [run_sliceAt_slice (h:=e0),run_slice_l (ht:=e0) (h0:=by omega) (h1:=by omega),hs];simp [Result.andThen,sliced,Zdm]
theorem Vg {w w':World} (h:w.grownBy w' none):Below w.heap.size w w':=⟨h.os,h.tape,h.output,h.size,fun k hk=>h.block k hk (by simp)⟩
abbrev mcs (Cs:List Cl):List Value:=Cs.map fun x=>.slice x.A x.m.length x.c
abbrev ZP (Cs:List Cl):List Value:=Cs.map fun x=>.slice x.B x.v.length x.d
structure RCs (w0 W:World) (base:Nat) (MA:Option Addr) (mc:Nat) (VA:Option Addr) (vc:Nat) (Cs:List Cl):Prop where
 mrow:W.ownsRow base 40 1 (.slice MA Cs.length mc) Cs.length (mcs Cs)
 vrow:W.ownsRow base 22 1 (.slice VA Cs.length vc) Cs.length (ZP Cs)
 mem:∀ x ∈ Cs,W.ownsRow base 3 1 (.slice x.A x.m.length x.c) x.m.length (ics x.m)
 vec:∀ x ∈ Cs,Lies w0 x.B (lcs x.v) ∨ (W.ownsRow base 40 1 (.slice x.B x.v.length x.d) x.v.length (lcs x.v) /\ ∀ g,blk x.B = some g -> blk MA ≠ some g)
 vn:∀ x ∈ Cs,x.B = none -> x.d = 0
 inn:∀ x ∈ Cs,∀ y ∈ x.v,InOk w0 y
theorem UJ {α β:Type} (f : α -> β):∀ (l:List α) (i:Nat),(l.eraseIdx i).map f = (l.map f).eraseIdx i
 | [],_=>rfl
 | _ :: _,0=>rfl
 | x :: l,i + 1=>by
  show f x :: (l.eraseIdx i).map f = f x :: (l.map f).eraseIdx i;rw [UJ f l i]
section
variable {w0 W W':World} {base mc vc:Nat} {MA VA:Option Addr} {Cs:List Cl}
theorem RCs.below (h:RCs w0 W base MA mc VA vc Cs) (hb:Below W.heap.size W W'):RCs w0 W' base MA mc VA vc Cs:=
 ⟨Jh h.mrow hb,Jh h.vrow hb,fun x hx=>Jh (h.mem x hx) hb,fun x hx=>by
  rcases h.vec x hx with h1 | ⟨h1,h2⟩
  ·exact .inl h1
  ·exact .inr ⟨Jh h1 hb,h2⟩,h.vn,h.inn⟩
theorem RCs.ll (h:RCs w0 W base MA mc VA vc Cs) (hb:Below w0.heap.size w0 W) {x:Cl} (hx:x ∈ Cs):LL W x.B x.v:=
 ⟨by
  rcases h.vec x hx with h1 | ⟨h1,-⟩
  ·exact h1.below hb
  ·exact Lies.of_own h1,fun y hy=>(h.inn x hx y hy).below hb⟩
theorem RCs.setM {g a c1:Nat} {A1:Option Addr} {m:List Int} {X:Cl} (h:RCs w0 W base (some ⟨g,0,none⟩) mc VA vc Cs) (hX:Cs[a]? = some X) (hm:W.ownsRow base 3 1 (.slice A1 m.length c1) m.length (ics m)) :
  RCs w0 (W.setCell ⟨g,a,none⟩ (.slice A1 m.length c1)) base (some ⟨g,0,none⟩) mc VA vc (Cs.set a { X with A:=A1,c:=c1,m:=m }):=by
 obtain ⟨ha,hXe⟩:=List.getElem?_eq_some_iff.1 hX;have hbt:BT W g 40:=BT.of_own h.mrow rfl;refine ⟨?_,?_,fun y hy=>?_,fun y hy=>?_,fun y hy=>?_,fun y hy=>?_⟩
 ·have h1:=(h.mrow.stored a (.slice A1 m.length c1)).1;have e:(mcs Cs).set a (.slice A1 m.length c1) = mcs (Cs.set a { X with A:=A1,c:=c1,m:=m }):=by simp [mcs,List.map_set]
  rw [e] at h1;rw [List.length_set];exact h1
 ·have e:ZP (Cs.set a { X with A:=A1,c:=c1,m:=m }) = ZP Cs:=by
   apply List.ext_getElem?;intro j;simp only [ZP,List.getElem?_map,List.getElem?_set];split
   ·rename_i e;subst e;rw [hX];rfl
   ·rfl
  rw [e,List.length_set];exact ownsRow_setCell_other h.vrow (fun e7=>(BT.of_own h.vrow e7).ne hbt (by decide) rfl) _
 ·rcases List.mem_or_eq_of_mem_set hy with hy | rfl
  ·exact ownsRow_setCell_other (h.mem y hy) (fun e7=>(BT.of_own (h.mem y hy) e7).ne hbt (by decide) rfl) _
  ·exact ownsRow_setCell_other hm (fun e7=>(BT.of_own hm e7).ne hbt (by decide) rfl) _
 ·have hv:∀ z ∈ Cs,Lies w0 z.B (lcs z.v) ∨ ((W.setCell ⟨g,a,none⟩ (.slice A1 m.length c1)).ownsRow base 40 1 (.slice z.B z.v.length z.d) z.v.length (lcs z.v) /\ ∀ k,blk z.B = some k -> blk (some ⟨g,0,none⟩) ≠ some k):=fun z hz=>by
   rcases h.vec z hz with h1 | ⟨h1,h2⟩
   ·exact .inl h1
   ·exact .inr ⟨ownsRow_setCell_other h1 (fun e7=>h2 g (by rw [<- Jo];exact e7) rfl) _,h2⟩
  rcases List.mem_or_eq_of_mem_set hy with hy | rfl
  ·exact hv y hy
  ·exact hv X (by rw [<- hXe];exact yM ha)
 ·rcases List.mem_or_eq_of_mem_set hy with hy | rfl
  ·exact h.vn y hy
  ·exact h.vn X (by rw [<- hXe];exact yM ha)
 ·rcases List.mem_or_eq_of_mem_set hy with hy | rfl
  ·exact h.inn y hy
  ·exact h.inn X (by rw [<- hXe];exact yM ha)
theorem RCs.setV {g a c1:Nat} {A1:Option Addr} {m:List Inn} {X:Cl} (h:RCs w0 W base MA mc (some ⟨g,0,none⟩) vc Cs) (hX:Cs[a]? = some X) (hm:W.ownsRow base 40 1 (.slice A1 m.length c1) m.length (lcs m)) (hs:∀ k,blk A1 = some k -> blk MA ≠ some k) (hn:A1 = none -> c1 = 0) (hi:∀ y ∈ m,InOk w0 y) :
  RCs w0 (W.setCell ⟨g,a,none⟩ (.slice A1 m.length c1)) base MA mc (some ⟨g,0,none⟩) vc (Cs.set a { X with B:=A1,d:=c1,v:=m }):=by
 obtain ⟨ha,hXe⟩:=List.getElem?_eq_some_iff.1 hX;have hbt:BT W g 22:=BT.of_own h.vrow rfl;refine ⟨?_,?_,fun y hy=>?_,fun y hy=>?_,fun y hy=>?_,fun y hy=>?_⟩
 ·have e:mcs (Cs.set a { X with B:=A1,d:=c1,v:=m }) = mcs Cs:=by
   apply List.ext_getElem?;intro j;simp only [mcs,List.getElem?_map,List.getElem?_set];split
   ·rename_i e;subst e;rw [hX];rfl
   ·rfl
  rw [e,List.length_set];exact ownsRow_setCell_other h.mrow (fun e7=>(BT.of_own h.mrow e7).ne hbt (by decide) rfl) _
 ·have h1:=(h.vrow.stored a (.slice A1 m.length c1)).1;have e:(ZP Cs).set a (.slice A1 m.length c1) = ZP (Cs.set a { X with B:=A1,d:=c1,v:=m }):=by simp [ZP,List.map_set]
  rw [e] at h1;rw [List.length_set];exact h1
 ·have hv:∀ z ∈ Cs,(W.setCell ⟨g,a,none⟩ (.slice A1 m.length c1)).ownsRow base 3 1 (.slice z.A z.m.length z.c) z.m.length (ics z.m):=fun z hz=>ownsRow_setCell_other (h.mem z hz) (fun e7=>(BT.of_own (h.mem z hz) e7).ne hbt (by decide) rfl) _;rcases List.mem_or_eq_of_mem_set hy with hy | rfl
  ·exact hv y hy
  ·exact hv X (by rw [<- hXe];exact yM ha)
 ·rcases List.mem_or_eq_of_mem_set hy with hy | rfl
  ·rcases h.vec y hy with h1 | ⟨h1,h2⟩
   ·exact .inl h1
   ·exact .inr ⟨ownsRow_setCell_other h1 (fun e7=>(BT.of_own h1 e7).ne hbt (by decide) rfl) _,h2⟩
  ·exact .inr ⟨ownsRow_setCell_other hm (fun e7=>(BT.of_own hm e7).ne hbt (by decide) rfl) _,hs⟩
 ·rcases List.mem_or_eq_of_mem_set hy with hy | rfl
  ·exact h.vn y hy
  ·exact hn
 ·rcases List.mem_or_eq_of_mem_set hy with hy | rfl
  ·exact h.inn y hy
  ·exact hi
theorem RCs.cut {MA' VA':Option Addr} {mc' vc' b:Nat} (h:RCs w0 W base MA mc VA vc Cs) (hb:Below W.heap.size W W') (hbl:b < Cs.length)
  (hm:W'.ownsRow base 40 1 (.slice MA' (Cs.length - 1) mc') (Cs.length - 1) ((mcs Cs).eraseIdx b)) (hv:W'.ownsRow base 22 1 (.slice VA' (Cs.length - 1) vc') (Cs.length - 1) ((ZP Cs).eraseIdx b)) (hf:∀ k,blk MA' = some k -> W.heap.size <= k):RCs w0 W' base MA' mc' VA' vc' (Cs.eraseIdx b):=by
 have hl:(Cs.eraseIdx b).length = Cs.length - 1:=List.length_eraseIdx_of_lt hbl;have hin:∀ x ∈ Cs.eraseIdx b,x ∈ Cs:=fun x hx=>List.mem_of_mem_eraseIdx hx;refine ⟨?_,?_,fun x hx=>Jh (h.mem x (hin x hx)) hb,fun x hx=>?_,fun x hx=>h.vn x (hin x hx),fun x hx=>h.inn x (hin x hx)⟩
 ·rw [hl,show mcs (Cs.eraseIdx b) = (mcs Cs).eraseIdx b from UJ _ _ _];exact hm
 ·rw [hl,show ZP (Cs.eraseIdx b) = (ZP Cs).eraseIdx b from UJ _ _ _];exact hv
 ·rcases h.vec x (hin x hx) with h1 | ⟨h1,h2⟩
  ·exact .inl h1
  ·refine .inr ⟨Jh h1 hb,fun g e e2=>?_⟩;have k1:=hf g e2;have k2:=(h1.lt g (by rw [Jo];exact e)).2;omega
theorem RCs.snoc {MA' VA':Option Addr} {mc' vc' n:Nat} {x:Cl} (h:RCs w0 W base MA mc VA vc Cs) (hn:Cs.length = n) (hk:∀ b,b < W.heap.size -> blk MA ≠ some b -> blk VA ≠ some b -> W'.heap[b]? = W.heap[b]?)
  (hm:W'.ownsRow base 40 1 (.slice MA' (n + 1) mc') (n + 1) (mcs Cs ++ [.slice x.A x.m.length x.c])) (hv:W'.ownsRow base 22 1 (.slice VA' (n + 1) vc') (n + 1) (ZP Cs ++ [.slice x.B x.v.length x.d])) (hx:W'.ownsRow base 3 1 (.slice x.A x.m.length x.c) x.m.length (ics x.m))
  (hold:∀ y ∈ Cs ++ [x],Lies w0 y.B (lcs y.v)) (hxn:x.B = none -> x.d = 0) (hxi:∀ y ∈ x.v,InOk w0 y):RCs w0 W' base MA' mc' VA' vc' (Cs ++ [x]):=by
 have hl:(Cs ++ [x]).length = n + 1:=by simp [hn]
 refine ⟨by rw [hl];simpa [mcs] using hm,by rw [hl];simpa [ZP] using hv,fun y hy=>?_,fun y hy=>.inl (hold y hy),fun y hy=>?_,fun y hy=>?_⟩
 ·rcases List.mem_append.1 hy with hy | hy
  ·obtain ⟨r1,r2⟩:=h.mem y hy;refine ⟨r1,?_⟩;rcases r2 with e0 | ⟨g,cap,cur,e0,hg,hgg,rest⟩
   ·exact .inl e0
   ·have hbt:BT W g 3:=⟨_,_,hgg⟩;exact .inr ⟨g,cap,cur,e0,hg,(hk g hbt.lt (fun e=>(BT.of_own h.mrow (by rw [Jo];exact e)).ne hbt (by decide) rfl) (fun e=>(BT.of_own h.vrow (by rw [Jo];exact e)).ne hbt (by decide) rfl)).trans hgg,rest⟩
  ·rw [List.mem_singleton] at hy;subst hy;exact hx
 ·rcases List.mem_append.1 hy with hy | hy
  ·exact h.vn y hy
  ·rw [List.mem_singleton] at hy;subst hy;exact hxn
 ·rcases List.mem_append.1 hy with hy | hy
  ·exact h.inn y hy
  ·rw [List.mem_singleton] at hy;subst hy;exact hxi
theorem RCs.nil:RCs w0 W base none 0 none 0 []:=⟨World.ownsRow_nil _ _ _ _,World.ownsRow_nil _ _ _ _,by simp,by simp,by simp,by simp⟩
end
end Go.Proofs.YtcjicjfbippmnaaGreat
