/- TalkBetter -/
import Derived.Test.YtcjicjfbippmnaaGreatMTBett39
import Derived.OpenShut
import Derived.ProofKit
set_option maxRecDepth 100000
set_option maxHeartbeats 32000000
namespace Go.Proofs.YtcjicjfbippmnaaGreat
open Go.RowKit Ear

structure CtS (w:World) (o v:Int) (T:Tbl) (W:World):Prop where
 box:∃ A c L,W.heap[w.heap.size + 1]? = some (.cells #[.int .i64 o,.int .i64 v,.slice A (L:List Gm).length c] 84 (0,0)) /\ GLo W w.heap.size A c L /\ Jd L = T
 res:W.heap[w.heap.size]? = some (.cells #[.int .i64 0,.int .i64 0,.slice none 0 0] 84 (0,0))
 bel:RowKit.Below w.heap.size w W
theorem CtS.below {w:World} {o v:Int} {T:Tbl} {W W':World} (h:CtS w o v T W) (hb:RowKit.Below W.heap.size W W'):CtS w o v T W':=by
 obtain ⟨A,c,L,h1,h2,h3⟩:=h.box;exact ⟨⟨A,c,L,(hb.block _ (aE h1).1).trans h1,h2.below hb,h3⟩,(hb.block _ (aE h.res).1).trans h.res,h.bel.trans (hb.mono h.bel.size)⟩
theorem LLo.blockT {w w':World} {base c:Nat} {A:Option Addr} {L:List Inn} (h:LLo w base A c L) (hs:w.heap.size <= w'.heap.size) (hk:∀ b,BT w b 3 ∨ BT w b 40 -> w'.heap[b]? = w.heap[b]?):LLo w' base A c L:=by
 refine ⟨?_,fun x hx=>(h.inn x hx).block hs fun b hb=>hk b (.inl hb)⟩;have hrow:=h.row;obtain ⟨q1,q2⟩:=hrow;refine ⟨q1,?_⟩;rcases q2 with e | ⟨g,cap,cur,e,hb,hg,rest⟩
 ·exact .inl e
 ·exact .inr ⟨g,cap,cur,e,hb,(hk g (.inr ⟨_,_,hg⟩)).trans hg,rest⟩
theorem LLo.grownG {w w':World} {base c:Nat} {A:Option Addr} {L:List Inn} (h:LLo w base A c L) {r:Option Nat} (hg:w.grownBy w' r) (hr:∀ k,r = some k -> BT w k 114):LLo w' base A c L:=
 h.blockT hg.size fun b hb=>by
  rcases hb with hb | hb
  ·exact hg.block b hb.lt fun e=>hb.ne (hr b e.symm) (by decide) rfl
  ·exact hg.block b hb.lt fun e=>hb.ne (hr b e.symm) (by decide) rfl
theorem ZdC (o:Nat) (v:Int) (A:Option Addr) (c:Nat) (x:Inn) (w:World) (h:LL w A [x]) (ho1 : 1 <= o) (ho2:o <= 4) (hs:x.2.2.length <= 600) :
  Calls Tryz.prog 53 #[.int .i64 o,.int .i64 v,.slice A 1 c] w fun e w'=>∃ A' c' L',e = .returned (.agg #[.int .i64 o,.int .i64 v,.slice A' (L':List Gm).length c']) /\ GLo w' w.heap.size A' c' L' /\ Jd L' = ZaU o x.2.2 (x.2.2.length + 1) /\ RowKit.Below w.heap.size w w':=by
 obtain ⟨W,hW⟩:∃ W:World,W = (w.alloc (.cells #[.int .i64 0,.int .i64 0,.slice none 0 0] 84)).alloc (.cells #[.int .i64 o,.int .i64 v,.slice none 0 0] 84):=⟨_,rfl⟩;have HB0:Hid (RowKit.Below w.heap.size w W):=zH (by rw [hW];exact al2 w _ _);have HC0:Hid (CtS w o v [] W):=zH ⟨⟨none,0,[],by rw [hW];exact Zer _ _ _,GLo.nil _ _,rfl⟩,by rw [hW];exact Zes _ _ _,HB0.out⟩;have HLL:=zH h;clear h;go_enter Tryz.func53,Tryz.ntmps53;go_wp2_with fail;rw [<- hW];clear hW;go_loopw [8] (fun i wr=>∃ k:Nat,k <= 1 /\ i = .int .i64 k /\ Hid (CtS w o v (if k = 0 then [] else ZaU o x.2.2 (x.2.2.length + 1)) wr) ) (fun i _=>1 - (intOf i).toNat)
 case atStart=>exact ⟨0,by omega,rfl,zH (by rw [if_pos rfl];exact HC0.out)⟩
 case round=>
  obtain ⟨k,hk,rfl,HC⟩:=hrel;obtain ⟨Wr,rfl⟩:∃ X,X = wr:=⟨_,rfl⟩;by_cases hlt:k < 1
  ·obtain rfl:k = 0:=by omega
   have HCW:Hid (CtS w o v [] Wr):=zH (by have:=HC.out;rwa [if_pos rfl] at this);clear HC HC0 HB0;have HLW:=zH (HLL.out.below HCW.out.bel);clear HLL;obtain ⟨bk,off,rfl,hbk,hcw⟩:=HLW.out.lies.lat (k:=0) (by simp);have HX:=zH (HLW.out.inn x (by simp));have hcw0:Wr.cell? ⟨bk,off,none⟩ = some (.slice x.1 x.2.2.length x.2.1):=(by simpa using hcw);obtain ⟨XA,Xc,s⟩:=x;simp only at *
   clear hcw;go_wp2_with fail;refine (Zf9 o XA Xc s Wr HX.out.1 (fun e=>(HX.out.2.1 e).1) ho1 ho2 hs (zH HX.out.2.2.2.2)).mono ?_;rintro e w1 ⟨A9,c9,L9,rfl,hv9,hl9,hb9⟩;have HC1:=zH (HCW.out.below hb9);have HL9:=zH hl9;have hlen9:L9.length = s.length + 1:=(by have:=congrArg List.length hv9.out;simpa using this);have HLEN:=zH hlen9;have hl9m:L9.length <= 1000:=(by omega);clear hl9 hb9 hlen9 HCW HLW;go_wp2_with fail;go_loopw [10] (fun i wr=>∃ j:Nat,j <= L9.length /\ i = .int .i64 j /\ Hid (CtS w o v (ZaU o s j) wr) /\ Hid (LLo wr Wr.heap.size A9 c9 L9)  ) (fun i _=>L9.length - (intOf i).toNat)
   case atStart=>exact ⟨0,by omega,rfl,HC1,HL9⟩
   case round=>
    obtain ⟨j,hj,rfl,HCj,HL⟩:=hrel;obtain ⟨V,rfl⟩:∃ X,X = wr:=⟨_,rfl⟩;by_cases hjl:j < L9.length
    ·obtain ⟨g9,o9,rfl,hg9,hcg⟩:=HL.out.lies.lat hjl;have HXJ:=zH (HL.out.inn _ (yM hjl));have HG:Hid (L9[j].2.2 = Jr o s j):=zH (by
      have h1:=Q8 hjl;rw [hv9.out,List.getElem?_map,List.getElem?_range (by rw [<- HLEN.out];exact hjl)] at h1;exact h1.symm)
     obtain ⟨GA,Gc,GL,hbox,hglo,htb⟩:=HCj.out.box;have HBOX:=zH hbox;have HGLO:=zH hglo;have HTB:=zH htb;have c7:V.cell? ⟨w.heap.size + 1,2,none⟩ = some (.slice GA GL.length Gc):=(cR 2 hbox).trans rfl;have f7:V.frozen? ⟨w.heap.size + 1,2,none⟩ = false:=Jm hbox 2;have HRW:Hid (∀ y ∈ GL,y.1.2.2.length = o /\ 0 <= y.2 /\ y.2 <= 1000):=zH (fun y hy=>by
      have h1:(y.1.2.2,y.2) ∈ ZaU o s j:=(by rw [<- htb];exact List.mem_map_of_mem (f:=fun g:Gm=>(g.1.2.2,g.2)) hy);have h2:=ZbE ho1 s j (by rw [<- HLEN.out];exact hj) _ h1;simp only at h2;exact ⟨h2.1,by omega,by omega⟩)
     have hgl:GL.length <= 1000:=(by have:=Zdl o s j;rw [<- htb] at this;simp at this;omega);clear hbox hglo htb;generalize L9[j] = X9 at *
     obtain ⟨JA,Jc,jl⟩:=X9;simp only at *
     have hjo:jl.length = o:=(by rw [HG.out];exact JQ ho1 (by rw [<- HLEN.out];exact hjl));have HP:=zH (Zia w.heap.size GA JA Gc Jc GL jl 1 V.drew (HGLO.out.below (RowKit.Below.refl _ V).drew) (HXJ.out.below (RowKit.Below.refl _ V).drew).1.1 (fun e=>(HXJ.out.1.2.1 e).1) (HCj.out.bel.size) (zH (fun y hy=>by rw [(HRW.out y hy).1,hjo])) (zH (fun y hy=>by have:=HRW.out y hy;omega)) (by omega) (by omega) (by omega) (zH HXJ.out.1.2.2.2.2));have HBTb:Hid (BT V (w.heap.size + 1) 84):=zH ⟨_,_,HBOX.out⟩;have HBTg:Hid (∀ b,blk GA = some b -> BT V b 114 /\ w.heap.size <= b):=zH (fun b hb=>⟨BT.of_own HGLO.out.row (by rw [Jo];exact hb),(HGLO.out.row.lt b (by rw [Jo];exact hb)).1⟩);have HBTi:Hid (BT V g9 40):=zH (BT.of_own HL.out.row rfl);clear hjo;go_upto_region 9 with fail;refine Xn (S:=fun w'=>w'.cell? ⟨w.heap.size + 1,2,none⟩ = some (.slice GA GL.length Gc) /\ w'.cell? ⟨g9,o9 + j,none⟩ = some (.slice JA jl.length Jc)) 8 (by kernel_rfl) (by kernel_rfl) ⟨c7,hcg⟩ (fun hd=>?_);simp only [List.pop_toArray,List.dropLast_cons_cons,List.dropLast_singleton];iterate 6 (((refine Jb (v:=?_) rfl (by kernel_rfl) (fun _ _ _ h=>h) ⟨by rfl,?_⟩ hd ?_;rotate_left;· intro w' sw;obtain ⟨s1,s2⟩:=sw;go_simp;try with_reducible rfl);simp only [zA,zB,zC]))
     refine Jh 6 rfl (by kernel_rfl) rfl (fun K hK=>?_);go_simp;refine HP.out.mono ?_;rintro e w2 ⟨A2,c2,L2,rfl,hL2,hT2,hg2⟩;have HL2:=zH hL2;have hne7:some (w.heap.size + 1) ≠ blk GA:=fun e=>(HBTg.out _ e.symm).1.ne HBTb.out (by decide) rfl;have hne9:some g9 ≠ blk GA:=fun e=>(HBTg.out _ e.symm).1.ne HBTi.out (by decide) rfl;have HG2:Hid (V.grownBy w2 (blk GA)):=zH ⟨hg2.os,hg2.tape,hg2.output,hg2.size,hg2.block⟩;have hbx2:w2.heap[w.heap.size + 1]? = some (.cells #[.int .i64 o,.int .i64 v,.slice GA GL.length Gc] 84 (0,0)):=(HG2.out.block _ HBTb.out.lt hne7).trans HBOX.out;have HBX2:=zH hbx2;have d7:w2.cell? ⟨w.heap.size + 1,2,none⟩ = some (.slice GA GL.length Gc):=(cR 2 hbx2).trans rfl;have k7:w2.frozen? ⟨w.heap.size + 1,2,none⟩ = false:=Jm hbx2 2;have d9:w2.cell? ⟨g9,o9 + j,none⟩ = some (.slice JA jl.length Jc):=(World.cell?_of_block (a:=⟨g9,o9 + j,none⟩) (HG2.out.block _ hg9 hne9)).trans hcg;have HRES2:Hid (w2.heap[w.heap.size]? = some (.cells #[.int .i64 0,.int .i64 0,.slice none 0 0] 84 (0,0))):=zH ((HG2.out.block _ (aE HCj.out.res).1 (fun e=>(HBTg.out _ e.symm).1.ne ⟨_,_,HCj.out.res⟩ (by decide) rfl)).trans HCj.out.res);have HB2:Hid (RowKit.Below w.heap.size w w2):=zH (HCj.out.bel.grown HG2.out HCj.out.bel.size (fun b e=>(HBTg.out b e).2));have HL9':Hid (LLo w2 Wr.heap.size (some ⟨g9,o9,none⟩) c9 L9):=zH (HL.out.grownG HG2.out (fun b e=>(HBTg.out b e).1));clear hL2 hg2 hne7 hne9 hbx2;go_simp;refine hK.out _ _ ⟨d7,d9⟩ (fun hd=>?_);clear hK K
     ((refine Jb (v:=?_) rfl (by kernel_rfl) (fun _ _ _ h=>h) ⟨by rfl,?_⟩ hd ?_;rotate_left;· intro w' sw;obtain ⟨s1,s2⟩:=sw;go_simp;try with_reducible rfl);simp only [zA,zB,zC])
     refine wpAnyH_done (by kernel_rfl) ?_ _;refine PopQ.last rfl rfl (fun K hK=>?_);go_simp;refine hK _ _ ?_;clear hK K;go_wp2_with fail;have hbX:∀ b,b ≠ w.heap.size + 1 -> (w2.setCell ⟨w.heap.size + 1,2,none⟩ (.slice A2 L2.length c2)).heap[b]? = w2.heap[b]?:=fun b hb=>RowKit.Below.heap_setCell w2 _ _ b hb;have hbt:BT w2 (w.heap.size + 1) 84:=⟨_,_,HBX2.out⟩;have hset:=JM HBX2.out 2 (.slice A2 L2.length c2);refine ⟨⟨j + 1,by omega,by go_num,zH ⟨⟨A2,c2,L2,hset.trans rfl,?_,?_⟩,?_,?_⟩,zH ?_⟩,by simp [intOf];omega⟩
     ·refine HL2.out.block (by simp [World.setCell]) (fun b hb=>hbX b ?_);rcases hb with hb | hb
      ·exact hb.ne hbt (by decide)
      ·exact hb.1.ne hbt (by decide)
     ·rw [hT2,HTB.out,HG.out];rfl
     ·exact (hbX _ (by omega)).trans HRES2.out
     ·exact HB2.out.setCell (by show w.heap.size <= w.heap.size + 1;omega) _
     ·refine HL9'.out.blockT (by simp [World.setCell]) (fun b hb=>hbX b ?_);rcases hb with hb | hb
      ·exact hb.ne hbt (by decide)
      ·exact hb.ne hbt (by decide)
    ·obtain rfl:j = L9.length:=(by omega);go_wp2_with fail;exact ⟨⟨1,by omega,by go_num,zH (by rw [if_neg (by decide),<- HLEN.out];exact HCj.out)⟩,by simp [intOf]⟩
  ·obtain rfl:k = 1:=by omega
   have HCW:Hid (CtS w o v (ZaU o x.2.2 (x.2.2.length + 1)) Wr):=zH (by have:=HC.out;rwa [if_neg (by decide)] at this);obtain ⟨GA,Gc,GL,hbox,hglo,htb⟩:=HCW.out.box;have HRES:=zH HCW.out.res;have c0:=(cR 0 hbox).trans rfl;have c1:=(cR 1 hbox).trans rfl;have c2:=(cR 2 hbox).trans rfl;have d0:=(cR 0 HRES.out).trans rfl;have d1:=(cR 1 HRES.out).trans rfl;have d2:=(cR 2 HRES.out).trans rfl;have f0:=Jm HRES.out 0;have f1:=Jm HRES.out 1;have f2:=Jm HRES.out 2;have HGLO:=zH hglo;have HTB:=zH htb;clear hbox hglo htb HC HC0 HLL HB0;go_wp2_with fail;have hr6:=ZaR HRES.out (.int .i64 o) (.int .i64 v) (.slice GA GL.length Gc);have g0:=(cR 0 hr6).trans rfl;have g1:=(cR 1 hr6).trans rfl;have g2:=(cR 2 hr6).trans rfl;refine bodyPost_ret (v:=.agg #[.int .i64 o,.int .i64 v,.slice GA GL.length Gc]) (by simp [results,Tryz.results53,go_sem,g0,g1,g2]) rfl ?_;have hbt:BT Wr w.heap.size 84:=⟨_,_,HRES.out⟩;refine ⟨GA,Gc,GL,rfl,HGLO.out.block (by simp [World.setCell]) (fun b hb=>?_),HTB.out,((HCW.out.bel.setCell nR _).setCell nR _).setCell nR _⟩;have hne:b ≠ w.heap.size:=by
    rcases hb with hb | hb
    ·exact hb.ne hbt (by decide)
    ·exact hb.1.ne hbt (by decide)
   rw [RowKit.Below.heap_setCell _ _ _ b hne,RowKit.Below.heap_setCell _ _ _ b hne,RowKit.Below.heap_setCell _ _ _ b hne]
section
variable {w0 w w':World} {p:Nat} {o v:Int} {A SA NA SA' NA':Option Addr} {c sc nc sc' nc':Nat} {L:List Gm} {S S':List Inn} {Ns Ns':List Int}
end
def Zik (o:Nat) (v:Int) (T:Tbl) (s:List Int) (n:Int):Int:=if 500 < s.length then 5 else if Xx 1 v s = true then (if 1 <= n /\ n <= 1000 then Yb o v (Yv o T s n) else 2) else 2
end Go.Proofs.YtcjicjfbippmnaaGreat
namespace Go.Proofs.YtcjicjfbippmnaaGreat
open Go.RowKit Ear

theorem LrI.btp {w:World} {base p cap:Nat} {B:Option Addr} {Ts:List TT} (h:LrI w base p B cap Ts):BT w p 157:=⟨_,_,h.cell⟩
theorem LrI.btB {w:World} {base p cap:Nat} {B:Option Addr} {Ts:List TT} (h:LrI w base p B cap Ts):∀ k,blk B = some k -> BT w k 84:=fun k hk=>BT.of_own (v:=.slice B Ts.length cap) h.row (by rw [<- hk];cases B <;> rfl)
theorem LrI.geB {w:World} {base p cap:Nat} {B:Option Addr} {Ts:List TT} (h:LrI w base p B cap Ts) (hn : 0 < Ts.length):∀ k,blk B = some k -> base <= k:=fun k hk=>by
 obtain ⟨g,cap',hv,hg,_⟩:=h.row.form hn;injection hv with e1
 subst e1;have hk':some g = some k:=hk;injection hk' with e2
 omega
def Zgc (on:Nat) (T:Tbl) (cs:List (List Int × Int)):List Tbl:=(List.range (cs.length + 1)).map fun k=>Zd0 on T (cs.take k)
theorem Zeu (on:Nat) (T:Tbl) (cs:List (List Int × Int)) (x:List Int × Int):Zgc on T (cs ++ [x]) = Zgc on T cs ++ [Yv on (Zd0 on T cs) x.1 x.2]:=by
 unfold Zgc;rw [List.length_append,List.length_cons,List.length_nil,List.range_succ,List.map_append];congr 1
 ·apply List.map_congr_left;intro k hk;rw [List.mem_range] at hk;rw [List.take_append_of_le_length (by omega)]
 ·show [Zd0 on T ((cs ++ [x]).take (cs.length + 1))] = _;rw [List.take_of_length_le (by simp),ZfP]
theorem Zgo (on:Nat) (T:Tbl) (cs:List (List Int × Int)):(Zgc on T cs).length = cs.length + 1:=by simp [Zgc]
theorem UI (on:Nat) (T:Tbl) (cs:List (List Int × Int)) (Ts:List TT) (t:TT) (h:(Ts ++ [t]).map (fun x=>Jd x.L) = Zgc on T cs):Jd t.L = Zd0 on T cs /\ Ts.length = cs.length:=by
 have h1:=congrArg List.length h;rw [Zgo] at h1;simp at h1;refine ⟨?_,h1⟩;have h2:=congrArg (fun l=>l[cs.length]?) h;simp only [List.map_append,List.map_cons,List.map_nil] at h2;rw [List.getElem?_append_right (by simp;omega)] at h2;unfold Zgc at h2;simp [h1] at h2;exact h2
structure PgL (w:World) (base p on:Nat) (v:Int) (T:Tbl) (cs:List (List Int × Int)):Prop where
 ex:∃ B cap Ts t,LrI w base p B cap (Ts ++ [t]) /\ (∀ x ∈ Ts ++ [t],x.o = (on:Int) /\ x.v = v) /\ (Ts ++ [t]).map (fun x=>Jd x.L) = Zgc on T cs
 le:base <= p
def Tlr (w w':World) (base p:Nat):Prop:=∃ q,Two w w' p q /\ BT w p 157 /\ ∀ k,q = some k -> BT w k 84 /\ base <= k
theorem PgL.below {w w':World} {base p on:Nat} {v:Int} {T:Tbl} {cs:List (List Int × Int)} (h:PgL w base p on v T cs) (hb:RowKit.Below w.heap.size w w'):PgL w' base p on v T cs:=by
 obtain ⟨B,cap,Ts,t,h1,h2,h3⟩:=h.ex;exact ⟨⟨B,cap,Ts,t,h1.below hb,h2,h3⟩,h.le⟩
theorem PgL.ok {w:World} {base p on:Nat} {v:Int} {T:Tbl} {cs:List (List Int × Int)} (h:PgL w base p on v T cs):∀ k,k <= cs.length -> Yb on v (Zd0 on T (cs.take k)) = 0:=fun k hk=>by
 obtain ⟨B,cap,Ts,t,h1,h2,h3⟩:=h.ex;have h4:=(UI _ _ _ _ _ h3).2;have hk2:k < (Ts ++ [t]).length:=by simp;omega
 have h5:=congrArg (fun l=>l[k]?) h3;unfold Zgc at h5;simp only [List.getElem?_map] at h5;rw [gE hk2,List.getElem?_range (by omega)] at h5;simp only [Option.map_some,Option.some.injEq] at h5;have h6:=h1.tab _ (yM hk2);have h7:=h2 _ (yM hk2);rw [<- h5,<- h7.1,<- h7.2];exact h6.ok
theorem PgL.cor {w:World} {base p on:Nat} {v:Int} {T:Tbl} {cs:List (List Int × Int)} (h:PgL w base p on v T cs) (hb:base <= w.heap.size) (hlen:cs.length < 200) {XA:Option Addr} {Xc:Nat} {s:List Int} (hI:InOk w (XA,Xc,s)) (n r:Int) (hr:Hid (Zik on v (Zd0 on T cs) s n = r)) :
  Calls Tryz.prog 43 #[.pointer (some ⟨p,0,none⟩),.slice XA s.length Xc,.int .i64 n] w fun e w'=>e = .returned (.int .i64 r) /\ PgL w' base p on v T (if r = 0 then cs ++ [(s,n)] else cs) /\ Tlr w w' base p:=by
 have hok:=h.ok cs.length nR;rw [List.take_length] at hok;have hz:=(JO.1 hok).2.1;have hle:=h.le;obtain ⟨B,cap,Ts,t,h1,h2,h3⟩:=h.ex;obtain ⟨h4,h5⟩:=UI _ _ _ _ _ h3;have ht:=h2 t (by simp);have hT:Ts.length < 200:=by omega
 have hbp:=h1.btp;have hbB:=h1.btB;have hgB:=h1.geB (by simp);have bad:r ≠ 0 -> (Calls Tryz.prog 43 #[.pointer (some ⟨p,0,none⟩),.slice XA s.length Xc,.int .i64 n] w fun e w'=>e = .returned (.int .i64 r) /\ Below w.heap.size w w') -> Calls Tryz.prog 43 #[.pointer (some ⟨p,0,none⟩),.slice XA s.length Xc,.int .i64 n] w fun e w'=>e = .returned (.int .i64 r) /\ PgL w' base p on v T (if r = 0 then cs ++ [(s,n)] else cs) /\ Tlr w w' base p:=fun h0 hc=>
  hc.mono fun e w' ⟨he,hbl⟩=>⟨he,by rw [if_neg h0];exact h.below hbl,none,Two.of_below hbl,hbp,fun k e=>by cases e⟩
 by_cases h50 : 500 < s.length
 ·have e5:r = 5:=by rw [<- hr.out];unfold Zik;rw [if_pos h50]
  subst e5;exact bad (by decide) (Qk base p cap on v B Ts t XA Xc s n w h1 ht.1 ht.2 hI (by omega) 5 (zH (by unfold Zh3;rw [if_pos h50])) (by decide))
 ·by_cases ha:Xx 1 v s = true
  ·by_cases hnn : 1 <= n /\ n <= 1000
   ·have hrr:Yb on v (Yv on (Zd0 on T cs) s n) = r:=(by rw [<- hr.out];unfold Zik;rw [if_neg h50,if_pos ha,if_pos hnn]);refine (Q3 base p cap on v B Ts t XA Xc s n w h1 hb hle ht.1 ht.2 hI (by omega) ha hnn hT).mono ?_;rintro e w' ⟨T1,hp,he,hif⟩;have hokt:Yb on v (Jd t.L) = 0:=(by rw [h4];exact hok);have herr:=ZiV hz ha hnn.1 hokt hp;rw [h4,hrr] at herr;rw [h4,herr] at he hif;refine ⟨he,?_,?_⟩
    ·by_cases h0:r = 0
     ·rw [if_pos h0] at hif ⊢;obtain ⟨B',cap',t2,hL,ho,hv,hperm,hTwo,hB'⟩:=hif;refine ⟨⟨B',cap',Ts ++ [t],t2,hL,fun x hx=>?_,?_⟩,hle⟩
      ·rcases List.mem_append.1 hx with hx | hx
       ·exact h2 x hx
       ·rw [List.mem_singleton] at hx;subst hx;exact ⟨ho,hv⟩
      ·have hok2:=(hL.tab t2 (by simp)).ok;rw [ho,hv] at hok2;rw [List.map_append,h3,Zeu];congr 1;show [Jd t2.L] = _;rw [ZiU hz ha hnn.1 hok (by exact hp) hperm hok2]
     ·rw [if_neg h0] at hif ⊢;exact h.below hif
    ·by_cases h0:r = 0
     ·rw [if_pos h0] at hif;obtain ⟨B',cap',t2,hL,ho,hv,hperm,hTwo,hB'⟩:=hif;exact ⟨blk B,hTwo,hbp,fun k hk=>⟨hbB k hk,hgB k hk⟩⟩
     ·rw [if_neg h0] at hif;exact ⟨none,Two.of_below hif,hbp,fun k e=>by cases e⟩
   ·have e2:r = 2:=(by rw [<- hr.out];unfold Zik;rw [if_neg h50,if_pos ha,if_neg hnn]);subst e2;exact bad (by decide) (ZaM base p cap on v B Ts t XA Xc s n w h1 ht.1 ht.2 hI (by omega) ha (by omega) hnn)
  ·have e2:r = 2:=by rw [<- hr.out];unfold Zik;rw [if_neg h50,if_neg ha]
   subst e2;exact bad (by decide) (Qk base p cap on v B Ts t XA Xc s n w h1 ht.1 ht.2 hI (by omega) 2 (zH (by unfold Zh3;rw [if_neg h50,if_neg ha])) (by decide))
theorem PgL.tab {w:World} {base p on:Nat} {v:Int} {T:Tbl} {cs:List (List Int × Int)} (h:PgL w base p on v T cs) (hlen:cs.length < 200) :
  Calls Tryz.prog 47 #[.pointer (some ⟨p,0,none⟩)] w fun e w'=>∃ A c L,e = .returned (.tuple #[.agg #[.int .i64 (on:Int),.int .i64 v,.slice A (L:List Gm).length c],.int .i64 0]) /\ GLo w' w.heap.size A c L /\ Jd L = Zd0 on T cs /\ RowKit.Below w.heap.size w w':=by
 obtain ⟨B,cap,Ts,t,h1,h2,h3⟩:=h.ex;obtain ⟨h4,h5⟩:=UI _ _ _ _ _ h3;have ht:=h2 t (by simp);refine (QF base p cap B Ts t w h1 (by omega)).mono ?_;rintro e w' ⟨A,c,L,he,hg,htb,hb⟩;rw [ht.1,ht.2] at he;exact ⟨A,c,L,he,hg,htb.trans h4,hb⟩
structure Fz (w:World) (x:Fr) (z:Int):Prop where
 ok:FrOk w x
 neg:x.neg = decide (z < 0)
 num:x.N = nd z.natAbs
 den:x.D = []
theorem Fz.boxed {w:World} {x:Fr} {z:Int} {k:Nat} (h:Fz w x z) (hb:Bx w k) (v0 v1 v2:Value):Fz (((w.setCell ⟨k,0,none⟩ v0).setCell ⟨k,1,none⟩ v1).setCell ⟨k,2,none⟩ v2) x z:=⟨h.ok.boxed hb v0 v1 v2,h.neg,h.num,h.den⟩
def Zj9 (z:Int) (w:World) (e:Ending) (w':World):Prop:=∃ x:Fr,e = .returned x.val /\ Fz w' x z /\ Below w.heap.size w w'
theorem RetFr.fz {b:Bool} {n:Nat} {z:Int} {w w':World} {e:Ending} (h:RetFr b n 1 w e w') (hb:b = decide (z < 0)) (hn:n = z.natAbs):Zj9 z w e w':=by
 obtain ⟨x,he,hx,h1,h2,h3,h4⟩:=h;exact ⟨x,he,⟨hx,h1.trans hb,by rw [h2,hn],by rw [h3];rfl⟩,h4⟩
theorem Zh6 (z:Int) (w:World) (h1 : -9223372036854775808 <= z) (h2:z <= 9223372036854775807):Calls Tryz.prog 39 #[.int .i64 z] w (Zj9 z w):=by
 have b1:z.natAbs <= 9223372036854775808:=by omega
 have HL:Hid ((nd z.natAbs).length <= 1000000):=zH (tR (JU (k:=2) (by simp;omega)) (by decide));have HV:=zH (Jy z.natAbs);have HD:=zH (JJ z.natAbs);have HS:=zH (fun W=>Zaf z W h1 h2);have HE:Hid (decide (z < 0) && decide (z.natAbs ≠ 0)) = Hid (decide (z < 0)):=by
  by_cases h:z < 0
  ·have:z.natAbs ≠ 0:=by omega
   simp [h,this]
  ·simp [h]
 have HE':=zH HE;have HB:Hid ((decide (z < 0) && decide (z.natAbs ≠ 0)) = decide (z < 0)):=zH (by
  by_cases h:z < 0
  ·have:z.natAbs ≠ 0:=by omega
   simp [h,this]
  ·simp [h])
 clear HE HE';go_enter Tryz.func39,Tryz.ntmps39;go_wp2_with fail;refine (HS.out _).mono ?_;rintro e w' ⟨rfl,rfl⟩;generalize hn:z.natAbs = n at *
 have HN:=zH hn;clear hn;go_wp2_with fail;refine (Z4 n _ (by omega)).mono ?_;rintro e w1 ⟨A,c,rfl,hA,hc,hnil,hb⟩;generalize hd:nd n = ds at *
 have HDS:=zH hd;clear hd;have hs1:w.heap.size < w1.heap.size:=by have:=hb.size;simp at this;omega
 have hb0:=zH (((Below.refl _ w).alloc nR _).trans (hb.mono (by simp)));have BX:=zH ((Bx.new w).below hb);have HM:=zH (Zbj (decide (z < 0)) A none c 0 ds [] w1 ⟨hA,HD.out,hc,hnil⟩ (Dg.none _) HL.out (by simp) n HV (zH (.inl rfl)));clear hb hA hnil;go_wp2_with fail;refine HM.out.mono ?_;clear HM;intro e w2 hR;obtain ⟨x,rfl,hx,hb2⟩:=hR.fz HB.out HN.out.symm;have BX2:=BX.out.below hb2;obtain ⟨c0,c1,c2,f0,f1,f2⟩:=BX2.facts;have HX:=zH hx;have HB2:=zH (hb0.out.trans (hb2.mono hb0.out.size));have BXH:=zH BX2;clear hx hb2 hR BX2 HB;obtain ⟨xn,xA,xc,xN,xB,xd,xD⟩:=x;go_wp2_with fail;obtain ⟨e0,e1,e2⟩:=Z7 (.bool xn) (.slice xA xN.length xc) (.slice xB xD.length xd) c0 c1 c2;refine bodyPost_ret (v:=.agg #[.bool xn,.slice xA xN.length xc,.slice xB xD.length xd]) (by simp [results,Tryz.results39,go_sem,e0,e1,e2]) rfl ?_;exact ⟨⟨xn,xA,xc,xN,xB,xd,xD⟩,rfl,HX.out.boxed BXH.out _ _ _,((HB2.out.setCell nR _).setCell nR _).setCell nR _⟩
set_option linter.unusedVariables false

theorem Fz.fq' {w:World} {x:Fr} {z:Int} (h:Fz w x z):Fq w x (z:Rat):=by
 obtain ⟨p1,p2,p3⟩:=Zbq z;exact ⟨h.ok,by rw [p1];exact h.neg,by rw [p2];exact h.num,by rw [p3];exact h.den⟩
theorem Zah (z:Int) (w:World) (h1 : -9223372036854775808 <= z) (h2:z <= 9223372036854775807):Calls Tryz.prog 39 #[.int .i64 z] w (ZA (z:Rat) w):=
 (Zh6 z w h1 h2).mono fun _ _ ⟨x,he,hx,hb⟩=>⟨x,he,hx.fq',hb⟩
theorem ZF (a b:Int) (w:World) (h1 : -9223372036854775808 <= a) (h2:a <= 9223372036854775807) (h3 : -9223372036854775808 <= b) (h4:b <= 9223372036854775807):Calls Tryz.prog 52 #[.int .i64 a,.int .i64 b] w (ZA (fq (decide (a < 0) != decide (b < 0)) a.natAbs b.natAbs) w):=by
 obtain ⟨W,hW⟩:∃ W:World,W = w.alloc (.cells #[.bool false,.slice none 0 0,.slice none 0 0] 28):=⟨_,rfl⟩;have HB0:Hid (Below w.heap.size w W):=zH (by rw [hW];exact bR.alloc nR _);have HBX:Hid (Bt 28 W w.heap.size):=zH (by rw [hW];exact Bt.new _ w);have S1:=zH (fun u=>Zaf a u h1 h2);have S2:=zH (fun u=>Zaf b u h3 h4);have N1:=zH (fun u=>Z4 a.natAbs u (by omega));have N2:=zH (fun u=>Z4 b.natAbs u (by omega));have l1:(nd a.natAbs).length <= 400000:=tR (JU (k:=2) (by simp;omega)) (by decide);have l2:(nd b.natAbs).length <= 400000:=tR (JU (k:=2) (by simp;omega)) (by decide);generalize a.natAbs = n at *
 generalize b.natAbs = m at *
 generalize hd1:decide (a < 0) = d1 at *
 generalize hd2:decide (b < 0) = d2 at *
 go_enter Tryz.func52,Tryz.ntmps52;go_wp2_with fail;rw [<- hW];clear hW;refine (S1.out _).mono ?_;rintro e w' ⟨rfl,rfl⟩;go_wp2_with fail;refine (N1.out _).mono ?_;rintro e w1 ⟨A1,c1,rfl,s1,s2,s3,s4⟩;have D1:=zH (JF s1 s2 s3);have B1:=zH s4;clear s1 s2 s3 s4;go_wp2_with fail;refine (S2.out _).mono ?_;rintro e w' ⟨rfl,rfl⟩;go_wp2_with fail;refine (N2.out _).mono ?_;rintro e w2 ⟨A2,c2,rfl,s1,s2,s3,s4⟩;have D2:=zH (JF s1 s2 s3);have D1':=zH (D1.out.below s4);have B2:=zH (B1.out.trans (s4.mono B1.out.size));clear s1 s2 s3 s4 D1 B1 S1 S2 N1 N2;have C1:=zH (Ze5 (d1 != d2) A1 A2 c1 c2 (nd n) (nd m) w2 D1'.out D2.out l1 l2 n m (zH (Jy _)) (zH (Jy _)));go_wp2_with fail;refine C1.out.mono ?_;clear C1;rintro e w3 ⟨f,rfl,hf,hb3⟩;have R3:=zH hf;have B3:=zH (B2.out.trans (hb3.mono B2.out.size));have X3:=zH (HBX.out.below B3.out);have BW:=zH (HB0.out.trans (B3.out.mono HB0.out.size));clear hf hb3 HBX HB0 B2 B3;obtain ⟨k0,k1,k2,f0,f1,f2⟩:=X3.out.facts;obtain ⟨rn,rA,rc,rN,rB,rd,rD⟩:=f;go_wp2_with fail;obtain ⟨g0,g1,g2⟩:=Z7 (.bool rn) (.slice rA rN.length rc) (.slice rB rD.length rd) k0 k1 k2;refine bodyPost_ret (v:=.agg #[.bool rn,.slice rA rN.length rc,.slice rB rD.length rd]) (by simp [results,Tryz.results52,go_sem,g0,g1,g2]) rfl ?_;exact ⟨⟨rn,rA,rc,rN,rB,rd,rD⟩,rfl,J2 R3.out X3.out _ _ _,Ji BW.out nR _ _ _⟩
end Go.Proofs.YtcjicjfbippmnaaGreat
namespace Go.Proofs.YtcjicjfbippmnaaGreat
open Go.RowKit Ear

theorem Zkv (a:Bool) (n d:Nat):∃ d',d' ≠ 0 /\ fq a n d = fq a n d':=by
 by_cases h:d = 0
 ·subst h;exact ⟨1,by decide,by unfold fq;rw [if_pos rfl,if_neg (by decide)]⟩
 ·exact ⟨d,h,rfl⟩
theorem Zb7 (x:Fr) (p:Rat) (w:World) (hx:Fv w x p) (hN:x.N.length <= 9223372036854775807) (r:Int) (hr:Hid (Yu p = r)):Calls Tryz.prog 24 #[x.val] w fun e w'=>e = .returned (.int .i64 r) /\ Below w.heap.size w w':=by
 obtain ⟨n,hn⟩:∃ n,n = (vl x.N).toNat:=⟨_,rfl⟩;obtain ⟨d',d0,hd⟩:=Zkv x.neg n (vl x.D).toNat;have hp:p = fq x.neg n d':=by rw [<- hd,hn];exact hx.val.symm
 have HR:Hid (r = if n = 0 then 0 else if x.neg then -1 else 1):=zH (by rw [<- hr.out,hp,ZjT d0]);have HT:=zH (JN x.A x.c x.N (w.alloc (.cells #[.bool x.neg,.slice x.A x.N.length x.c,.slice x.B x.D.length x.d] 28)) (hx.n.below (bR.alloc nR _)).lies (zH hx.n.dig) hx.n.cap hN n (zH (by rw [hn,Int.toNat_of_nonneg (Jv hx.n.dig)])));obtain ⟨xn,xA,xc,xN,xB,xd,xD⟩:=x;simp only at HR HT;clear hx hp hr hd d0 hn hN;by_cases h0:n = 0
 ·have hl:(nd n).length = 0:=by rw [h0,JC];rfl
  have HR1:Hid (r = 0):=zH (by rw [HR.out,if_pos h0]);rw [hl] at HT;clear HR hl h0;go_enter Tryz.func24,Tryz.ntmps24;go_wp2_with fail;refine HT.out.mono ?_;rintro e w' ⟨rfl,rfl⟩;go_wp2_with fail;go_ret;exact ⟨JS (by rw [HR1.out]),bR.alloc nR _⟩
 ·have hl:(nd n).length ≠ 0:=fun e=>h0 (Ju.1 e);have hq:(((nd n).length:Int) == 0) = false:=beq_eq_false_iff_ne.2 (by omega);cases xn with
  | true=>
   have HR1:Hid (r = -1):=zH (by rw [HR.out,if_neg h0];rfl);clear HR hl h0;go_enter Tryz.func24,Tryz.ntmps24;go_wp2_with fail;refine HT.out.mono ?_;rintro e w' ⟨rfl,rfl⟩;go_wp2_with fail;go_ret;exact ⟨JS (by rw [HR1.out]),bR.alloc nR _⟩
  | false=>
   have HR1:Hid (r = 1):=zH (by rw [HR.out,if_neg h0];rfl);clear HR hl h0;go_enter Tryz.func24,Tryz.ntmps24;go_wp2_with fail;refine HT.out.mono ?_;rintro e w' ⟨rfl,rfl⟩;go_wp2_with fail;go_ret;exact ⟨JS (by rw [HR1.out]),bR.alloc nR _⟩
end Go.Proofs.YtcjicjfbippmnaaGreat
namespace Go.Proofs.YtcjicjfbippmnaaGreat
open Go.RowKit Go.WideShapes

def Rd {H:Type} (enc:TypeId × Value -> H) (P:Program) (w:World) (t:TypeId) (cs:List Value):Prop:=
 ∃ fuel x,DataW.trod enc P w 0 (fun _=>true) true fuel t cs = some x

section
variable {α:Type} {H:Type} {enc:TypeId × Value -> H} {P:Program} {w:World} {t e:TypeId} {cs:List Value}

theorem Rd.of {v:Value} {d:DataW H} {p:List MemPlace} (h:DataW.Trod enc P w 0 (fun _=>true) true t v d p):Rd enc P w t v.cells.toList:=by
 obtain ⟨fuel,hf⟩:=h;exact ⟨fuel,_,hf⟩
theorem Rd.int {k:IntKind} (ht:P.underlying t = some (.int k)) (h:Rd enc P w t cs):∃ n,cs = [.int k n] /\ k.min <= n /\ n <= k.max:=by
 obtain ⟨fuel,x,hf⟩:=h;cases fuel with
 | zero=>simp [DataW.trod] at hf
 | succ f=>
  unfold DataW.trod at hf;rw [ht] at hf;split at hf <;> simp_all;rename_i h1;obtain ⟨⟨rfl,hw⟩,_⟩:=hf;subst h1;simpa [Lit.wf] using hw
theorem Rd.bool (ht:P.underlying t = some .bool) (h:Rd enc P w t cs):∃ b,cs = [.bool b]:=by
 obtain ⟨fuel,x,hf⟩:=h;cases fuel with
 | zero=>simp [DataW.trod] at hf
 | succ f=>
  unfold DataW.trod at hf;rw [ht] at hf;split at hf <;> simp_all
theorem Rd.struct {fs:Array Field} (ht:P.underlying t = some (.struct fs)) (h:Rd enc P w t cs) :
  cs.length = P.cellsOf t /\ ∀ (i:Nat) (f:Field),fs[i]? = some f -> Rd enc P w f.type ((cs.drop f.offset).take (P.cellsOf f.type)):=by
 obtain ⟨fuel,x,hf⟩:=h;obtain ⟨xs,n,_,_,hl,hlen,hall⟩:=DataW.trod_struct ht hf;refine ⟨hl,fun i f hi=>?_⟩;have h1:i < xs.length:=by rw [hlen];exact (aE hi).1
 exact ⟨n,xs[i],(hall i f hi).trans (gE h1)⟩
theorem Zkx {elem : α -> List Value} {S:Nat}:∀ (l:List α) (a:Addr),(∀ i x,l[i]? = some x -> (elem x).length = S /\ ∀ j,j < S -> w.cell? (a.add (i * S + j)) = (elem x)[j]?) ->
  ∀ k u,(l.flatMap elem)[k]? = some u -> w.cell? (a.add k) = some u:=by
 intro l
 induction l with
 | nil=>intro a _ k u h;simp at h
 | cons x xs ih=>
  intro a h k u hk;obtain ⟨h1,h2⟩:=h 0 x rfl;rw [List.flatMap_cons,List.getElem?_append] at hk;split at hk <;> rename_i hlt
  ·rw [h1] at hlt;have:=h2 k hlt;rw [Nat.zero_mul,Nat.zero_add,hk] at this;exact this
  ·rw [h1] at hk hlt;have h3:=ih (a.add S) (fun i y hy=>by
    obtain ⟨g1,g2⟩:=h (i + 1) y (by simpa using hy);refine ⟨g1,fun j hj=>?_⟩;rw [Addr.add_add,<- g2 j hj];congr 2;rw [Nat.succ_mul];omega) (k - S) u hk
   rw [Addr.add_add] at h3
   rwa [show S + (k - S) = k by omega] at h3

theorem Rd.slice {α:Type} {S:Nat} (ht:P.underlying t = some (.slice e)) (hS:P.cellsOf e = S) (elem : α -> List Value) (Pr : α -> Prop)
  (he:∀ cs,Rd enc P w e cs -> ∃ a,cs = elem a /\ Pr a) (h:Rd enc P w t cs) :
  ∃ A c,∃ l:List α,cs = [.slice A l.length c] /\ Lies w A (l.flatMap elem) /\ (A = none -> c = 0 /\ l = []) /\ l.length <= 9223372036854775807 /\ l.length <= c /\ (∀ a ∈ l,Pr a):=by
 obtain ⟨fuel,x,hf⟩:=h;rcases DataW.trod_slice ht hf with ⟨rfl,_⟩ | ⟨a,len,cap,elems,rest,n,_,rfl,_,_,hl,hm,hlen,hel,_,_⟩
 ·exact ⟨none,0,[],rfl,Lies.nil _ _,fun _=>⟨rfl,rfl⟩,by simp,by simp,by simp⟩
 ·have key:∀ i,i < len -> ∃ y,Pr y /\ (elem y).length = S /\ ∀ j,j < S -> w.cell? (a.add (i * S + j)) = (elem y)[j]?:=by
   intro i hi;have h1:=hel i hi;rw [gE (by omega)] at h1;obtain ⟨es,h2,h3⟩:=Option.bind_eq_some_iff.1 h1;obtain ⟨y,rfl,hy⟩:=he es ⟨n,_,h3⟩;obtain ⟨_,h4,h5⟩:=World.cells?_some h2;rw [hS] at h4 h5;refine ⟨y,hy,h4,fun j hj=>?_⟩;rw [<- h5 j hj,Addr.add_add]
  have pick:∀ m,m <= len -> ∃ l:List α,l.length = m /\ ∀ i y,l[i]? = some y -> Pr y /\ (elem y).length = S /\ ∀ j,j < S -> w.cell? (a.add (i * S + j)) = (elem y)[j]?:=by
   intro m
   induction m with
   | zero=>intro _;exact ⟨[],rfl,fun i y hy=>by simp at hy⟩
   | succ m ih=>
    intro hm';obtain ⟨l,hl1,hl2⟩:=ih (by omega);obtain ⟨y,hy⟩:=key m (by omega);refine ⟨l ++ [y],by simp [hl1],fun i z hz=>?_⟩;rw [List.getElem?_append] at hz;split at hz
    ·exact hl2 i z hz
    ·rename_i hge;have hi:i = m:=by
      have:=(List.getElem?_eq_some_iff.1 hz).1;simp at this;omega
     subst hi;rw [hl1,Nat.sub_self] at hz;simp at hz;subst hz;exact hy
  obtain ⟨l,hll,hg⟩:=pick len nR;refine ⟨some a,cap,l,by rw [hll],fun h0=>?_,fun h=>by simp at h,?_,by omega,fun y hy=>?_⟩
  ·have hc:=Zkx (w:=w) l a (fun i x hx=>(hg i x hx).2);obtain ⟨u,hu⟩:∃ u,(l.flatMap elem)[0]? = some u:=⟨_,gE h0⟩;have h1:=hc 0 u hu;obtain ⟨b,off,sp⟩:=a;have hsp:sp = none:=by
    cases sp with
    | none=>rfl
    | some q=>
     exfalso;simp [Addr.add,World.cell?] at h1;split at h1 <;> simp_all
   subst hsp;refine ⟨b,off,rfl,?_,fun k u hk=>?_⟩
   ·apply Decidable.byContradiction;intro hb;simp [Addr.add,World.cell?,hb] at h1
   ·have:=hc k u hk
    rwa [Addr.add_lit] at this
  ·rw [hll];unfold maxLen at hm;omega
  ·obtain ⟨i,hi,rfl⟩:=List.getElem_of_mem hy;exact (hg i _ (gE hi)).1
theorem Rd.ints (ht:P.underlying t = some (.slice e)) (he:P.underlying e = some (.int .i64)) (hc:P.cellsOf e = 1) (h:Rd enc P w t cs) :
  ∃ A c l,cs = [.slice A l.length c] /\ Lies w A (ics l) /\ (A = none -> c = 0 /\ l = []) /\ l.length <= 9223372036854775807 /\ l.length <= c /\ (∀ x ∈ l,-9223372036854775808 <= x /\ x <= 9223372036854775807):=by
 obtain ⟨A,c,l,h1,h2,h3⟩:=h.slice ht hc (fun n=>[Value.int .i64 n]) (fun n=>-9223372036854775808 <= n /\ n <= 9223372036854775807) (fun cs hcs=>hcs.int he);refine ⟨A,c,l,h1,?_,h3⟩;have:(l.flatMap fun n=>[Value.int .i64 n]) = ics l:=by
  clear h1 h2 h3
  induction l with
  | nil=>rfl
  | cons x xs ih=>rw [List.flatMap_cons,ih];rfl
 rwa [this] at h2
variable {v:Value} {d:DataW H} {p:List MemPlace} {r:Reach} {b0:Nat}
theorem Zhe {k:IntKind} (l:List Int):(l.flatMap fun n=>[Value.int k n]) = l.map (Value.int k):=by
 induction l with
 | nil=>rfl
 | cons x xs ih=>rw [List.flatMap_cons,ih];rfl
theorem UU {fs:Array Field} {n:Nat} (ht:P.underlying t = some (.struct fs)) (hC:P.cellsOf t = n) (hv:Value.okWide P w r b0 t v) (h:DataW.Trod enc P w 0 (fun _=>true) true t v d p) :
  ∃ cs:List Value,v = .agg cs.toArray /\ cs.length = n /\ ∀ (i:Nat) (f:Field),fs[i]? = some f -> Rd enc P w f.type ((cs.drop f.offset).take (P.cellsOf f.type)):=by
 obtain ⟨cs,rfl,hs⟩:=okWide_struct ht hv;have h1:=(Rd.of h).struct ht;refine ⟨cs.toList,by simp,by rw [<- hC,<- hs];simp,?_⟩;simpa [Value.cells] using h1.2
end
end Go.Proofs.YtcjicjfbippmnaaGreat
