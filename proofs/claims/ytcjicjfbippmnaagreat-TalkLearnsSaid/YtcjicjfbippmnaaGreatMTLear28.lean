/- TalkLearns -/
import Derived.Test.YtcjicjfbippmnaaGreatMTLear27
set_option maxRecDepth 100000
set_option maxHeartbeats 32000000
namespace Go.Proofs.YtcjicjfbippmnaaGreat
open Go.RowKit Ear

structure MkS (w:World) (kr kb:Nat) (o v:Int) (T:Tbl) (W:World):Prop where
 box:∃ A c L,W.heap[kb]? = some (.cells #[.int .i64 o,.int .i64 v,.slice A (L:List Gm).length c] 84 (0,0)) /\ GLo W w.heap.size A c L /\ Jf L = T
 res:W.heap[kr]? = some (.cells #[.int .i64 0,.int .i64 0,.slice none 0 0] 84 (0,0))
 bel:RowKit.Below w.heap.size w W
def Zgp (o v:Int) (T:Tbl) (w:World) (e:Ending) (w':World):Prop:=
 ∃ A c L,e = .returned (.agg #[.int .i64 o,.int .i64 v,.slice A (L:List Gm).length c]) /\ GLo w' w.heap.size A c L /\ Jf L = T /\ RowKit.Below w.heap.size w w'
theorem Zcl {o:Nat} {M:Int} (hM : 0 <= M):∀ (X T:Tbl) (B:Int),0 <= B -> (∀ g ∈ T,g.1.length = o /\ 0 <= g.2 /\ g.2 <= B) -> (∀ g ∈ X,g.1.length = o /\ 0 <= g.2 /\ g.2 <= M) -> (∀ g ∈ ZP T X,g.1.length = o /\ 0 <= g.2 /\ g.2 <= B + X.length * M) /\ (ZP T X).length <= T.length + X.length
 | [],T,B,h0,hT,_=>⟨fun g hg=>by have:=hT g hg;simpa using this,by simp [ZP]⟩
 | g :: l,T,B,h0,hT,hX=>by
  have h1:=hX g (by simp);have ih:=Zcl hM l (Qq T g.1 g.2) (B + M) (by omega) (fun x hx=>by
   rcases Zaw hx with rfl | hx | ⟨y,hy,rfl⟩
   ·exact ⟨h1.1,h1.2.1,by show g.2 <= B + M;omega⟩
   ·have:=hT x hx;exact ⟨this.1,this.2.1,by omega⟩
   ·have:=hT y hy;exact ⟨this.1,by show 0 <= y.2 + g.2;omega,by show y.2 + g.2 <= B + M;omega⟩) (fun x hx=>hX x (by simp [hx]))
  have hl:=UI T g.1 g.2;refine ⟨fun x hx=>?_,?_⟩
  ·have:=ih.1 x hx;refine ⟨this.1,this.2.1,?_⟩;have e:((g :: l).length:Int) * M = M + l.length * M:=(by rw [List.length_cons];push_cast;rw [Int.add_mul];omega);omega
  ·have:=ih.2;show (ZP (Qq T g.1 g.2) l).length <= _;rw [List.length_cons];omega
theorem Zft {o:Nat} {v:Int} {T:Tbl} (h:Srt o v T) (k:Nat):Srt o v (T.take k):=⟨h.ord.sublist (List.take_sublist k T),fun g hg=>h.row g (List.mem_of_mem_take hg)⟩
theorem ZbN (on:Nat) (o v v':Int) (A:Option Addr) (c:Nat) (L:List Gm) (w:World) (h:Tb w A L) (hs:Srt on v' (Jf L)) (ho:on <= 4) (hb:Hid (∀ g ∈ L,g.2 <= 1073741824)) (hl:L.length <= 20000) :
  Calls Tryz.prog 160 #[.agg #[.int .i64 o,.int .i64 v,.slice A L.length c]] w (Zgp o v (Jf L) w):=by
 obtain ⟨W1,hW1⟩:∃ X:World,X = w.alloc (.cells #[.int .i64 o,.int .i64 v,.slice A L.length c] 84):=⟨_,rfl⟩;have HB1:Hid (RowKit.Below w.heap.size w W1):=zH (by rw [hW1];exact bR.alloc nR _);have HS1:Hid (w.heap.size <= W1.heap.size):=zH HB1.out.size;have HPB:Hid (W1.heap[w.heap.size]? = some (.cells #[.int .i64 o,.int .i64 v,.slice A L.length c] 84 (0,0))):=zH (by rw [hW1];exact heap_alloc_new w _);have HTB:=zH (h.below HB1.out);obtain ⟨W,hW⟩:∃ W:World,W = (W1.alloc (.cells #[.int .i64 0,.int .i64 0,.slice none 0 0] 84)).alloc (.cells #[.int .i64 o,.int .i64 v,.slice none 0 0] 84):=⟨_,rfl⟩;have HC0:Hid (MkS W1 W1.heap.size (W1.heap.size + 1) o v [] W):=zH ⟨⟨none,0,[],by rw [hW];exact VM _ _ _,GLo.nil _ _,rfl⟩,by rw [hW];exact VN _ _ _,by rw [hW];exact al2 _ _ _⟩;have HON:Hid (on <= 1000):=zH (by omega);have HROW:Hid (∀ x ∈ L,x.1.2.2.length = on /\ 0 <= x.2 /\ x.2 <= 1073741824):=zH (fun x hx=>by
  have h1:=hs.row _ (List.mem_map_of_mem (f:=fun g:Gm=>(g.1.2.2,g.2)) hx);have h2:=hb.out x hx;exact ⟨h1.1,by have:=h1.2.2;simp only at this;omega,h2⟩)
 have HBND:Hid (∀ k,k <= L.length -> (∀ g ∈ ZP [] ((Jf L).take k),g.1.length = on /\ 0 <= g.2 /\ g.2 <= 1099511627776) /\ (ZP [] ((Jf L).take k)).length <= 100000):=zH (fun k hk=>by
  rw [ZcX ho (Zft hs k)];refine ⟨fun g hg=>?_,?_⟩
  ·obtain ⟨x,hx,rfl⟩:=List.mem_map.1 (List.mem_of_mem_take hg);have:=HROW.out x hx;exact ⟨this.1,this.2.1,by have:=this.2.2;simp only;omega⟩
  ·rw [List.length_take];simp;omega)
 have HFIN:Hid (ZP [] ((Jf L).take L.length) = Jf L):=zH (by rw [List.take_of_length_le (by simp)];exact ZcX ho hs);have HNE:Hid (W1.heap.size ≠ W1.heap.size + 1):=zH (by omega);have HKB:Hid (W1.heap.size <= W1.heap.size + 1):=zH (by omega);have HKR:Hid (W1.heap.size <= W1.heap.size):=zH nR;obtain ⟨q0,q1,q2⟩:=Xe HPB.out;obtain ⟨X1,hX1⟩:∃ X,X = W1.alloc (.cells #[.int .i64 0,.int .i64 0,.slice none 0 0] 84):=⟨_,rfl⟩;have HP1:Hid (X1.heap[w.heap.size]? = some (.cells #[.int .i64 o,.int .i64 v,.slice A L.length c] 84 (0,0))):=zH (by rw [hX1];exact (RowKit.Below.heap_alloc W1 _ _ (aE HPB.out).1).trans HPB.out);clear h hs hb q0 q1 q2;obtain ⟨q0,q1,q2⟩:=Xe HP1.out;go_enter Tryz.func160,Tryz.ntmps160;go_upto_region 1 with fail;rw [<- hW1,<- hX1];rw [<- hX1] at hW;have hX1s:X1.heap.size = W1.heap.size + 1:=by rw [hX1];simp
 have hs1:W1.heap.size = w.heap.size + 1:=by rw [hW1];simp
 clear hW1 hX1;go_wp2_with fail;rw [<- hW,show w.heap.size + 1 = W1.heap.size from hs1.symm];clear hW hX1s hs1 q0 q1 q2;go_loopw [4] (fun i wr=>∃ j:Nat,j <= L.length /\ i = .int .i64 j /\ Hid (MkS W1 W1.heap.size (W1.heap.size + 1) o v (ZP [] ((Jf L).take j)) wr)) (fun i _=>L.length - (intOf i).toNat)
 case atStart=>exact ⟨0,by omega,rfl,HC0⟩
 case round=>
  obtain ⟨j,hj,rfl,HCj⟩:=hrel;obtain ⟨V,rfl⟩:∃ X,X = wr:=⟨_,rfl⟩;clear HC0;have q2:V.cell? ⟨w.heap.size,2,none⟩ = some (.slice A L.length c):=(cR 2 ((HCj.out.bel.block _ (aE HPB.out).1).trans HPB.out)).trans rfl;by_cases hjl:j < L.length
  ·have hjl':(j:Int) < (L.length:Int):=by omega
   have HG:=zH (HTB.out.at_ hjl);obtain ⟨ba,oa,rfl,hba,hg1,hg2⟩:=HG.out;have HGC:Hid (∀ u,Below W1.heap.size W1 u -> u.cell? ⟨ba,oa + j * 2,none⟩ = some (.slice L[j].1.1 L[j].1.2.2.length L[j].1.2.1) /\ u.cell? ⟨ba,oa + j * 2 + 1,none⟩ = some (.int .i64 L[j].2)):=zH (fun u hu=>⟨(hu.cell (p:=⟨ba,oa + j * 2,none⟩) hba).trans hg1,(hu.cell (p:=⟨ba,oa + j * 2 + 1,none⟩) hba).trans hg2⟩);have HXJ:=zH (HTB.out.inn _ (yM hjl));have HXR:=zH (HROW.out _ (yM hjl));have HNX:Hid (ZP ([]) ((Jf L).take (j + 1)) = Qq (ZP ([]) ((Jf L).take j)) L[j].1.2.2 L[j].2):=zH (by
    rw [List.take_succ_eq_append_getElem (by simpa using hjl),Qg];simp [ZP])
   obtain ⟨GA,Gc,GL,hbox,hglo,htb⟩:=HCj.out.box;have HBOX:=zH hbox;have HGLO:=zH hglo;have HTBL:=zH htb;have c7:V.cell? ⟨W1.heap.size + 1,2,none⟩ = some (.slice GA GL.length Gc):=(cR 2 hbox).trans rfl;have cs7:∀ u,Below W1.heap.size W1 u -> u.cell? ⟨w.heap.size,2,none⟩ = some (.slice (some ⟨ba,oa,none⟩) L.length c):=fun u hu=>(cR 2 ((hu.block _ (aE HPB.out).1).trans HPB.out)).trans rfl;have HCS:=zH cs7;have HBD:=zH (HBND.out j (by omega));have HRW:Hid (∀ y ∈ GL,y.1.2.2.length = on /\ 0 <= y.2 /\ y.2 <= 1099511627776):=zH (fun y hy=>HBD.out.1 (y.1.2.2,y.2) (by rw [<- htb];exact List.mem_map_of_mem (f:=fun g:Gm=>(g.1.2.2,g.2)) hy));have hgl:GL.length <= 100000:=(by have:=HBD.out.2;rw [<- htb] at this;simpa using this);clear hbox hglo htb cs7 hg1 hg2 HG;generalize L[j] = X9 at *
   obtain ⟨⟨JA,Jc,jl⟩,jn⟩:=X9;simp only at *
   have HP:=zH (Zb1 W1.heap.size GA JA Gc Jc GL jl jn V.drew (HGLO.out.below (RowKit.Below.refl _ V).drew) ((HXJ.out.below HCj.out.bel).below (RowKit.Below.refl _ V).drew).1 (fun e=>(HXJ.out.2.1 e).1) (HCj.out.bel.size) (zH (fun y hy=>by rw [(HRW.out y hy).1,HXR.out.1])) (zH (fun y hy=>(HRW.out y hy).2)) (by have:=HXR.out.2;omega) (by omega) (by have:=HXR.out.1;have:=HON.out;omega) (zH HXJ.out.2.2.2.2));have HBTb:Hid (BT V (W1.heap.size + 1) 84):=zH ⟨_,_,HBOX.out⟩;have HBTg:Hid (∀ b,blk GA = some b -> BT V b 114 /\ W1.heap.size <= b):=zH (fun b hb=>⟨BT.of_own HGLO.out.row (by rw [Jn];exact hb),(HGLO.out.row.lt b (by rw [Jn];exact hb)).1⟩);go_upto_region 5 with fail;refine JJ (S:=fun w'=>w'.cell? ⟨W1.heap.size + 1,2,none⟩ = some (.slice GA GL.length Gc) /\ w'.cell? ⟨w.heap.size,2,none⟩ = some (.slice (some ⟨ba,oa,none⟩) L.length c) /\ w'.cell? ⟨ba,oa + j * 2,none⟩ = some (.slice JA jl.length Jc) /\ w'.cell? ⟨ba,oa + j * 2 + 1,none⟩ = some (.int .i64 jn)) 16 (by kernel_rfl) (by kernel_rfl) ⟨c7,HCS.out _ HCj.out.bel.drew,HGC.out _ HCj.out.bel.drew⟩ (fun hd=>?_);simp only [List.pop_toArray,List.dropLast_cons_cons,List.dropLast_singleton];iterate 14 (((refine Je (v:=?_) rfl (by kernel_rfl) (fun _ _ _ h=>h) ⟨by rfl,?_⟩ hd ?_;rotate_left;· intro w' sw;obtain ⟨s1,s2,s3,s4⟩:=sw;go_simp;try with_reducible rfl);simp only [zA,zB,zC]))
   refine Jd 14 rfl (by kernel_rfl) rfl (fun K hK=>?_);go_simp;refine HP.out.mono ?_;rintro e w2 ⟨A2,c2,L2,rfl,hL2,hT2,hg2⟩;have HL2:=zH hL2;have hne7:some (W1.heap.size + 1) ≠ blk GA:=fun e=>(HBTg.out _ e.symm).1.ne HBTb.out (by decide) rfl;have HG2:Hid (V.grownBy w2 (blk GA)):=zH ⟨hg2.os,hg2.tape,hg2.output,hg2.size,hg2.block⟩;have hbx2:w2.heap[W1.heap.size + 1]? = some (.cells #[.int .i64 o,.int .i64 v,.slice GA GL.length Gc] 84 (0,0)):=(HG2.out.block _ HBTb.out.lt hne7).trans HBOX.out;have HBX2:=zH hbx2;have d7:w2.cell? ⟨W1.heap.size + 1,2,none⟩ = some (.slice GA GL.length Gc):=(cR 2 hbx2).trans rfl;have k7:w2.frozen? ⟨W1.heap.size + 1,2,none⟩ = false:=Jp hbx2 2;have HRES2:Hid (w2.heap[W1.heap.size]? = some (.cells #[.int .i64 0,.int .i64 0,.slice none 0 0] 84 (0,0))):=zH ((HG2.out.block _ (aE HCj.out.res).1 (fun e=>(HBTg.out _ e.symm).1.ne ⟨_,_,HCj.out.res⟩ (by decide) rfl)).trans HCj.out.res);have HB2:Hid (RowKit.Below W1.heap.size W1 w2):=zH (HCj.out.bel.grown HG2.out HCj.out.bel.size (fun b e=>(HBTg.out b e).2));clear hL2 hg2 hne7 hbx2;go_simp;refine hK.out _ _ ⟨d7,HCS.out _ HB2.out,HGC.out _ HB2.out⟩ (fun hd=>?_);clear hK K
   ((refine Je (v:=?_) rfl (by kernel_rfl) (fun _ _ _ h=>h) ⟨by rfl,?_⟩ hd ?_;rotate_left;· intro w' sw;obtain ⟨s1,s2,s3,s4⟩:=sw;go_simp;try with_reducible rfl);simp only [zA,zB,zC])
   refine wpAnyH_done (by kernel_rfl) ?_ _;refine PopQ.last rfl rfl (fun K hK=>?_);go_simp;refine hK _ _ ?_;clear hK K;go_wp2_with fail;have hbX:∀ b,b ≠ W1.heap.size + 1 -> (w2.setCell ⟨W1.heap.size + 1,2,none⟩ (.slice A2 L2.length c2)).heap[b]? = w2.heap[b]?:=fun b hb=>RowKit.Below.heap_setCell w2 _ _ b hb;have hbt:BT w2 (W1.heap.size + 1) 84:=⟨_,_,HBX2.out⟩;have hset:=JF HBX2.out 2 (.slice A2 L2.length c2);refine ⟨⟨j + 1,by omega,by go_num,zH ⟨⟨A2,c2,L2,hset.trans rfl,?_,?_⟩,?_,?_⟩⟩,by simp [intOf];omega⟩
   ·refine HL2.out.block (by simp [World.setCell]) (fun b hb=>hbX b ?_);rcases hb with hb | hb
    ·exact hb.ne hbt (by decide)
    ·exact hb.1.ne hbt (by decide)
   ·rw [hT2,HTBL.out,HNX.out]
   ·exact (hbX _ HNE.out).trans HRES2.out
   ·exact HB2.out.setCell (by show W1.heap.size <= W1.heap.size + 1;exact HKB.out) _
  ·obtain rfl:j = L.length:=by omega
   have HCW:Hid (MkS W1 W1.heap.size (W1.heap.size + 1) o v (Jf L) V):=zH (by have:=HCj.out;rwa [HFIN.out] at this);obtain ⟨GA,Gc,GL,hbox,hglo,htb⟩:=HCW.out.box;have HRES:=zH HCW.out.res;have c0:=(cR 0 hbox).trans rfl;have c1:=(cR 1 hbox).trans rfl;have c2:=(cR 2 hbox).trans rfl;have d0:=(cR 0 HRES.out).trans rfl;have d1:=(cR 1 HRES.out).trans rfl;have d2:=(cR 2 HRES.out).trans rfl;have f0:=Jp HRES.out 0;have f1:=Jp HRES.out 1;have f2:=Jp HRES.out 2;have HGLO:=zH hglo;have HTBL:=zH htb;clear hbox hglo htb HCj HTB;go_wp2_with fail;have hr6:=row3 HRES.out (.int .i64 o) (.int .i64 v) (.slice GA GL.length Gc);have g0:=(cR 0 hr6).trans rfl;have g1:=(cR 1 hr6).trans rfl;have g2:=(cR 2 hr6).trans rfl;refine bodyPost_ret (v:=.agg #[.int .i64 o,.int .i64 v,.slice GA GL.length Gc]) (by simp [results,Tryz.results160,go_sem,g0,g1,g2]) rfl ?_;have hbt:BT V (W1.heap.size) 84:=⟨_,_,HRES.out⟩;refine ⟨GA,Gc,GL,rfl,(HGLO.out.block (by simp [World.setCell]) (fun b hb=>?_)).le HS1.out,HTBL.out,HB1.out.trans ((((HCW.out.bel.setCell HKR.out _).setCell HKR.out _).setCell HKR.out _).mono HS1.out)⟩;have hne:b ≠ W1.heap.size:=by
    rcases hb with hb | hb
    ·exact hb.ne hbt (by decide)
    ·exact hb.1.ne hbt (by decide)
   rw [RowKit.Below.heap_setCell _ _ _ b hne,RowKit.Below.heap_setCell _ _ _ b hne,RowKit.Below.heap_setCell _ _ _ b hne]
theorem QN (on:Nat) (o v v' o2 v2:Int) (A B:Option Addr) (c d:Nat) (L M:List Gm) (w:World) (hA:Tb w A L) (hB:Tb w B M) (hs:Srt on v' (Jf L)) (ho:on <= 4) (hb:Hid (∀ g ∈ L,g.2 <= 1073741824)) (hl:L.length <= 20000)
  (hm:Hid (∀ g ∈ M,g.1.2.2.length = on /\ 0 <= g.2 /\ g.2 <= 1048576)) (hml:M.length <= 1000) :
  Calls Tryz.prog 107 #[.agg #[.int .i64 o,.int .i64 v,.slice A L.length c],.agg #[.int .i64 o2,.int .i64 v2,.slice B M.length d]] w (Zgp o v (ZP (Jf L) (Jf M)) w):=by
 obtain ⟨W1,hW1⟩:∃ X:World,X = (w.alloc (.cells #[.int .i64 o,.int .i64 v,.slice A L.length c] 84)).alloc (.cells #[.int .i64 o2,.int .i64 v2,.slice B M.length d] 84):=⟨_,rfl⟩;have HB1:Hid (RowKit.Below w.heap.size w W1):=zH (by rw [hW1];exact al2 _ _ _);have HS1:Hid (w.heap.size <= W1.heap.size):=zH HB1.out.size;have HPA:Hid (W1.heap[w.heap.size]? = some (.cells #[.int .i64 o,.int .i64 v,.slice A L.length c] 84 (0,0))):=zH (by rw [hW1];exact VN _ _ _);have HPB:Hid (W1.heap[w.heap.size + 1]? = some (.cells #[.int .i64 o2,.int .i64 v2,.slice B M.length d] 84 (0,0))):=zH (by rw [hW1];exact VM _ _ _);have HTA:=zH (hA.below HB1.out);have HTB:=zH (hB.below HB1.out);obtain ⟨W2,hW2⟩:∃ W:World,W = W1.alloc (.cells #[.int .i64 0,.int .i64 0,.slice none 0 0] 84):=⟨_,rfl⟩;have HB2:Hid (RowKit.Below W1.heap.size W1 W2):=zH (by rw [hW2];exact bR.alloc nR _);have HRS:Hid (W2.heap[W1.heap.size]? = some (.cells #[.int .i64 0,.int .i64 0,.slice none 0 0] 84 (0,0))):=zH (by rw [hW2];exact heap_alloc_new W1 _);have hlt2:W1.heap.size < W2.heap.size:=(aE HRS.out).1;have HON:Hid (on <= 1000):=zH (by omega);have HROW:Hid (∀ x ∈ M,x.1.2.2.length = on /\ 0 <= x.2 /\ x.2 <= 1073741824):=zH (fun x hx=>by have:=hm.out x hx;exact ⟨this.1,this.2.1,by omega⟩);have HBND:Hid (∀ k,k <= M.length -> (∀ g ∈ ZP (Jf L) ((Jf M).take k),g.1.length = on /\ 0 <= g.2 /\ g.2 <= 1099511627776) /\ (ZP (Jf L) ((Jf M).take k)).length <= 100000):=zH (fun k hk=>by
  have h1:=Zcl (o:=on) (M:=1048576) (by omega) ((Jf M).take k) (Jf L) 1073741824 (by omega) (fun g hg=>by
   obtain ⟨x,hx,rfl⟩:=List.mem_map.1 hg;have h1:=hs.row _ hg;exact ⟨h1.1,by have:=h1.2.2;omega,hb.out x hx⟩) (fun g hg=>by
   obtain ⟨x,hx,rfl⟩:=List.mem_map.1 (List.mem_of_mem_take hg);exact hm.out x hx)
  have hlen:((Jf M).take k).length = k:=by rw [List.length_take];simp;omega
  rw [hlen] at h1;refine ⟨fun g hg=>?_,?_⟩
  ·have:=h1.1 g hg;exact ⟨this.1,this.2.1,by omega⟩
  ·have:=h1.2;simp only [List.length_map] at this;omega)
 have HFIN:Hid (ZP (Jf L) ((Jf M).take M.length) = ZP (Jf L) (Jf M)):=zH (by rw [List.take_of_length_le (by simp)]);have HCP:=zH (ZbN on o v v' A c L W2 (HTA.out.below HB2.out) hs ho hb hl);obtain ⟨q0,q1,q2⟩:=Xe ((HB2.out.block _ (aE HPA.out).1).trans HPA.out);clear hA hB hs hb hm;go_enter Tryz.func107,Tryz.ntmps107;go_upto_region 1 with fail;rw [<- hW1,<- hW2];have hs1:W1.heap.size = w.heap.size + 1 + 1:=by rw [hW1];simp
 clear hW1 hW2;go_wp2_with fail;refine HCP.out.mono ?_;rintro e w3 ⟨A3,c3,L3,rfl,hL3,hT3,hb3⟩;have HL3:=zH hL3;have HT3:=zH hT3;have HB3:=zH hb3;clear hL3 hT3 hb3 HCP q0 q1 q2;go_wp2_with fail;obtain ⟨W,hW⟩:∃ X,X = w3.alloc (.cells #[.int .i64 o,.int .i64 v,.slice A3 L3.length c3] 84):=⟨_,rfl⟩;have HBW:Hid (RowKit.Below w3.heap.size w3 W):=zH (by rw [hW];exact bR.alloc nR _);have HB23:=zH (HB2.out.trans (HB3.out.mono HB2.out.size));have HC0:Hid (MkS W1 W1.heap.size w3.heap.size o v (Jf L) W):=zH ⟨⟨A3,c3,L3,by rw [hW];exact heap_alloc_new w3 _,(HL3.out.below HBW.out).le HB2.out.size,HT3.out⟩,(HBW.out.block _ (Nat.lt_of_lt_of_le hlt2 HB3.out.size)).trans ((HB3.out.block _ hlt2).trans HRS.out),HB23.out.trans (HBW.out.mono HB23.out.size)⟩;rw [<- hW,show w.heap.size + 1 + 1 = W1.heap.size from hs1.symm];have HNE:Hid (W1.heap.size ≠ w3.heap.size):=zH (by have:=HB3.out.size;omega);have HKB:Hid (W1.heap.size <= w3.heap.size):=zH HB23.out.size;have HKR:Hid (W1.heap.size <= W1.heap.size):=zH nR;clear hW HBW HL3 HT3 HB3 HB23 HRS hs1;go_wp2_with fail;go_loopw [6] (fun i wr=>∃ j:Nat,j <= M.length /\ i = .int .i64 j /\ Hid (MkS W1 W1.heap.size w3.heap.size o v (ZP (Jf L) ((Jf M).take j)) wr)) (fun i _=>M.length - (intOf i).toNat)
 case atStart=>exact ⟨0,by omega,rfl,HC0⟩
 case round=>
  obtain ⟨j,hj,rfl,HCj⟩:=hrel;obtain ⟨V,rfl⟩:∃ X,X = wr:=⟨_,rfl⟩;clear HC0;have q2:V.cell? ⟨w.heap.size + 1,2,none⟩ = some (.slice B M.length d):=(cR 2 ((HCj.out.bel.block _ (aE HPB.out).1).trans HPB.out)).trans rfl;by_cases hjl:j < M.length
  ·have hjl':(j:Int) < (M.length:Int):=by omega
   have HG:=zH (HTB.out.at_ hjl);obtain ⟨ba,oa,rfl,hba,hg1,hg2⟩:=HG.out;have HGC:Hid (∀ u,Below W1.heap.size W1 u -> u.cell? ⟨ba,oa + j * 2,none⟩ = some (.slice M[j].1.1 M[j].1.2.2.length M[j].1.2.1) /\ u.cell? ⟨ba,oa + j * 2 + 1,none⟩ = some (.int .i64 M[j].2)):=zH (fun u hu=>⟨(hu.cell (p:=⟨ba,oa + j * 2,none⟩) hba).trans hg1,(hu.cell (p:=⟨ba,oa + j * 2 + 1,none⟩) hba).trans hg2⟩);have HXJ:=zH (HTB.out.inn _ (yM hjl));have HXR:=zH (HROW.out _ (yM hjl));have HNX:Hid (ZP (Jf L) ((Jf M).take (j + 1)) = Qq (ZP (Jf L) ((Jf M).take j)) M[j].1.2.2 M[j].2):=zH (by
    rw [List.take_succ_eq_append_getElem (by simpa using hjl),Qg];simp [ZP])
   obtain ⟨GA,Gc,GL,hbox,hglo,htb⟩:=HCj.out.box;have HBOX:=zH hbox;have HGLO:=zH hglo;have HTBL:=zH htb;have c7:V.cell? ⟨w3.heap.size,2,none⟩ = some (.slice GA GL.length Gc):=(cR 2 hbox).trans rfl;have cs7:∀ u,Below W1.heap.size W1 u -> u.cell? ⟨w.heap.size + 1,2,none⟩ = some (.slice (some ⟨ba,oa,none⟩) M.length d):=fun u hu=>(cR 2 ((hu.block _ (aE HPB.out).1).trans HPB.out)).trans rfl;have HCS:=zH cs7;have HBD:=zH (HBND.out j (by omega));have HRW:Hid (∀ y ∈ GL,y.1.2.2.length = on /\ 0 <= y.2 /\ y.2 <= 1099511627776):=zH (fun y hy=>HBD.out.1 (y.1.2.2,y.2) (by rw [<- htb];exact List.mem_map_of_mem (f:=fun g:Gm=>(g.1.2.2,g.2)) hy));have hgl:GL.length <= 100000:=(by have:=HBD.out.2;rw [<- htb] at this;simpa using this);clear hbox hglo htb cs7 hg1 hg2 HG;generalize M[j] = X9 at *
   obtain ⟨⟨JA,Jc,jl⟩,jn⟩:=X9;simp only at *
   have HP:=zH (Zb1 W1.heap.size GA JA Gc Jc GL jl jn V.drew (HGLO.out.below (RowKit.Below.refl _ V).drew) ((HXJ.out.below HCj.out.bel).below (RowKit.Below.refl _ V).drew).1 (fun e=>(HXJ.out.2.1 e).1) (HCj.out.bel.size) (zH (fun y hy=>by rw [(HRW.out y hy).1,HXR.out.1])) (zH (fun y hy=>(HRW.out y hy).2)) (by have:=HXR.out.2;omega) (by omega) (by have:=HXR.out.1;have:=HON.out;omega) (zH HXJ.out.2.2.2.2));have HBTb:Hid (BT V (w3.heap.size) 84):=zH ⟨_,_,HBOX.out⟩;have HBTg:Hid (∀ b,blk GA = some b -> BT V b 114 /\ W1.heap.size <= b):=zH (fun b hb=>⟨BT.of_own HGLO.out.row (by rw [Jn];exact hb),(HGLO.out.row.lt b (by rw [Jn];exact hb)).1⟩);go_upto_region 5 with fail;refine JJ (S:=fun w'=>w'.cell? ⟨w3.heap.size,2,none⟩ = some (.slice GA GL.length Gc) /\ w'.cell? ⟨w.heap.size + 1,2,none⟩ = some (.slice (some ⟨ba,oa,none⟩) M.length d) /\ w'.cell? ⟨ba,oa + j * 2,none⟩ = some (.slice JA jl.length Jc) /\ w'.cell? ⟨ba,oa + j * 2 + 1,none⟩ = some (.int .i64 jn)) 16 (by kernel_rfl) (by kernel_rfl) ⟨c7,HCS.out _ HCj.out.bel.drew,HGC.out _ HCj.out.bel.drew⟩ (fun hd=>?_);simp only [List.pop_toArray,List.dropLast_cons_cons,List.dropLast_singleton];iterate 14 (((refine Je (v:=?_) rfl (by kernel_rfl) (fun _ _ _ h=>h) ⟨by rfl,?_⟩ hd ?_;rotate_left;· intro w' sw;obtain ⟨s1,s2,s3,s4⟩:=sw;go_simp;try with_reducible rfl);simp only [zA,zB,zC]))
   refine Jd 14 rfl (by kernel_rfl) rfl (fun K hK=>?_);go_simp;refine HP.out.mono ?_;rintro e w2 ⟨A2,c2,L2,rfl,hL2,hT2,hg2⟩;have HL2:=zH hL2;have hne7:some (w3.heap.size) ≠ blk GA:=fun e=>(HBTg.out _ e.symm).1.ne HBTb.out (by decide) rfl;have HG2:Hid (V.grownBy w2 (blk GA)):=zH ⟨hg2.os,hg2.tape,hg2.output,hg2.size,hg2.block⟩;have hbx2:w2.heap[w3.heap.size]? = some (.cells #[.int .i64 o,.int .i64 v,.slice GA GL.length Gc] 84 (0,0)):=(HG2.out.block _ HBTb.out.lt hne7).trans HBOX.out;have HBX2:=zH hbx2;have d7:w2.cell? ⟨w3.heap.size,2,none⟩ = some (.slice GA GL.length Gc):=(cR 2 hbx2).trans rfl;have k7:w2.frozen? ⟨w3.heap.size,2,none⟩ = false:=Jp hbx2 2;have HRES2:Hid (w2.heap[W1.heap.size]? = some (.cells #[.int .i64 0,.int .i64 0,.slice none 0 0] 84 (0,0))):=zH ((HG2.out.block _ (aE HCj.out.res).1 (fun e=>(HBTg.out _ e.symm).1.ne ⟨_,_,HCj.out.res⟩ (by decide) rfl)).trans HCj.out.res);have HB2:Hid (RowKit.Below W1.heap.size W1 w2):=zH (HCj.out.bel.grown HG2.out HCj.out.bel.size (fun b e=>(HBTg.out b e).2));clear hL2 hg2 hne7 hbx2;go_simp;refine hK.out _ _ ⟨d7,HCS.out _ HB2.out,HGC.out _ HB2.out⟩ (fun hd=>?_);clear hK K
   ((refine Je (v:=?_) rfl (by kernel_rfl) (fun _ _ _ h=>h) ⟨by rfl,?_⟩ hd ?_;rotate_left;· intro w' sw;obtain ⟨s1,s2,s3,s4⟩:=sw;go_simp;try with_reducible rfl);simp only [zA,zB,zC])
   refine wpAnyH_done (by kernel_rfl) ?_ _;refine PopQ.last rfl rfl (fun K hK=>?_);go_simp;refine hK _ _ ?_;clear hK K;go_wp2_with fail;have hbX:∀ b,b ≠ w3.heap.size -> (w2.setCell ⟨w3.heap.size,2,none⟩ (.slice A2 L2.length c2)).heap[b]? = w2.heap[b]?:=fun b hb=>RowKit.Below.heap_setCell w2 _ _ b hb;have hbt:BT w2 (w3.heap.size) 84:=⟨_,_,HBX2.out⟩;have hset:=JF HBX2.out 2 (.slice A2 L2.length c2);refine ⟨⟨j + 1,by omega,by go_num,zH ⟨⟨A2,c2,L2,hset.trans rfl,?_,?_⟩,?_,?_⟩⟩,by simp [intOf];omega⟩
   ·refine HL2.out.block (by simp [World.setCell]) (fun b hb=>hbX b ?_);rcases hb with hb | hb
    ·exact hb.ne hbt (by decide)
    ·exact hb.1.ne hbt (by decide)
   ·rw [hT2,HTBL.out,HNX.out]
   ·exact (hbX _ HNE.out).trans HRES2.out
   ·exact HB2.out.setCell (by show W1.heap.size <= w3.heap.size;exact HKB.out) _
  ·obtain rfl:j = M.length:=by omega
   have HCW:Hid (MkS W1 W1.heap.size w3.heap.size o v (ZP (Jf L) (Jf M)) V):=zH (by have:=HCj.out;rwa [HFIN.out] at this);obtain ⟨GA,Gc,GL,hbox,hglo,htb⟩:=HCW.out.box;have HRES:=zH HCW.out.res;have c0:=(cR 0 hbox).trans rfl;have c1:=(cR 1 hbox).trans rfl;have c2:=(cR 2 hbox).trans rfl;have d0:=(cR 0 HRES.out).trans rfl;have d1:=(cR 1 HRES.out).trans rfl;have d2:=(cR 2 HRES.out).trans rfl;have f0:=Jp HRES.out 0;have f1:=Jp HRES.out 1;have f2:=Jp HRES.out 2;have HGLO:=zH hglo;have HTBL:=zH htb;clear hbox hglo htb HCj HTB;go_wp2_with fail;have hr6:=row3 HRES.out (.int .i64 o) (.int .i64 v) (.slice GA GL.length Gc);have g0:=(cR 0 hr6).trans rfl;have g1:=(cR 1 hr6).trans rfl;have g2:=(cR 2 hr6).trans rfl;refine bodyPost_ret (v:=.agg #[.int .i64 o,.int .i64 v,.slice GA GL.length Gc]) (by simp [results,Tryz.results107,go_sem,g0,g1,g2]) rfl ?_;have hbt:BT V (W1.heap.size) 84:=⟨_,_,HRES.out⟩;refine ⟨GA,Gc,GL,rfl,(HGLO.out.block (by simp [World.setCell]) (fun b hb=>?_)).le HS1.out,HTBL.out,HB1.out.trans ((((HCW.out.bel.setCell HKR.out _).setCell HKR.out _).setCell HKR.out _).mono HS1.out)⟩;have hne:b ≠ W1.heap.size:=by
    rcases hb with hb | hb
    ·exact hb.ne hbt (by decide)
    ·exact hb.1.ne hbt (by decide)
   rw [RowKit.Below.heap_setCell _ _ _ b hne,RowKit.Below.heap_setCell _ _ _ b hne,RowKit.Below.heap_setCell _ _ _ b hne]
end Go.Proofs.YtcjicjfbippmnaaGreat
namespace Ear

def QB (gs:List (List (List Int))):Bool:=gs.all (fun g=>!g.isEmpty) && ZT gs.flatten
def ZeD (gs:List (List (List Int))):Int:=if 60 < gs.length ∨ 10000 < gs.flatten.length then 5 else if QB gs = true then 0 else 2
theorem Zc4 (vs:List (List Int)) (v:List Int):ZT (vs ++ [v]) = (ZT vs && okV (if vs = [] then v.length else len0 vs) v):=by
 cases vs with
 | nil=>simp [ZT,len0]
 | cons x l=>simp [ZT,len0,Bool.and_assoc]
theorem ZdJ {a b:List (List Int)} (h:ZT (a ++ b) = true):ZT a = true:=by
 cases a with
 | nil=>rfl
 | cons x l=>
  unfold ZT at *
  rw [List.all_append,Bool.and_eq_true] at h;exact h.1
theorem Zes {vs:List (List Int)} {v:List Int}:len0 (vs ++ [v]) = if vs = [] then v.length else len0 vs:=by
 cases vs <;> simp [len0]
theorem Zer {vs:List (List Int)} (h:ZT vs = true):len0 vs = 0 ↔ vs = []:=by
 cases vs with
 | nil=>simp [len0]
 | cons x l=>
  have:=(Z9 h (List.mem_cons_self ..)).2.1;simp [len0];rintro rfl;simp at this
def flK (gs:List (List (List Int))) (k:Nat):List (List Int):=(gs.take k).flatten
theorem ZaD (gs:List (List (List Int))):flK gs 0 = []:=by simp [flK]
theorem ZaE {gs:List (List (List Int))} {k:Nat} (hk:k < gs.length):flK gs (k + 1) = flK gs k ++ gs[k]:=by
 unfold flK;rw [List.take_succ_eq_append_getElem hk,List.flatten_append];simp only [List.flatten_cons,List.flatten_nil,List.append_nil]
theorem Zch {gs:List (List (List Int))} {k:Nat} (hk:gs.length <= k):flK gs k = gs.flatten:=by simp [flK,List.take_of_length_le hk]
theorem Zhq {gs:List (List (List Int))} {k:Nat}:∃ r,gs.flatten = flK gs k ++ r:=⟨(gs.drop k).flatten,by rw [flK,<- List.flatten_append,List.take_append_drop]⟩
theorem Zis {gs:List (List (List Int))} {k:Nat} (hk:k < gs.length) (j:Nat):∃ r,gs.flatten = flK gs k ++ gs[k].take j ++ r:=by
 obtain ⟨r,hr⟩:=Zhq (gs:=gs) (k:=k + 1);refine ⟨gs[k].drop j ++ r,?_⟩;rw [hr,ZaE hk]
 conv=>lhs;rw [<- List.take_append_drop j gs[k]]
 simp only [List.append_assoc]
theorem Zhr {gs:List (List (List Int))} (h:∀ g ∈ gs,g.length <= 10000) (k:Nat) (hk:k <= 1000):(flK gs k).length <= 10000000:=by
 have key:∀ k,(flK gs k).length <= k * 10000:=by
  intro k
  induction k with
  | zero=>simp [flK]
  | succ k ih=>
   by_cases hlt:k < gs.length
   ·rw [ZaE hlt,List.length_append];have:=h _ (List.getElem_mem hlt);omega
   ·have e:flK gs (k + 1) = flK gs k:=(Zch (gs:=gs) (k:=k + 1) (by omega)).trans (Zch (gs:=gs) (k:=k) (by omega)).symm;rw [e];exact Nat.le_trans ih (Nat.mul_le_mul_right _ (Nat.le_succ k))
 have:=key k;omega
theorem ZeC {gs:List (List (List Int))} {k:Nat} (hk:k < gs.length) (he:gs[k] = []):QB gs = false:=by
 unfold QB;rw [Bool.and_eq_false_iff];left;rw [List.all_eq_false];exact ⟨_,List.getElem_mem hk,by simp [he]⟩
theorem Zhi {gs:List (List (List Int))} {k j:Nat} (hk:k < gs.length) (hj:j < gs[k].length) (h:ZT (flK gs k ++ gs[k].take j ++ [gs[k][j]]) = false):QB gs = false:=by
 unfold QB;rw [Bool.and_eq_false_iff];right;obtain ⟨r,hr⟩:=Zis hk (j + 1);rw [List.take_succ_eq_append_getElem hj] at hr;rw [Bool.eq_false_iff];intro ht;rw [hr] at ht;have:=ZdJ ht;rw [<- List.append_assoc] at this;rw [this] at h;cases h
end Ear
namespace Ear

def ZaV (vs:List (List Int)) (n k j:Nat):List Int:=(List.range n).map fun c=>if c < j then Qs vs c (k + 1) else Qs vs c k
theorem Zd6 (vs:List (List Int)) (n k:Nat):ZaV vs n k 0 = QR vs n k:=by
 unfold ZaV QR;apply List.map_congr_left;intro c _;rw [if_neg (by omega)]
theorem ZfN (vs:List (List Int)) (n k:Nat):ZaV vs n k n = QR vs n (k + 1):=by
 unfold ZaV QR;apply List.map_congr_left;intro c hc;rw [if_pos (List.mem_range.1 hc)]
theorem UM (vs:List (List Int)) (n k j:Nat):(ZaV vs n k j).length = n:=by simp [ZaV]
theorem ZfM {vs:List (List Int)} {n k j:Nat} (hj:j < n):(ZaV vs n k j)[j]?.getD 0 = Qs vs j k:=by
 simp [ZaV,List.getElem?_range hj]
theorem ZfL {vs:List (List Int)} {n k j:Nat}:(ZaV vs n k j).set j (Qs vs j k + (vs[k]?.getD [])[j]?.getD 0) = ZaV vs n k (j + 1):=by
 apply List.ext_getElem (by simp [ZaV]);intro q h1 h2;have hq:q < n:=by simpa [ZaV] using h2
 rw [List.getElem_set];simp only [ZaV,List.getElem_map,List.getElem_range];by_cases e:j = q
 ·subst e;rw [if_pos rfl,if_pos (by omega)];rfl
 ·rw [if_neg e];by_cases h3:q < j
  ·rw [if_pos h3,if_pos (by omega)]
  ·rw [if_neg h3,if_neg (by omega)]
theorem ZhG {lo hi:Int} {l:List Int} (h:Xy lo hi l = true) {k:Nat} (hk:k < l.length):lo <= l[k]?.getD 0 /\ l[k]?.getD 0 <= hi:=by
 rw [List.getElem?_eq_getElem hk,Option.getD_some];exact ZF h (List.getElem_mem hk)
def gD (va vb:List (List Int)) (c:Nat):Int:=Qs va c va.length * vb.length - Qs vb c vb.length * va.length
def gI (va vb:List (List Int)):Nat -> Int
 | 0=>0
 | c + 1=>gI va vb c + gD va vb c * gD va vb c
def Zf8 (va vb:List (List Int)):Rat:=(gI va vb (len0 va):Rat) * (((va.length * vb.length * (va.length + vb.length):Nat):Int):Rat)⁻¹
end Ear
