/- TalkClusters -/
import Derived.Test.YtcjicjfbippmnaaGreatMTClus22
import Derived.Shelf.SlSortCmp.NoneTotal
set_option maxRecDepth 100000
set_option maxHeartbeats 32000000
namespace Go.Proofs.YtcjicjfbippmnaaGreat
open Go.RowKit Ear

theorem Zao (A:Option Addr) (c:Nat) (G:List Grp) (most:Int) (x:Fr) (w:World) (h:GG w A G) (hn:G.length <= 1000) (hg:∀ g ∈ G,g.2.2.length <= 10000) (r:Int) (hr:Hid (Zat (gvs G) = r)) (h0:r ≠ 0) :
  Calls Tryz.prog 23 #[.slice A G.length c,.int .i64 most,x.val] w fun e w'=>e = .returned (.tuple #[.slice none 0 0,.int .i64 r]) /\ Below w.heap.size w w':=by
 obtain ⟨W0,hW0⟩:∃ W0:World,W0 = w.alloc (.cells #[.bool x.neg,.slice x.A x.N.length x.c,.slice x.B x.D.length x.d] 28):=⟨_,rfl⟩;have HB0:Hid (Below w.heap.size w W0):=zH (by rw [hW0];exact bR.alloc nR _);have C1:=zH (Ym A c G W0 (h.below HB0.out) hn (zH hg) r hr);have g0:(r != 0) = true:=bne_iff_ne.2 h0;clear h hg hr h0;go_enter Tryz.func23,Tryz.ntmps23;go_wp2_with fail;rw [<- hW0];clear hW0;go_step3;go_wp2_with fail;refine C1.out.mono ?_;rintro e w' ⟨rfl,rfl⟩;clear C1;go_wp2_with fail;simp only [Exit.noGoto];go_ret2;exact ⟨rfl,HB0.out⟩
theorem Zbm (A:Option Addr) (c:Nat) (G:List Grp) (most:Int) (x:Fr) (w:World) (h:GG w A G) (hn:G.length <= 1000) (hg:∀ g ∈ G,g.2.2.length <= 10000) (hr:Hid (Zat (gvs G) = 0)) (hm:most < 1) :
  Calls Tryz.prog 23 #[.slice A G.length c,.int .i64 most,x.val] w fun e w'=>e = .returned (.tuple #[.slice none 0 0,.int .i64 2]) /\ Below w.heap.size w w':=by
 obtain ⟨W0,hW0⟩:∃ W0:World,W0 = w.alloc (.cells #[.bool x.neg,.slice x.A x.N.length x.c,.slice x.B x.D.length x.d] 28):=⟨_,rfl⟩;have HB0:Hid (Below w.heap.size w W0):=zH (by rw [hW0];exact bR.alloc nR _);have HX0:Hid (Fb W0 w.heap.size x):=zH (by rw [hW0];exact Fb.new w x);have C1:=zH (Ym A c G W0 (h.below HB0.out) hn (zH hg) 0 hr);clear h hg hr;obtain ⟨c0,c1,c2,f0,f1,f2⟩:=HX0.out.facts;go_enter Tryz.func23,Tryz.ntmps23;go_wp2_with fail;rw [<- hW0];clear hW0;go_step3;go_wp2_with fail;refine C1.out.mono ?_;rintro e w' ⟨rfl,rfl⟩;clear C1;go_wp2_with fail;simp only [Exit.noGoto];go_ret2;exact ⟨rfl,HB0.out⟩
theorem Zb3 (A:Option Addr) (c:Nat) (G:List Grp) (most:Int) (x:Fr) (q:Rat) (w:World) (h:GG w A G) (hn:G.length <= 1000) (hg:∀ g ∈ G,g.2.2.length <= 10000) (hr:Hid (Zat (gvs G) = 0)) (hm:¬ most < 1) (hx:Fv w x q) (fx:Few x 90000) (hq:Xw q < 0) :
  Calls Tryz.prog 23 #[.slice A G.length c,.int .i64 most,x.val] w fun e w'=>e = .returned (.tuple #[.slice none 0 0,.int .i64 2]) /\ Below w.heap.size w w':=by
 obtain ⟨W0,hW0⟩:∃ W0:World,W0 = w.alloc (.cells #[.bool x.neg,.slice x.A x.N.length x.c,.slice x.B x.D.length x.d] 28):=⟨_,rfl⟩;have HB0:Hid (Below w.heap.size w W0):=zH (by rw [hW0];exact bR.alloc nR _);have HX0:Hid (Fb W0 w.heap.size x):=zH (by rw [hW0];exact Fb.new w x);have HV0:=zH (hx.below HB0.out);have hs0:W0.heap.size = w.heap.size + 1:=by rw [hW0];simp
 have C1:=zH (Ym A c G W0 (h.below HB0.out) hn (zH hg) 0 hr);clear h hg hr hx;obtain ⟨c0,c1,c2,f0,f1,f2⟩:=HX0.out.facts;go_enter Tryz.func23,Tryz.ntmps23;go_wp2_with fail;rw [<- hW0];clear hW0;go_step3;go_wp2_with fail;refine C1.out.mono ?_;rintro e w' ⟨rfl,rfl⟩;clear C1;go_wp2_with fail;refine (ZY x q W0 HV0.out (by exact ⟨tR fx.n (by decide),tR fx.d (by decide)⟩) _ (zH rfl)).mono ?_;rintro e W1 ⟨rfl,hb1⟩;have HB1:=zH (HB0.out.trans (hb1.mono (by omega)));clear hb1 c0 c1 c2 f0 f1 f2 HX0 HV0;go_wp2_with fail;simp only [Exit.noGoto];go_ret2;exact ⟨rfl,HB1.out⟩
theorem Zbg (w:World) (n m:Nat):∃ k,(w.drewN n).drewN m = w.drewN k:=⟨_,World.drewN_drewN _ _ _⟩
theorem ZcI (A B:Option Addr) (c d:Nat) (a b:List Int) (w:World) (hA:Lies w A (ics a)) (hB:Lies w B (ics b)) (hl:a.length = b.length) (hn:a.length <= 9223372036854775807) (r:Int) (hr:Hid (Xd a b = r)) :
  Calls Tryz.prog 101 #[.slice A a.length c,.slice B b.length d] w fun e w'=>e = .returned (.int .i64 r) /\ ∃ n,w' = w.drewN n:=by
 rw [<- hl];have HL:=zH hl;clear hl;go_enter Tryz.func101,Tryz.ntmps101;go_wp2_with fail;go_loopw [5] (fun i wr=>∃ k:Nat,k <= a.length /\ i = .int .i64 k /\ Hid (a.take k = b.take k) /\ ∃ n,wr = w.drewN n) (fun i _=>a.length - (intOf i).toNat)
 case atStart=>exact ⟨0,by omega,rfl,zH (by simp),0,rfl⟩
 case round=>
  obtain ⟨k,hk,rfl,HE,n,hwd⟩:=hrel;have L1:Lies wr A (ics a):=by rw [hwd];exact hA.drewN n
  have L2:Lies wr B (ics b):=by rw [hwd];exact hB.drewN n
  have WD:=zH hwd;clear hwd;by_cases hlt:k < a.length
  ·have hlb:k < b.length:=by rw [<- HL.out];exact hlt
   obtain ⟨b1,o1,rfl,hb1,hc1⟩:=L1.at_ hlt;obtain ⟨b2,o2,rfl,hb2,hc2⟩:=L2.at_ hlb;have HAT:=zH (fun hne=>ZeH (k:=k) HE.out hlt hlb hne);have HSU:=zH (fun he=>VP (k:=k) HE.out hlt hlb he);have e1:a[k]?.getD 0 = a[k]:=(by rw [gE hlt];rfl);have e2:b[k]?.getD 0 = b[k]:=(by rw [gE hlb];rfl);rw [e1] at hc1;rw [e2] at hc2;clear e1 e2;generalize a[k] = x at *
   generalize b[k] = y at *
   by_cases he:x = y
   ·subst he;have HN:=zH (HSU.out rfl);clear HAT HSU;go_wp2_with fail;go_quiet (fail);go_wp2_with fail;exact ⟨⟨k + 1,by omega,by go_num,HN,by rw [WD.out];exact Xu _ _ _⟩,by simp [intOf];omega⟩
   ·have q:(x != y) = true:=(by simpa using he);have hne:Zau x y ≠ 0:=fun h=>he (Vq.1 h);have hz:Zau x y = r:=(by rw [<- hr.out,HAT.out hne]);have hne':=zH hne;clear HAT HSU hne he;by_cases hlt2:x < y
    ·have hz1:r = -1:=(by rw [<- hz];unfold Zau;rw [if_pos hlt2]);subst hz1;clear hz hne';go_wp2_with fail;go_quiet (fail);go_wp2_with fail;go_quiet (fail);go_wp2_with fail;go_ret;exact ⟨rfl,by rw [WD.out];exact ⟨_,by rw [World.drewN_drewN,World.drewN_drewN]⟩⟩
    ·have hz1:r = 1:=by
      have h2:=hne'.out;rw [<- hz];unfold Zau at h2 ⊢;rw [if_neg hlt2] at h2 ⊢;split at h2
      ·rename_i h3;rw [if_pos h3]
      ·exact absurd rfl h2
     subst hz1;clear hz hne';go_wp2_with fail;go_quiet (fail);go_wp2_with fail;go_quiet (fail);go_wp2_with fail;go_ret;exact ⟨rfl,by rw [WD.out];exact ⟨_,by rw [World.drewN_drewN,World.drewN_drewN]⟩⟩
  ·obtain rfl:k = a.length:=by omega
   have hz:r = 0:=by
    rw [<- hr.out,Zcz (by have:=HE.out;simpa using this) (by rw [HL.out];exact Nat.le_refl _),if_neg (by rw [HL.out];exact Nat.lt_irrefl _)]
   subst hz;go_wp2_with fail;go_ret;exact ⟨rfl,n,WD.out⟩
theorem ZaB (A B:Option Addr) (c d:Nat) (a b:List Int) (w:World) (hA:Lies w A (ics a)) (hB:Lies w B (ics b)) (hl:a.length = b.length) (hn:a.length <= 9223372036854775807) (r:Int) (hr:Hid (Xd a b = r)) (m:Nat) :
  Calls Tryz.prog 101 #[.slice A a.length c,.slice B b.length d] (w.drewN m) fun e w'=>e = .returned (.int .i64 r) /\ ∃ k,w' = (w.drewN m).drewN k:=
 ZcI A B c d a b (w.drewN m) (hA.drewN m) (hB.drewN m) hl hn r hr
theorem Zdw (w:World) (o1 o2:Obj):((w.alloc o1).alloc o2).drew.heap[w.heap.size]? = some o1:=(Below.heap_alloc _ _ _ (by simp)).trans (heap_alloc_new w _)
theorem Zdv (w:World) (o1 o2:Obj):((w.alloc o1).alloc o2).drew.heap[w.heap.size + 1]? = some o2:=by
 have h:=heap_alloc_new (w.alloc o1) o2;rw [show (w.alloc o1).heap.size = w.heap.size + 1 by simp] at h;exact h
structure PredII (g:FuncId) (lb:Array Value) (p:List Int -> Bool) (L:List Inn) (w:World):Prop where
 enter:∀ (args:Array Value) (w:World),(callFunc g args).run Tryz.prog w = .ok (.enter g args) w
 gives:∀ (u:World),Below w.heap.size w u -> ∀ x ∈ L,Calls Tryz.prog g (#[.slice x.1 x.2.2.length x.2.1] ++ lb) u (Zdn (p x.2.2) u)
def Zi0 (b:Bool) (w:World) (e:Ending) (w':World):Prop:=∃ r:Int,e = .returned (.int .i64 r) /\ Below w.heap.size w w' /\ decide (0 <= r) = b
theorem Za6 {p:List Int -> Bool} {L:List Inn} {k:Nat} (hk:k < L.length) (h:((Jk L).take k).any p = false) (hx:p L[k].2.2 = false):((Jk L).take (k + 1)).any p = false:=by
 rw [List.take_succ_eq_append_getElem (by simpa using hk),List.any_append,h];simp [hx]
theorem Zb0 (g:FuncId) (q:Array Value) (p:List Int -> Bool) (A:Option Addr) (c:Nat) (L:List Inn) (w:World) (hp:PredII g q p L w) (h:LL w A L) (hn:L.length <= 9223372036854775807) (lb:Array Value) (hlb:lb = q) :
  Calls Tryz.prog 183 #[.slice A L.length c,.func (.func g) #[] lb] w (Zi0 ((Jk L).any p) w):=by
 have heg:=hp.enter;subst hlb;have HP:=zH hp.gives;clear hp;go_enter Tryz.func183,Tryz.ntmps183;go_wp2_with fail;go_loopw [8] (fun i wr=>∃ k:Nat,k <= L.length /\ i = .int .i64 k /\ Hid (((Jk L).take k).any p = false) /\ Hid (Below w.heap.size w wr)) (fun i _=>L.length - (intOf i).toNat)
 case atStart=>exact ⟨0,Nat.zero_le _,rfl,zH rfl,zH bR⟩
 case round=>
  obtain ⟨k,hk,rfl,HN,HB⟩:=hrel;by_cases hlt:k < L.length
  ·obtain ⟨bk,off,rfl,hbk,hc⟩:=(h.below HB.out).lies.lat hlt;have HC:=zH (HP.out wr HB.out _ (yM hlt));have HT:Hid (p L[k].2.2 = true -> (Jk L).any p = true):=zH (fun hx=>List.any_eq_true.2 ⟨L[k].2.2,List.mem_map_of_mem (f:=fun x:Inn=>x.2.2) (yM hlt),hx⟩);have HF:Hid (p L[k].2.2 = false -> ((Jk L).take (k + 1)).any p = false):=zH (fun hx=>Za6 hlt HN.out hx);generalize L[k] = X at *
   obtain ⟨XA,Xc,xl⟩:=X;simp only at *
   cases hpx:p xl with
   | true=>
    have hT:=HT.out hpx;have HR:=zH hT;rw [hpx] at HC;clear hpx HT HF hT;go_wp2_with fail;refine HC.out.mono ?_;rintro e w' ⟨rfl,hb⟩;have HB2:=zH (HB.out.trans (hb.mono HB.out.size));clear hb HC;go_wp2_with fail;go_ret;exact ⟨k,rfl,HB2.out,by rw [HR.out];simp⟩
   | false=>
    have HR:=zH (HF.out hpx);rw [hpx] at HC;clear hpx HT HF;go_wp2_with fail;refine HC.out.mono ?_;rintro e w' ⟨rfl,hb⟩;have HB2:=zH (HB.out.trans (hb.mono HB.out.size));clear hb HC;go_wp2_with fail;exact ⟨⟨k + 1,by omega,by go_num,HR,HB2⟩,by simp [intOf];omega⟩
  ·have hz:=HN.out;rw [List.take_of_length_le (by simp;omega)] at hz;have HZ:=zH hz;clear hz HN;go_wp2_with fail;go_ret;exact ⟨-1,rfl,HB.out,by rw [HZ.out];rfl⟩
theorem ZE (g:FuncId) (q:Array Value) (p:List Int -> Bool) (A:Option Addr) (c:Nat) (L:List Inn) (w:World) (hp:PredII g q p L w) (h:LL w A L) (hn:L.length <= 9223372036854775807) (b:Bool) (hb:Hid ((Jk L).any p = b)) :
  Calls Tryz.prog 153 #[.slice A L.length c,.func (.func g) #[] q] w (Zdn b w):=by
 go_enter Tryz.func153,Tryz.ntmps153;go_wp2_with fail;refine (Zb0 g q p A c L _ hp h hn q rfl).mono ?_;rintro e w' ⟨r,rfl,hbw,hr⟩;rw [hb.out] at hr;have HR:=zH hr;clear hr;go_wp2_with fail;go_ret;exact ⟨Ju HR.out,hbw⟩
theorem Zby (A:Option Addr) (c n:Nat) (w:World) (b:Bool) (hb:Hid (decide (500 < n) = b)):Calls Tryz.prog 154 #[.slice A n c] w (Zdn b w):=by
 go_enter Tryz.func154,Tryz.ntmps154;go_wp2_with fail;go_ret;exact ⟨Ju (by rw [<- hb.out];simp [decide_eq_decide];omega),Below.refl _ _⟩
theorem Zdf (A:Option Addr) (c:Nat) (l:List Int) (v:Int) (bV:Nat) (w:World) (h:Lies w A (ics l)) (hn:l.length <= 9223372036854775807) (cV:w.cell? ⟨bV,0,none⟩ = some (.int .i64 v)) (b:Bool) (hb:Hid ((!YC 1 v l) = b)) :
  Calls Tryz.prog 155 #[.slice A l.length c,.pointer (some ⟨bV,0,none⟩)] w (Zdn b w):=by
 generalize hx:YC 1 v l = x at *
 have HX:=zH hx;clear hx;go_enter Tryz.func155,Tryz.ntmps155;go_wp2_with fail;refine (Xh A c l 1 v _ h hn x HX).mono ?_;rintro e w' ⟨rfl,hb2⟩;go_wp2_with fail;go_ret;exact ⟨Ju hb.out,hb2⟩
theorem ZaF (L:List Inn) (w:World):PredII 154 #[] (fun l=>decide (500 < l.length)) L w:=⟨enters_of Tryz.func154 (by kernel_rfl) rfl,fun u _ x _=>Zby x.1 x.2.1 x.2.2.length u _ (zH rfl)⟩
theorem Zb1 (L:List Inn) (w:World) (v:Int) (bV:Nat) (hl:∀ x ∈ L,InOk w x) (cV:w.cell? ⟨bV,0,none⟩ = some (.int .i64 v)) (hb:bV < w.heap.size):PredII 155 #[.pointer (some ⟨bV,0,none⟩)] (fun l=>!YC 1 v l) L w:=
 ⟨enters_of Tryz.func155 (by kernel_rfl) rfl,fun u hu x hx=>Zdf x.1 x.2.1 x.2.2 v bV u ((hl x hx).below hu).1 (hl x hx).2.2.1 ((hu.cell (p:=⟨bV,0,none⟩) hb).trans cV) _ (zH rfl)⟩
structure GLo (w:World) (base:Nat) (A:Option Addr) (c:Nat) (L:List Gm):Prop where
 row:w.ownsRow base 114 2 (.slice A L.length c) L.length (JY L)
 inn:∀ g ∈ L,InT w g.1
 num:∀ g ∈ L,-9223372036854775808 <= g.2 /\ g.2 <= 9223372036854775807
theorem GLo.tb {w:World} {base c:Nat} {A:Option Addr} {L:List Gm} (h:GLo w base A c L):Tb w A L:=⟨Lies.of_own h.row,fun g hg=>(h.inn g hg).1,h.num⟩
theorem GLo.nil (w:World) (base:Nat):GLo w base none 0 []:=⟨World.ownsRow_nil _ _ _ _,fun x h=>by simp at h,fun x h=>by simp at h⟩
theorem GLo.below {w w':World} {base c:Nat} {A:Option Addr} {L:List Gm} (h:GLo w base A c L) (hb:Below w.heap.size w w'):GLo w' base A c L:=⟨Jh h.row hb,fun x hx=>(h.inn x hx).below hb,h.num⟩
theorem GLo.le {w:World} {base base' c:Nat} {A:Option Addr} {L:List Gm} (h:GLo w base A c L) (hb:base' <= base):GLo w base' A c L:=⟨Jy h.row hb,h.inn,h.num⟩
theorem Zem (L:List Gm) (g:Gm):JY (L ++ [g]) = JY L ++ [Value.slice g.1.1 g.1.2.2.length g.1.2.1,Value.int .i64 g.2]:=by simp [JY]
theorem GLo.snoc {w w':World} {base base' c c' n:Nat} {A A':Option Addr} {L:List Gm} {g:Gm} (h:GLo w base A c L) (hx:InT w g.1) (hgn : -9223372036854775808 <= g.2 /\ g.2 <= 9223372036854775807) (hg:w.grownBy w' (Value.slice A n c).ownBlock)
  (hr:w'.ownsRow base' 114 2 (.slice A' (L.length + 1) c') (L.length + 1) (JY L ++ [Value.slice g.1.1 g.1.2.2.length g.1.2.1,Value.int .i64 g.2])):GLo w' base' A' c' (L ++ [g]):=by
 have key:∀ y,InT w y -> InT w' y:=fun y hy=>hy.grown hg (e:=114) (fun k e _=>BT.of_own (v:=.slice A L.length c) h.row (by rw [<- e];cases A <;> rfl)) (by decide);refine ⟨by rw [Zem];simpa using hr,fun y hy=>?_,fun y hy=>?_⟩
 ·rcases List.mem_append.1 hy with hy | hy
  ·exact key _ (h.inn y hy)
  ·simp at hy;subst hy;exact key _ hx
 ·rcases List.mem_append.1 hy with hy | hy
  ·exact h.num y hy
  ·simp at hy;subst hy;exact hgn
theorem GLo.block {w w':World} {base c:Nat} {A:Option Addr} {L:List Gm} (h:GLo w base A c L) (hs:w.heap.size <= w'.heap.size) (hk:∀ b,BT w b 3 ∨ BT w b 114 /\ base <= b -> w'.heap[b]? = w.heap[b]?):GLo w' base A c L:=by
 refine ⟨?_,fun x hx=>(h.inn x hx).block hs fun b hb=>hk b (.inl hb),h.num⟩;have hrow:=h.row;obtain ⟨q1,q2⟩:=hrow;refine ⟨q1,?_⟩;rcases q2 with e | ⟨g,cap,cur,e,hb,hg,rest⟩
 ·exact .inl e
 ·refine .inr ⟨g,cap,cur,e,hb,(hk g (.inr ⟨⟨_,_,hg⟩,hb⟩)).trans hg,rest⟩
def kws (k:K4):List Int:=[k.1 - 1,k.2.1 - 1,k.2.2.1 - 1,k.2.2.2 - 1]
def gmW (o:Nat) (k:K4):List Int:=(kws k).take o
def kOk (k:K4):Prop:=(0 <= k.1 /\ k.1 <= 1000001) /\ (0 <= k.2.1 /\ k.2.1 <= 1000001) /\ (0 <= k.2.2.1 /\ k.2.2.1 <= 1000001) /\ (0 <= k.2.2.2 /\ k.2.2.2 <= 1000001)
abbrev MI (w:World) (b:Nat) (m:List (K4 × Int)):Prop:=MapIs Tryz.prog 203 ek (Value.int .i64) w b m
theorem UQ:(Tryz.prog.info? 114).map (fun i=>(i.zero,i.size,i.bytes)) = some (some (.agg #[.slice none 0 0,.int .i64 0]),2,32):=by kernel_rfl
theorem MI.len {w:World} {b:Nat} {m:List (K4 × Int)} (h:MI w b m) (ty:TypeId):(Builtin.len_ #[198] ty #[.map (some b)]).run Tryz.prog w = .ok (.int .i64 (m.length:Int)) w:=by
 obtain ⟨es,c,h1,h2⟩:=h.size;simp [Builtin.len_,run_underlying Tryz.underlying198,MapKept.run_getObj_map h1,goInt,Result.andThen,h2]
end Go.Proofs.YtcjicjfbippmnaaGreat
namespace Go.Proofs.YtcjicjfbippmnaaGreat
open Go.RowKit

def Vz:Go.Shelf.Ren:=⟨fun | 6=>185 | 15=>201 | 14=>200 | 28=>204 | 29=>213 | 20=>205 | 21=>206 | 22=>207 | 23=>208 | 24=>209 | 25=>210 | 26=>211 | 27=>212 | 46=>216 | 47=>217 | 48=>218 | 49=>219 | 50=>220 | 57=>222 | n=>n,fun | 22=>82 | 24=>114 | 25=>226 | 3=>3 | 39=>193 | 0=>0 | 53=>173 | 55=>152 | 4=>4 | 46=>257 | 45=>256 | 50=>216 | 5=>5 | 9=>9 | 66=>264 | 70=>268 | 76=>271 | 77=>272 | n=>n,fun n=>n⟩
theorem ZV:Go.Proofs.SlLaysF0.n6 Tryz.prog Vz:={
 mixed:=by kernel_rfl,
 f6 := ⟨"slices.SortFunc[[]earshot/api.Gram,earshot/api.Gram]", by decide, Tryz.func185.trans (congrArg some (by kernel_rfl))⟩,
 f14 := ⟨"slices.pdqsortCmpFunc[earshot/api.Gram]", by decide, Tryz.func200.trans (congrArg some (by kernel_rfl))⟩,
 f15:=Tryz.func201.trans (congrArg some (by kernel_rfl)),
 f20 := ⟨"slices.insertionSortCmpFunc[earshot/api.Gram]", by decide, Tryz.func205.trans (congrArg some (by kernel_rfl))⟩,
 f21 := ⟨"slices.heapSortCmpFunc[earshot/api.Gram]", by decide, Tryz.func206.trans (congrArg some (by kernel_rfl))⟩,
 f22 := ⟨"slices.breakPatternsCmpFunc[earshot/api.Gram]", by decide, Tryz.func207.trans (congrArg some (by kernel_rfl))⟩,
 f23 := ⟨"slices.choosePivotCmpFunc[earshot/api.Gram]", by decide, Tryz.func208.trans (congrArg some (by kernel_rfl))⟩,
 f24 := ⟨"slices.reverseRangeCmpFunc[earshot/api.Gram]", by decide, Tryz.func209.trans (congrArg some (by kernel_rfl))⟩,
 f25 := ⟨"slices.partialInsertionSortCmpFunc[earshot/api.Gram]", by decide, Tryz.func210.trans (congrArg some (by kernel_rfl))⟩,
 f26 := ⟨"slices.partitionEqualCmpFunc[earshot/api.Gram]", by decide, Tryz.func211.trans (congrArg some (by kernel_rfl))⟩,
 f27 := ⟨"slices.partitionCmpFunc[earshot/api.Gram]", by decide, Tryz.func212.trans (congrArg some (by kernel_rfl))⟩,
 f28:=Tryz.func204.trans (congrArg some (by kernel_rfl)),
 f29:=Tryz.func213.trans (congrArg some (by kernel_rfl)),
 f46 := ⟨"slices.siftDownCmpFunc[earshot/api.Gram]", by decide, Tryz.func216.trans (congrArg some (by kernel_rfl))⟩,
 f47:=Tryz.func217.trans (congrArg some (by kernel_rfl)),
 f48:=Tryz.func218.trans (congrArg some (by kernel_rfl)),
 f49 := ⟨"slices.medianAdjacentCmpFunc[earshot/api.Gram]", by decide, Tryz.func219.trans (congrArg some (by kernel_rfl))⟩,
 f50 := ⟨"slices.medianCmpFunc[earshot/api.Gram]", by decide, Tryz.func220.trans (congrArg some (by kernel_rfl))⟩,
 f57 := ⟨"slices.order2CmpFunc[earshot/api.Gram]", by decide, Tryz.func222.trans (congrArg some (by kernel_rfl))⟩,
 t0:=Tryz.underlying0,
 a0:=Tryz.isAgg0,
 z0:=Tryz.sizeOf0,
 v0:=Tryz.zeroValue0,
 t3:=Tryz.underlying3,
 a3:=Tryz.isAgg3,
 z3:=Tryz.sizeOf3,
 v3:=Tryz.zeroValue3,
 t4:=Tryz.underlying4,
 a4:=Tryz.isAgg4,
 z4:=Tryz.sizeOf4,
 v4:=Tryz.zeroValue4,
 t5:=Tryz.underlying5,
 a5:=Tryz.isAgg5,
 z5:=Tryz.sizeOf5,
 v5:=Tryz.zeroValue5,
 t9:=Tryz.underlying9,
 a9:=Tryz.isAgg9,
 z9:=Tryz.sizeOf9,
 v9:=Tryz.zeroValue9,
 t22:=Tryz.underlying82,
 a22:=Tryz.isAgg82,
 z22:=Tryz.sizeOf82,
 v22:=Tryz.zeroValue82,
 t25:=Tryz.underlying226,
 a25:=Tryz.isAgg226,
 z25:=Tryz.sizeOf226,
 v25:=Tryz.zeroValue226,
 t39:=Tryz.underlying193,
 a39:=Tryz.isAgg193,
 z39:=Tryz.sizeOf193,
 v39:=Tryz.zeroValue193,
 t45:=Tryz.underlying256,
 a45:=Tryz.isAgg256,
 z45:=Tryz.sizeOf256,
 v45:=Tryz.zeroValue256,
 t46:=Tryz.underlying257,
 a46:=Tryz.isAgg257,
 z46:=Tryz.sizeOf257,
 v46:=Tryz.zeroValue257,
 t50:=Tryz.underlying216,
 a50:=Tryz.isAgg216,
 z50:=Tryz.sizeOf216,
 v50:=Tryz.zeroValue216,
 t53:=Tryz.underlying173,
 a53:=Tryz.isAgg173,
 z53:=Tryz.sizeOf173,
 v53:=Tryz.zeroValue173,
 t55:=Tryz.underlying152,
 a55:=Tryz.isAgg152,
 z55:=Tryz.sizeOf152,
 v55:=Tryz.zeroValue152,
 t66:=Tryz.underlying264,
 a66:=Tryz.isAgg264,
 z66:=Tryz.sizeOf264,
 v66:=Tryz.zeroValue264,
 t70:=Tryz.underlying268,
 a70:=Tryz.isAgg268,
 z70:=Tryz.sizeOf268,
 v70:=Tryz.zeroValue268,
 t76:=Tryz.underlying271,
 a76:=Tryz.isAgg271,
 z76:=Tryz.sizeOf271,
 v76:=Tryz.zeroValue271,
 t77:=Tryz.underlying272,
 a77:=Tryz.isAgg272,
 z77:=Tryz.sizeOf272,
 v77:=Tryz.zeroValue272 }
open Go.Shelf Go.Sort Ear
abbrev GS (w:World):={ g:Gm // InT w g.1 }
instance (w:World):Inhabited (GS w):=⟨⟨((none,0,[]),0),InT.nil w⟩⟩
def Zad {w:World} (x:GS w):List Value:=[.slice x.1.1.1 x.1.1.2.2.length x.1.1.2.1,.int .i64 x.1.2]
def gcf {w:World} (x y:GS w):Int:=Xd x.1.1.2.2 y.1.1.2.2
theorem Zg9 (L:List Gm) (t:Nat) (ht:t < L.length * 2):(JY L)[t]? = some (if t % 2 = 0 then Value.slice (L[t / 2]?.getD default).1.1 (L[t / 2]?.getD default).1.2.2.length (L[t / 2]?.getD default).1.2.1 else .int .i64 (L[t / 2]?.getD default).2):=by
 have h2:t / 2 < L.length:=by omega
 obtain ⟨e1,e2⟩:=Vh L h2;rw [gE h2];rcases Nat.mod_two_eq_zero_or_one t with h | h
 ·rw [if_pos h];have e:t = t / 2 * 2:=by omega
  conv=>lhs;rw [e,e1]
  rfl
 ·rw [if_neg (by omega)];have e:t = t / 2 * 2 + 1:=by omega
  conv=>lhs;rw [e,e2]
  rfl
theorem QF {w:World} (L:List (GS w)):(flatK Zad 2 L.toArray).toList = JY (L.map (·.1)):=by
 apply List.ext_getElem?;intro t;by_cases ht:t < L.length * 2
 ·rw [Zg9 _ t (by simpa using ht)];have h1:(flatK Zad 2 L.toArray).toList[t]? = some ((flatK Zad 2 L.toArray)[t]!):=by
   rw [Array.getElem?_toList,getElem!_pos _ t (by simpa using ht)];exact Array.getElem?_eq_getElem (by simpa using ht)
  rw [h1,get_flatK _ _ _ t (by simpa using ht)];have h2:t / 2 < L.length:=by omega
  have h3:L.toArray[t / 2]! = L[t / 2]:=by rw [getElem!_pos _ _ (by simpa using h2)];simp
  rw [h3,List.getElem?_map,gE h2];rcases Nat.mod_two_eq_zero_or_one t with h | h <;> simp [Zad,h]
 ·rw [List.getElem?_eq_none (by simp;omega),List.getElem?_eq_none (by rw [Js];simp;omega)]
theorem Zhb (w:World):SWO (ltOf (gcf (w:=w))):=by
 constructor
 ·intro x;exact dF (by unfold gcf;rw [YO.2 rfl];omega)
 ·intro x y z h1 h2;exact decide_eq_true (Yb (of_decide_eq_true h1) (of_decide_eq_true h2))
 ·intro x y z h1 h2;have h1:=of_decide_eq_false h1;have h2:=of_decide_eq_false h2;refine dF fun h=>?_;unfold gcf at *
  have hn:=Um x.1.1.2.2 y.1.1.2.2;by_cases e:Xd y.1.1.2.2 x.1.1.2.2 = 0
  ·rw [YO] at e;rw [<- e] at h;exact h2 h
  ·exact h2 (Yb (show Xd y.1.1.2.2 x.1.1.2.2 < 0 by omega) h)
section
variable {w:World} {blk:Nat} {cur:Array Value} {fr:Nat × Nat}
theorem XP {α:Type} [Inhabited α] (enc : α -> List Value) (k off m:Nat) (dk:Array α) (os:Array Obj) {b:Nat} (hb:b < w.heap.size) (hne:b ≠ blk):(sortWorldK enc k w blk off m dk os).heap[b]? = w.heap[b]?:=by
 unfold sortWorldK;rw [heap_grow_old _ _ (by rw [size_putRowK];exact hb)];simp [putRowK,putRow,mapBlock,Sort.ahead,Array.getElem?_modify,Ne.symm hne]
theorem U7 {α:Type} [Inhabited α] (enc : α -> List Value) (k off m:Nat) (dk:Array α) (os:Array Obj) {e:TypeId} (hb:w.heap[blk]? = some (.cells cur e fr)):(sortWorldK enc k w blk off m dk os).heap[blk]? = some (.cells (putCells id off (flatK enc k dk) cur) e fr):=by
 have hg:blk < w.heap.size:=(aE hb).1;unfold sortWorldK;rw [heap_grow_old _ _ (by rw [size_putRowK];exact hg)];simp [putRowK,putRow,mapBlock,Sort.ahead,Array.getElem?_modify,hb,onCells]
theorem ZU {α:Type} [Inhabited α] (enc : α -> List Value) (k off m:Nat) (dk:Array α) (os:Array Obj):w.grownBy (sortWorldK enc k w blk off m dk os) (some blk):=
 ⟨rfl,rfl,rfl,size_sortWorldK_c enc k w blk off m dk os,fun b hb hne=>XP enc k off m dk os hb (fun e=>hne (by rw [e]))⟩
end
theorem Qg (x y:Gm) (W:World) (hx:InT W x.1) (hy:InT W y.1) :
  Calls Tryz.prog 186 #[.agg #[.slice x.1.1 x.1.2.2.length x.1.2.1,.int .i64 x.2],.agg #[.slice y.1.1 y.1.2.2.length y.1.2.1,.int .i64 y.2]] W fun e w'=>e = .returned (.int .i64 (Xd x.1.2.2 y.1.2.2)) /\ ∃ q os',w' = grow (W.drewN q) os':=by
 obtain ⟨V,hV⟩:∃ V:World,V = (W.alloc (.cells #[.slice x.1.1 x.1.2.2.length x.1.2.1,.int .i64 x.2] 114)).alloc (.cells #[.slice y.1.1 y.1.2.2.length y.1.2.1,.int .i64 y.2] 114):=⟨_,rfl⟩;have HB:Hid (Below W.heap.size W V):=zH (by rw [hV];exact al2 W _ _);have HX:=zH (hx.below HB.out);have HY:=zH (hy.below HB.out);have h0:V.heap[W.heap.size]? = some (.cells #[.slice x.1.1 x.1.2.2.length x.1.2.1,.int .i64 x.2] 114 (0,0)):=by rw [hV];exact (Below.heap_alloc _ _ _ (by simp)).trans (heap_alloc_new W _)
 have h1:V.heap[W.heap.size + 1]? = some (.cells #[.slice y.1.1 y.1.2.2.length y.1.2.1,.int .i64 y.2] 114 (0,0)):=by rw [hV];have:=heap_alloc_new (W.alloc (.cells #[.slice x.1.1 x.1.2.2.length x.1.2.1,.int .i64 x.2] 114)) (.cells #[.slice y.1.1 y.1.2.2.length y.1.2.1,.int .i64 y.2] 114);simpa using this
 have c0:V.cell? ⟨W.heap.size,0,none⟩ = some (.slice x.1.1 x.1.2.2.length x.1.2.1):=(cell_of_row V _ 0 _ _ _ h0).trans rfl;have c1:V.cell? ⟨W.heap.size + 1,0,none⟩ = some (.slice y.1.1 y.1.2.2.length y.1.2.1):=(cell_of_row V _ 0 _ _ _ h1).trans rfl;have HE:Hid (V = grow (W.drewN 0) #[.cells #[.slice x.1.1 x.1.2.2.length x.1.2.1,.int .i64 x.2] 114,.cells #[.slice y.1.1 y.1.2.2.length y.1.2.1,.int .i64 y.2] 114]):=zH (by rw [hV,alloc_eq_grow,alloc_eq_grow,grow_grow];rfl);clear h0 h1 hx hy;go_enter Tryz.func186,Tryz.ntmps186;go_wp2_with fail;rw [<- hV];clear hV;go_wp2_with fail;have hC:=VW x.1.1 y.1.1 x.1.2.1 y.1.2.1 x.1.2.2 y.1.2.2 V HX.out.1.1 HY.out.1.1 HX.out.1.2.2.1 HY.out.1.2.2.1 (Xd x.1.2.2 y.1.2.2) (zH rfl);refine hC.mono ?_;rintro e w' ⟨rfl,rfl⟩;go_wp2_with fail;go_ret;exact ⟨rfl,0,_,HE.out⟩
theorem ZfN (w:World):(isAgg 114).run Tryz.prog w = .ok true w:=Tryz.isAgg114 w
theorem Zel (w:World):(Go.sizeOf 114).run Tryz.prog w = .ok 2 w:=Tryz.sizeOf114 w
theorem V8 (cur:Array Value) (F:Array Value) (h:F.size <= cur.size):(putCells id 0 F cur).toList.take F.size = F.toList:=by
 apply List.ext_getElem?;intro j;by_cases hj:j < F.size
 ·rw [List.getElem?_take_of_lt hj,Array.getElem?_toList];simp [putCells,hj,show j < cur.size by omega]
 ·rw [List.getElem?_take_eq_none (by omega),List.getElem?_eq_none (by simp;omega)]
theorem ZdC (A:Option Addr) (c base:Nat) (L:List Gm) (w:World) (h:GLo w base A c L) (hA:L ≠ []) (hsz:L.length < 4611686018427387904) :
  Calls Tryz.prog 185 #[.slice A L.length c,.func (.func 186) #[] #[]] w fun e w'=>
   e = .returned (.tuple #[]) /\ ∃ L':List Gm,L'.Perm L /\ L'.Pairwise (fun x y=>¬ Xd y.1.2.2 x.1.2.2 < 0) /\ GLo w' base A c L' /\ w.grownBy w' (Value.slice A L.length c).ownBlock:=by
 have hrow:=h.row;obtain ⟨q1,q2⟩:=hrow;rcases q2 with ⟨_,e⟩ | ⟨g,cap,cur,e,hb,hg,hn,hm,hs,ht⟩
 ·have hlen:L.length = 0:=e;exact absurd (List.length_eq_zero_iff.1 hlen) hA
 ·injection e with e1 _ e3
  subst e1 e3;have hl:(JY L).length = L.length * 2:=Js L
  -- the row as elements that can be read
  let d:List (GS w):=L.attach.map fun g=>⟨g.1,h.inn g.1 g.2⟩;have hd:d.map (·.1) = L:=by
   simp only [d,List.map_map];exact List.attach_map_subtype_val L
  have hdl:d.length = L.length:=by simp [d]
  have hF:(flatK Zad 2 d.toArray).toList = JY L:=by rw [QF,hd]
  have hH:HoldsK Zad 2 w g 0 d.toArray:=by
   intro j hj;refine ⟨?_,by simp [World.frozen?,hg]⟩;have hj':j < (JY L).length:=(by rw [<- hF];simpa using hj);have h1:cur.toList[j]? = (JY L)[j]?:=by
    rw [<- ht,List.getElem?_take_of_lt (by omega)]
   simp only [World.cell?,hg,Nat.zero_add,Option.isSome_none,Bool.false_eq_true,if_false];rw [<- Array.getElem?_toList,h1,<- hF,Array.getElem?_toList,getElem!_pos _ j hj,Array.getElem?_eq_getElem hj];rfl
  have hlt:g < w.heap.size:=(aE hg).1;have hcmp:CmpLays Tryz.prog 186 #[] (Zad (w:=w)) 2 gcf g 0 d.toArray.size w:=by
   intro m os dk hdk x y;have key:∀ z:GS w,InT (sortWorldK Zad 2 w g 0 m dk os) z.1.1:=fun z=>z.2.block (size_sortWorldK_c Zad 2 w g 0 m dk os) fun b hbt=>
    XP Zad 2 0 m dk os hbt.lt (fun e=>by subst e;exact hbt.ne ⟨_,_,hg⟩ (by decide) rfl)
   exact Qg x.1 y.1 _ (key x) (key y)
  have hcall:=AnyQ.slices_SortFunc ZV 2 ZfN Zel Zad (fun _=>rfl) (fun x v hv=>by simp [Zad] at hv;rcases hv with rfl | rfl <;> rfl) gcf (Zhb w) 186 #[] g 0 c d.toArray w
   (enters_of Tryz.func186 (by kernel_rfl) rfl) hcmp hH hlt (by simp [hdl];exact hsz)
  have hds:d.toArray.size = L.length:=by simp [hdl]
  rw [hds] at hcall;refine hcall.mono ?_;rintro e w' ⟨rfl,d',n,os,⟨p1,p2,p3⟩,hsrt,rfl⟩;refine ⟨rfl,d'.toList.map (·.1),?_,?_,?_,ZU Zad 2 0 n d' os⟩
  ·have hs2:d'.size = L.length:=by rw [p1,hds]
   have e1:(d'.extract 0 L.length).toList = d'.toList:=(by rw [<- hs2];simp);have e2:(d.toArray.extract 0 L.length).toList = d:=(by rw [<- hdl];simp);rw [e1,e2] at p3;have:=p3.map (·.1)
   rwa [hd] at this
  ·have hs2:d'.size = L.length:=by rw [p1,hds]
   rw [List.pairwise_map,List.pairwise_iff_getElem];intro i j hi hj hij;simp at hi hj;have:=of_decide_eq_false (hsrt i j (Nat.zero_le _) hij (by omega));rw [getElem!_pos d' i hi,getElem!_pos d' j hj] at this;simpa [gcf] using this
  ·have hs2:d'.size = L.length:=by rw [p1,hds]
   have hml:(d'.toList.map (·.1)).length = L.length:=(by simp [hs2]);have hFd:(flatK Zad 2 d').toList = JY (d'.toList.map (·.1)):=(by have:=QF d'.toList;simpa using this);refine ⟨⟨by rw [Js],.inr ⟨g,c,putCells id 0 (flatK Zad 2 d') cur,by rw [hml],hb,U7 Zad 2 0 n d' os hg,by rw [hml];exact hn,hm,by simp [putCells,hs],?_⟩⟩,?_,?_⟩
   ·have:=V8 cur (flatK Zad 2 d') (by simp [hs2];omega);rw [hFd] at this;rw [<- this];congr 1;simp [hs2]
   ·intro x hx;obtain ⟨z,hz,rfl⟩:=List.mem_map.1 hx;exact z.2.block (size_sortWorldK_c Zad 2 w g 0 n d' os) fun b hbt=>
     XP Zad 2 0 n d' os hbt.lt (fun e=>by subst e;exact hbt.ne ⟨_,_,hg⟩ (by decide) rfl)
   ·intro x hx;have hs2:d'.size = L.length:=(by rw [p1,hds]);have e1:(d'.extract 0 L.length).toList = d'.toList:=(by rw [<- hs2];simp);have e2:(d.toArray.extract 0 L.length).toList = d:=(by rw [<- hdl];simp);rw [e1,e2] at p3;have:=p3.map (·.1);rw [hd] at this;exact h.num x (this.mem_iff.1 hx)
theorem ZdD (A:Option Addr) (c base:Nat) (L:List Gm) (w:World) (h:GLo w base A c L) (hsz:L.length < 4611686018427387904) :
  Calls Tryz.prog 185 #[.slice A L.length c,.func (.func 186) #[] #[]] w fun e w'=>
   e = .returned (.tuple #[]) /\ ∃ L':List Gm,L'.Perm L /\ L'.Pairwise (fun x y=>¬ Xd y.1.2.2 x.1.2.2 < 0) /\ GLo w' base A c L' /\ w.grownBy w' (Value.slice A L.length c).ownBlock:=by
 by_cases hA:L = []
 ·subst hA;refine (AnyF.slices_SortFunc_none ZV A c (.func (.func 186) #[] #[]) w).mono ?_;rintro e w' ⟨rfl,rfl⟩;exact ⟨rfl,[],List.Perm.refl _,List.Pairwise.nil,h,⟨rfl,rfl,rfl,Nat.le_refl _,fun _ _ _=>rfl⟩⟩
 ·exact ZdC A c base L w h hA hsz
end Go.Proofs.YtcjicjfbippmnaaGreat
