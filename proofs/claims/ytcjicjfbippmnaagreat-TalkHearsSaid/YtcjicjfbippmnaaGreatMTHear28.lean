/- TalkHears -/
import Derived.Test.YtcjicjfbippmnaaGreatMTHear27
set_option maxRecDepth 100000
set_option maxHeartbeats 32000000
namespace Go.Proofs.YtcjicjfbippmnaaGreat
open Go.RowKit Ear

structure TOk (w:World) (t:TT):Prop where
 tab:Tb w t.A t.L
 nil:t.A = none -> t.c = 0 /\ t.L = []
 ok:UL t.o t.v (Jp t.L) = 0
theorem TOk.below {w w':World} {t:TT} (h:TOk w t) (hb:RowKit.Below w.heap.size w w'):TOk w' t:=⟨h.tab.below hb,h.nil,h.ok⟩
theorem TOk.len {w:World} {t:TT} (h:TOk w t):t.L.length <= 20000:=by have:=(Yr.1 h.ok).1;simpa using this
theorem TOk.words {w:World} {t:TT} (h:TOk w t):∀ g ∈ t.L,g.1.2.2.length <= 1000:=fun g hg=>by
 have:=Zap h.ok _ (WV (f:=fun g:Gm=>(g.1.2.2,g.2)) hg);have:=this.1;simp only at this;omega
structure LrI (w:World) (base p:Nat) (B:Option Addr) (cap:Nat) (Ts:List TT):Prop where
 cell:w.heap[p]? = some (.cells #[.slice B Ts.length cap] 157 (0,0))
 row:w.ownsRow base 84 3 (.slice B Ts.length cap) Ts.length (ZbS Ts)
 tab:∀ t ∈ Ts,TOk w t
 glo:∀ t ∈ Ts,GLo w base t.A t.c t.L
theorem LrI.below {w w':World} {base p cap:Nat} {B:Option Addr} {Ts:List TT} (h:LrI w base p B cap Ts) (hb:RowKit.Below w.heap.size w w'):LrI w' base p B cap Ts:=
 ⟨(hb.block p (aE h.cell).1).trans h.cell,Jh h.row hb,fun t ht=>(h.tab t ht).below hb,fun t ht=>(h.glo t ht).below hb⟩
theorem LrI.tts {w:World} {base p cap:Nat} {B:Option Addr} {Ts:List TT} (h:LrI w base p B cap Ts):TTs w B Ts:=⟨Lies.of_own h.row,fun t ht=>(h.tab t ht).tab,fun t ht=>(h.tab t ht).len⟩
theorem LrI.at_ {w:World} {base p cap:Nat} {B:Option Addr} {Ts:List TT} (h:LrI w base p B cap Ts):w.cell? ⟨p,0,none⟩ = some (.slice B Ts.length cap):=(cR 0 h.cell).trans rfl
theorem GLo.nilA {w:World} {base c:Nat} {A:Option Addr} {L:List Gm} (h:GLo w base A c L):A = none -> c = 0 /\ L = []:=fun e=>by
 subst e;rcases h.row.2 with ⟨e1,e2⟩ | ⟨g,cap,cur,e1,_⟩
 ·injection e1 with _ _ e3
  exact ⟨e3,Wb7.1 e2⟩
 ·injection e1 with e3;cases e3
structure Two (w w':World) (p:Nat) (q:Option Nat):Prop where
 os:w'.os = w.os
 tape:w'.tape = w.tape
 output:w'.output = w.output
 size:w.heap.size <= w'.heap.size
 block:∀ k,k < w.heap.size -> k ≠ p -> some k ≠ q -> w'.heap[k]? = w.heap[k]?
theorem Two.below {w w':World} {p:Nat} {q:Option Nat} {B:Nat} (h:Two w w' p q) (hB:B <= w.heap.size) (hp:B <= p) (hq:∀ k,q = some k -> B <= k):RowKit.Below B w w':=
 ⟨h.os,h.tape,h.output,h.size,fun k hk=>h.block k (by omega) (by omega) (fun e=>by have:=hq k e.symm;omega)⟩
theorem Zbk (w:World) (base:Nat) (t:TT) (hb:base <= w.heap.size):(w.alloc (.cells #[.int .i64 t.o,.int .i64 t.v,.slice t.A t.L.length t.c] 84)).ownsRow base 84 3 (.slice (some ⟨w.heap.size,0,none⟩) 1 1) 1 (ZbS [t]):=
 ⟨rfl,.inr ⟨w.heap.size,1,_,rfl,hb,Wg w _,WK _,by unfold maxLen;omega,rfl,rfl⟩⟩
def ZiX (r o v:Int) (l:Tbl) (w:World) (e:Ending) (w':World):Prop:=
 RowKit.Below w.heap.size w w' /\ if r = 0 then ∃ p B t,e = .returned (.tuple #[.pointer (some ⟨p,0,none⟩),.int .i64 0]) /\ LrI w' w.heap.size p B 1 [t] /\ t.o = o /\ t.v = v /\ Jp t.L = l /\ w.heap.size <= p
  else e = .returned (.tuple #[.pointer none,.int .i64 r])
theorem Zfo (o v:Int) (A:Option Addr) (c:Nat) (L:List Gm) (w:World) (h:Tb w A L) (hA:A = none -> c = 0 /\ L = []) (hn:L.length <= 1000000) (r:Int) (hr:Hid (UL o v (Jp L) = r)) :
  Calls Tryz.prog 41 #[.agg #[.int .i64 o,.int .i64 v,.slice A L.length c]] w (ZiX r o v (Jp L) w):=by
 obtain ⟨W0,hW0⟩:∃ W0:World,W0 = w.alloc (.cells #[.int .i64 o,.int .i64 v,.slice A L.length c] 84):=⟨_,rfl⟩;have HB0:Hid (RowKit.Below w.heap.size w W0):=zH (by rw [hW0];exact bR.alloc nR _);have hs0:W0.heap.size = w.heap.size + 1:=by rw [hW0];simp
 have HX0:Hid (W0.heap[w.heap.size]? = some (.cells #[.int .i64 o,.int .i64 v,.slice A L.length c] 84 (0,0))):=zH (by rw [hW0];exact Wg w _);have HT:=zH (h.below HB0.out);clear h;go_enter Tryz.func41,Tryz.ntmps41;go_wp2_with fail;rw [<- hW0];clear hW0;refine (ZT o v A c L W0 HT.out (by omega) r hr).mono ?_;rintro e W1 ⟨rfl,hb1⟩;have HB1:Hid (RowKit.Below w.heap.size w W1):=zH (HB0.out.trans (hb1.mono HB0.out.size));have HT1:=zH (HT.out.below hb1);have hs1:W0.heap.size <= W1.heap.size:=hb1.size;have HX1:Hid (W1.heap[w.heap.size]? = some (.cells #[.int .i64 o,.int .i64 v,.slice A L.length c] 84 (0,0))):=zH ((hb1.block _ (by omega)).trans HX0.out);have x0:=(cR 0 HX1.out).trans rfl;have x1:=(cR 1 HX1.out).trans rfl;have x2:=(cR 2 HX1.out).trans rfl;clear hb1;by_cases h0:r = 0
 ·subst h0;have HR:=zH hr.out;have hn2:L.length <= 20000:=by have:=(Yr.1 hr.out).1;simpa using this
  have HWD:Hid (∀ g ∈ L,g.1.2.2.length <= 1000):=zH (fun g hg=>by
   have:=(Zap hr.out _ (WV (f:=fun g:Gm=>(g.1.2.2,g.2)) hg)).1;simp only at this;omega)
  go_wp2_with fail;refine (UK o v A c L W1 HT1.out hA hn2 HWD).mono ?_;rintro e W2 ⟨A',c',L',rfl,hL,htb,hb2⟩;have HL:=zH hL;have HTB:=zH htb;have HB2:=zH (HB1.out.trans (hb2.mono HB1.out.size));clear hL htb hb2;go_wp2_with fail;go_ret2;have h9:=al2 W2 (.cells #[.int .i64 o,.int .i64 v,.slice A' L'.length c'] 84) (.cells #[.slice (some ⟨W2.heap.size,0,none⟩) 1 1] 157);refine ⟨HB2.out.trans (h9.mono HB2.out.size),?_⟩;rw [WA rfl];refine ⟨W2.heap.size + 1,some ⟨W2.heap.size,0,none⟩,⟨o,v,A',c',L'⟩,rfl,⟨?_,?_,?_,?_⟩,rfl,rfl,HTB.out,by have:=HB2.out.size;omega⟩
  ·have:=Wg (W2.alloc (.cells #[.int .i64 o,.int .i64 v,.slice A' L'.length c'] 84)) (.cells #[.slice (some ⟨W2.heap.size,0,none⟩) 1 1] 157);simpa using this
  ·exact (Zbk W2 w.heap.size ⟨o,v,A',c',L'⟩ HB2.out.size).alloc _
  ·intro t ht;simp at ht;subst ht;exact ⟨(HL.out.tb).below h9,HL.out.nilA,by rw [HTB.out];exact HR.out⟩
  ·intro t ht;simp at ht;subst ht;exact (HL.out.below h9).le HB1.out.size
 ·go_wp2_with fail;go_ret2;refine ⟨HB1.out,?_⟩;rw [Ww h0];rfl
theorem Zdl (base p cap:Nat) (B:Option Addr) (Ts:List TT) (t:TT) (w:World) (h:LrI w base p B cap (Ts ++ [t])) (hm:Ts.length <= 1000000) :
  Calls Tryz.prog 47 #[.pointer (some ⟨p,0,none⟩)] w fun e w'=>∃ A c L',e = .returned (.tuple #[.agg #[.int .i64 t.o,.int .i64 t.v,.slice A (L':List Gm).length c],.int .i64 0]) /\ GLo w' w.heap.size A c L' /\ Jp L' = Jp t.L /\ RowKit.Below w.heap.size w w':=by
 obtain ⟨W0,hW0⟩:∃ W0:World,W0 = w.alloc (.cells #[.int .i64 0,.int .i64 0,.slice none 0 0] 84):=⟨_,rfl⟩;have HB0:Hid (RowKit.Below w.heap.size w W0):=zH (by rw [hW0];exact bR.alloc nR _);have hs0:W0.heap.size = w.heap.size + 1:=by rw [hW0];simp
 have HX0:Hid (W0.heap[w.heap.size]? = some (.cells #[.int .i64 0,.int .i64 0,.slice none 0 0] 84 (0,0))):=zH (by rw [hW0];exact Wg w _);have H0:=zH (h.below HB0.out);have hlen:(Ts ++ [t]).length = Ts.length + 1:=by simp
 have ht0:=H0.out.tab t (by simp);have hat:=H0.out.at_;rw [hlen] at hat;have HAT:=zH hat;have HT0:=zH ht0;clear h ht0 hat hlen;go_enter Tryz.func47,Tryz.ntmps47;go_wp2_with fail;rw [<- hW0];clear hW0;refine (Uh p (Ts.length + 1) cap B W0 HAT.out (by omega)).mono ?_;rintro e W0' ⟨rfl,rfl⟩;go_wp2_with fail;refine (Ux p cap B Ts t W0' HAT.out H0.out.tts hm).mono ?_;rintro e W1 ⟨rfl,hb1⟩;have HB1:Hid (RowKit.Below w.heap.size w W1):=zH (HB0.out.trans (hb1.mono HB0.out.size));have HT1:=zH (HT0.out.below hb1);have hs1:W0'.heap.size <= W1.heap.size:=hb1.size;have HX1:Hid (W1.heap[w.heap.size]? = some (.cells #[.int .i64 0,.int .i64 0,.slice none 0 0] 84 (0,0))):=zH ((hb1.block _ (by omega)).trans HX0.out);clear hb1;obtain ⟨xo,xv,xA,xc,xL⟩:=t;unfold TT.val;simp only at *
 go_wp2_with fail;refine (UK xo xv xA xc xL W1 HT1.out.tab HT1.out.nil HT1.out.len (zH HT1.out.words)).mono ?_;rintro e W2 ⟨A',c',L',rfl,hL,htb,hb2⟩;have HL:=zH hL;have HTB:=zH htb;have HX2:Hid (W2.heap[w.heap.size]? = some (.cells #[.int .i64 0,.int .i64 0,.slice none 0 0] 84 (0,0))):=zH ((hb2.block _ (by omega)).trans HX1.out);have HB2:=zH (HB1.out.trans (hb2.mono HB1.out.size));have hs2:W1.heap.size <= W2.heap.size:=hb2.size;have d0:=(cR 0 HX2.out).trans rfl;have d1:=(cR 1 HX2.out).trans rfl;have d2:=(cR 2 HX2.out).trans rfl;have f0:=Js HX2.out 0;have f1:=Js HX2.out 1;have f2:=Js HX2.out 2;clear hL htb hb2;go_wp2_with fail;have hr6:=ZcE HX2.out (.int .i64 xo) (.int .i64 xv) (.slice A' L'.length c');have g0:=(cR 0 hr6).trans rfl;have g1:=(cR 1 hr6).trans rfl;have g2:=(cR 2 hr6).trans rfl;refine WB (v:=.tuple #[.agg #[.int .i64 xo,.int .i64 xv,.slice A' L'.length c'],.int .i64 0]) (by simp [results,Tryz.results47,go_sem,g0,g1,g2]) rfl ?_;exact ⟨A',c',L',rfl,(HL.out.block (by simp [World.setCell]) (fun b hb=>J9 (by
  rcases hb with hb | hb
  ·exact hb.ne ⟨_,_,HX2.out⟩ (by decide)
  ·exact hb.1.ne ⟨_,_,HX2.out⟩ (by decide)) _ _ _)).le (by omega),HTB.out,((HB2.out.setCell nR _).setCell nR _).setCell nR _⟩
theorem Z7 {g:List Int} {o:Nat} (h:g.length = o) (ho:o <= 4):gmW o (kOf g) = g:=by
 subst h;unfold gmW kws kOf
 match g,ho with
 | [],_=>rfl
 | [a],_=>simp [kx]
 | [a,b],_=>simp [kx]
 | [a,b,c],_=>simp [kx]
 | [a,b,c,d],_=>simp [kx]
 | _ :: _ :: _ :: _ :: _ :: _,h=>simp at h
def FromG (o:Nat) (v:Int) (m:List (K4 × Int)):Prop:=∀ p ∈ m,1 <= p.2 /\ ∃ g,g.length = o /\ p.1 = kOf g /\ ZJ 0 v g = true
theorem FromG.put {o:Nat} {v:Int} {m:List (K4 × Int)} (h:FromG o v m) {g:List Int} (hg:g.length = o) (ha:ZJ 0 v g = true) {n:Int} (hn : 1 <= n):FromG o v (Y8 m (kOf g) ((J5 m (kOf g)).getD 0 + n)):=fun p hp=>by
 rcases ZF hp with rfl | hp
 ·refine ⟨?_,g,hg,rfl,ha⟩;have : 0 <= (J5 m (kOf g)).getD 0:=by
   cases hq:J5 m (kOf g) with
   | none=>simp
   | some y=>have:=(h _ (UD hq)).1;simp at this ⊢;omega
  show 1 <= _ + n;omega
 ·exact h p hp
theorem Qh {o:Nat} (ho : 1 <= o) {v:Int} (hv : 0 <= v) {s:List Int} (ha:ZJ 1 v s = true):∀ k,k <= s.length + 1 -> FromG o v (YQ o s k)
 | 0,_=>fun p h=>by simp [YQ] at h
 | k + 1,hk=>by
  unfold YQ;refine (Qh ho hv ha k (by omega)).put (XE ho (by omega)) (Zh0 fun x hx=>?_) (by omega);rcases Uj hx with rfl | hx
  ·omega
  ·have:=VP ha hx;omega
theorem Q3 {m:List (K4 × Int)} (h:(m.map (·.1)).Nodup) (k:K4) (n:Int):((Y8 m k n).map (·.1)).Nodup:=by
 rw [ZeD];cases hq:J5 m k with
 | some y=>simpa using h
 | none=>
  simp only [Option.isSome_none,Bool.false_eq_true,if_false];rw [List.nodup_append];refine ⟨h,by simp,?_⟩;intro a ha b hb e;simp at hb;subst hb;subst e;obtain ⟨p,hp,e⟩:=WaO.1 ha;exact Zt.1 hq p hp e
theorem Zad (o:Nat) (s:List Int):∀ k,((YQ o s k).map (·.1)).Nodup
 | 0=>by simp [YQ]
 | k + 1=>by unfold YQ;exact Q3 (Zad o s k) _ _
theorem Zs:∀ (l:Tbl) (m:List (K4 × Int)),(m.map (·.1)).Nodup -> ((mrg m l).map (·.1)).Nodup
 | [],_,h=>h
 | _ :: l,_,h=>Zs l _ (Q3 h _ _)
theorem Vu {o:Nat} {v:Int}:∀ (l:Tbl) (m:List (K4 × Int)),FromG o v m -> (∀ g ∈ l,g.1.length = o /\ ZJ 0 v g.1 = true /\ 1 <= g.2) -> FromG o v (mrg m l)
 | [],_,h,_=>h
 | g :: l,_,h,hg=>Vu l _ (h.put (hg g (by simp)).1 (hg g (by simp)).2.1 (hg g (by simp)).2.2) (fun x hx=>hg x (by simp [hx]))
theorem Vi {o v:Int} {l:Tbl} (h:UL o v l = 0):∀ g ∈ l,(g.1.length:Int) = o /\ ZJ 0 v g.1 = true /\ 1 <= g.2 /\ g.2 <= 1073741824:=fun g hg=>by
 obtain ⟨_,_,h3⟩:=Yr.1 h;obtain ⟨k,hk,rfl⟩:=Wb0 hg;have hr:=WP.1 h3 k (WT.2 hk);unfold Zj at hr;rw [Xl hk] at hr;simp only [Bool.and_eq_true] at hr;exact Zc.1 hr.1
theorem ZgS {o:Nat} {v:Int} {m:List (K4 × Int)} {T:Tbl} (hz:YT o v = true) (hf:FromG o v m) (hn:(m.map (·.1)).Nodup) (hl:m.length <= 20000) (hb:∀ p ∈ m,p.2 <= 1073741824)
  (hp:T.Perm (m.map fun p=>(gmW o p.1,p.2))) (hs:T.Pairwise fun x y=>¬ Xm y.1 x.1 < 0):UL o v T = 0:=by
 have ho4:o <= 4:=by have:=(XO.1 hz).2.1;omega
 have hlen:T.length = m.length:=by have:=hp.length_eq;simpa using this
 have hnd:(T.map (·.1)).Nodup:=by
  have h1:=hp.map (fun g:List Int × Int=>g.1);rw [Wb9] at h1;refine h1.nodup_iff.2 ?_;rw [List.Nodup,WcM] at hn ⊢;refine hn.imp_of_mem (fun {a b} ha hb' hne e=>hne ?_);obtain ⟨_,g1,q1,q2,_⟩:=hf a ha;obtain ⟨_,g2,r1,r2,_⟩:=hf b hb';simp only [Function.comp] at e;rw [q2,r2,Z7 q1 ho4,Z7 r1 ho4] at e;rw [q2,r2,e]
 refine Yr.2 ⟨by omega,hz,Zd8 fun k hk=>?_⟩;unfold Zj;rw [Xl hk];simp only [Bool.and_eq_true,Bool.or_eq_true,beq_iff_eq,decide_eq_true_eq];refine ⟨?_,?_⟩
 ·have hm:=hp.mem_iff.1 (gM hk);obtain ⟨p,hpm,e⟩:=WaO.1 hm;obtain ⟨h1,g,q1,q2,q3⟩:=hf p hpm;rw [<- e,Zc];simp only;rw [q2,Z7 q1 ho4];exact ⟨by omega,q3,h1,hb p hpm⟩
 ·by_cases h0:k = 0
  ·exact .inl h0
  ·refine .inr ?_;have hk1:k - 1 < T.length:=(by omega);rw [Xl hk1];have h1:=WaN.1 hs (k - 1) k hk1 hk (by omega);rw [List.Nodup,WcM] at hnd;have h2:=WaN.1 hnd (k - 1) k hk1 hk (by omega);have h3:=UF T[k - 1].1 T[k].1;have h4:Xm T[k - 1].1 T[k].1 ≠ 0:=fun e=>h2 (Y1.1 e);omega
end Go.Proofs.YtcjicjfbippmnaaGreat
