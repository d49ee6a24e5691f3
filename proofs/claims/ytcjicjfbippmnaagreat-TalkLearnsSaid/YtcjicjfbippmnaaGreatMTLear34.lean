/- TalkLearns -/
import Derived.Test.YtcjicjfbippmnaaGreatMTLear33
set_option maxRecDepth 100000
set_option maxHeartbeats 32000000
namespace Go.Proofs.YtcjicjfbippmnaaGreat
open Go.RowKit Ear

theorem LrI.btp {w:World} {base p cap:Nat} {B:Option Addr} {Ts:List TT} (h:LrI w base p B cap Ts):BT w p 157:=⟨_,_,h.cell⟩
theorem LrI.btB {w:World} {base p cap:Nat} {B:Option Addr} {Ts:List TT} (h:LrI w base p B cap Ts):∀ k,blk B = some k -> BT w k 84:=fun k hk=>BT.of_own (v:=.slice B Ts.length cap) h.row (by rw [<- hk];cases B <;> rfl)
theorem LrI.geB {w:World} {base p cap:Nat} {B:Option Addr} {Ts:List TT} (h:LrI w base p B cap Ts) (hn : 0 < Ts.length):∀ k,blk B = some k -> base <= k:=fun k hk=>by
 obtain ⟨g,cap',hv,hg,_⟩:=h.row.form hn;injection hv with e1
 subst e1;have hk':some g = some k:=hk;injection hk' with e2
 omega
def Zc9 (on:Nat) (T:Tbl) (cs:List (List Int × Int)):List Tbl:=(List.range (cs.length + 1)).map fun k=>Zp on T (cs.take k)
theorem ZdN (on:Nat) (T:Tbl) (cs:List (List Int × Int)) (x:List Int × Int):Zc9 on T (cs ++ [x]) = Zc9 on T cs ++ [Vh on (Zp on T cs) x.1 x.2]:=by
 unfold Zc9;rw [List.length_append,List.length_cons,List.length_nil,List.range_succ,List.map_append];congr 1
 ·apply List.map_congr_left;intro k hk;rw [List.mem_range] at hk;rw [List.take_append_of_le_length (by omega)]
 ·show [Zp on T ((cs ++ [x]).take (cs.length + 1))] = _;rw [List.take_of_length_le (by simp),Qa]
theorem ZdO (on:Nat) (T:Tbl) {cs:List (List Int × Int)} (h : 0 < cs.length):Zc9 on T cs.dropLast = (Zc9 on T cs).dropLast:=by
 unfold Zc9;rw [List.length_dropLast,show cs.length - 1 + 1 = cs.length by omega,List.range_succ,List.map_append,List.map_cons,List.map_nil,List.dropLast_concat];apply List.map_congr_left;intro k hk;rw [List.mem_range] at hk;rw [List.dropLast_eq_take,List.take_take,Nat.min_eq_left (by omega)]
theorem Zfr (on:Nat) (T:Tbl) (cs:List (List Int × Int)):(Zc9 on T cs).length = cs.length + 1:=by simp [Zc9]
theorem Zg (on:Nat) (T:Tbl) (cs:List (List Int × Int)) (Ts:List TT) (t:TT) (h:(Ts ++ [t]).map (fun x=>Jf x.L) = Zc9 on T cs):Jf t.L = Zp on T cs /\ Ts.length = cs.length:=by
 have h1:=congrArg List.length h;rw [Zfr] at h1;simp at h1;refine ⟨?_,h1⟩;have h2:=congrArg (fun l=>l[cs.length]?) h;simp only [List.map_append,List.map_cons,List.map_nil] at h2;rw [List.getElem?_append_right (by simp;omega)] at h2;unfold Zc9 at h2;simp [h1] at h2;exact h2
structure PgL (w:World) (base p on:Nat) (v:Int) (T:Tbl) (cs:List (List Int × Int)):Prop where
 ex:∃ B cap Ts t,LrI w base p B cap (Ts ++ [t]) /\ (∀ x ∈ Ts ++ [t],x.o = (on:Int) /\ x.v = v) /\ (Ts ++ [t]).map (fun x=>Jf x.L) = Zc9 on T cs
 le:base <= p
def Tlr (w w':World) (base p:Nat):Prop:=∃ q,Two w w' p q /\ BT w p 157 /\ ∀ k,q = some k -> BT w k 84 /\ base <= k
theorem PgL.below {w w':World} {base p on:Nat} {v:Int} {T:Tbl} {cs:List (List Int × Int)} (h:PgL w base p on v T cs) (hb:RowKit.Below w.heap.size w w'):PgL w' base p on v T cs:=by
 obtain ⟨B,cap,Ts,t,h1,h2,h3⟩:=h.ex;exact ⟨⟨B,cap,Ts,t,h1.below hb,h2,h3⟩,h.le⟩
theorem PgL.ok {w:World} {base p on:Nat} {v:Int} {T:Tbl} {cs:List (List Int × Int)} (h:PgL w base p on v T cs):∀ k,k <= cs.length -> XH on v (Zp on T (cs.take k)) = 0:=fun k hk=>by
 obtain ⟨B,cap,Ts,t,h1,h2,h3⟩:=h.ex;have h4:=(Zg _ _ _ _ _ h3).2;have hk2:k < (Ts ++ [t]).length:=by simp;omega
 have h5:=congrArg (fun l=>l[k]?) h3;unfold Zc9 at h5;simp only [List.getElem?_map] at h5;rw [gE hk2,List.getElem?_range (by omega)] at h5;simp only [Option.map_some,Option.some.injEq] at h5;have h6:=h1.tab _ (yM hk2);have h7:=h2 _ (yM hk2);rw [<- h5,<- h7.1,<- h7.2];exact h6.ok
theorem LrI.turn {w w':World} {base p cap q:Nat} {B:Option Addr} {Ts:List TT} (h:LrI w base p B cap Ts) (hg:w.grownBy w' (some q)) (hq:BT w q 93):LrI w' base p B cap Ts:=by
 have key:∀ {b:Nat} {e:TypeId},BT w b e -> e ≠ 93 -> w'.heap[b]? = w.heap[b]?:=fun hb he=>hg.block _ hb.lt (fun e=>by
  injection e with e
  exact hb.ne hq he e)
 have hglo:∀ t ∈ Ts,GLo w' base t.A t.c t.L:=fun t ht=>(h.glo t ht).block hg.size (fun b hb=>by
  rcases hb with hb | hb
  ·exact key hb (by decide)
  ·exact key hb.1 (by decide))
 refine ⟨(key h.btp (by decide)).trans h.cell,Ji h.row hg (fun b hb e=>(BT.of_own h.row hb).ne hq (by decide) (by injection e with e;exact e.symm)),fun t ht=>⟨(hglo t ht).tb,(hglo t ht).nilA,(h.tab t ht).ok⟩,hglo⟩
theorem PgL.turn {w w':World} {base p on q:Nat} {v:Int} {T:Tbl} {cs:List (List Int × Int)} (h:PgL w base p on v T cs) (hg:w.grownBy w' (some q)) (hq:BT w q 93):PgL w' base p on v T cs:=by
 obtain ⟨B,cap,Ts,t,h1,h2,h3⟩:=h.ex;exact ⟨⟨B,cap,Ts,t,h1.turn hg hq,h2,h3⟩,h.le⟩
theorem PgL.cor {w:World} {base p on:Nat} {v:Int} {T:Tbl} {cs:List (List Int × Int)} (h:PgL w base p on v T cs) (hb:base <= w.heap.size) (hlen:cs.length < 200) {XA:Option Addr} {Xc:Nat} {s:List Int} (hI:InOk w (XA,Xc,s)) (n r:Int) (hr:Hid (Zdl on v (Zp on T cs) s n = r)) :
  Calls Tryz.prog 43 #[.pointer (some ⟨p,0,none⟩),.slice XA s.length Xc,.int .i64 n] w fun e w'=>e = .returned (.int .i64 r) /\ PgL w' base p on v T (if r = 0 then cs ++ [(s,n)] else cs) /\ Tlr w w' base p:=by
 have hok:=h.ok cs.length nR;rw [List.take_length] at hok;have hz:=(JP.1 hok).2.1;have hle:=h.le;obtain ⟨B,cap,Ts,t,h1,h2,h3⟩:=h.ex;obtain ⟨h4,h5⟩:=Zg _ _ _ _ _ h3;have ht:=h2 t (by simp);have hT:Ts.length < 200:=by omega
 have hbp:=h1.btp;have hbB:=h1.btB;have hgB:=h1.geB (by simp);have bad:r ≠ 0 -> (Calls Tryz.prog 43 #[.pointer (some ⟨p,0,none⟩),.slice XA s.length Xc,.int .i64 n] w fun e w'=>e = .returned (.int .i64 r) /\ Below w.heap.size w w') -> Calls Tryz.prog 43 #[.pointer (some ⟨p,0,none⟩),.slice XA s.length Xc,.int .i64 n] w fun e w'=>e = .returned (.int .i64 r) /\ PgL w' base p on v T (if r = 0 then cs ++ [(s,n)] else cs) /\ Tlr w w' base p:=fun h0 hc=>
  hc.mono fun e w' ⟨he,hbl⟩=>⟨he,by rw [if_neg h0];exact h.below hbl,none,Two.of_below hbl,hbp,fun k e=>by cases e⟩
 by_cases h50 : 500 < s.length
 ·have e5:r = 5:=by rw [<- hr.out];unfold Zdl;rw [if_pos h50]
  subst e5;exact bad (by decide) (Qn base p cap on v B Ts t XA Xc s n w h1 ht.1 ht.2 hI (by omega) 5 (zH (by unfold ZgZ;rw [if_pos h50])) (by decide))
 ·by_cases ha:Xy 1 v s = true
  ·by_cases hnn : 1 <= n /\ n <= 1000
   ·have hrr:XH on v (Vh on (Zp on T cs) s n) = r:=(by rw [<- hr.out];unfold Zdl;rw [if_neg h50,if_pos ha,if_pos hnn]);refine (Zae base p cap on v B Ts t XA Xc s n w h1 hb hle ht.1 ht.2 hI (by omega) ha hnn hT).mono ?_;rintro e w' ⟨T1,hp,he,hif⟩;have hokt:XH on v (Jf t.L) = 0:=(by rw [h4];exact hok);have herr:=ZhB hz ha hnn.1 hokt hp;rw [h4,hrr] at herr;rw [h4,herr] at he hif;refine ⟨he,?_,?_⟩
    ·by_cases h0:r = 0
     ·rw [if_pos h0] at hif ⊢;obtain ⟨B',cap',t2,hL,ho,hv,hperm,hTwo,hB'⟩:=hif;refine ⟨⟨B',cap',Ts ++ [t],t2,hL,fun x hx=>?_,?_⟩,hle⟩
      ·rcases List.mem_append.1 hx with hx | hx
       ·exact h2 x hx
       ·rw [List.mem_singleton] at hx;subst hx;exact ⟨ho,hv⟩
      ·have hok2:=(hL.tab t2 (by simp)).ok;rw [ho,hv] at hok2;rw [List.map_append,h3,ZdN];congr 1;show [Jf t2.L] = _;rw [ZhA hz ha hnn.1 hok (by exact hp) hperm hok2]
     ·rw [if_neg h0] at hif ⊢;exact h.below hif
    ·by_cases h0:r = 0
     ·rw [if_pos h0] at hif;obtain ⟨B',cap',t2,hL,ho,hv,hperm,hTwo,hB'⟩:=hif;exact ⟨blk B,hTwo,hbp,fun k hk=>⟨hbB k hk,hgB k hk⟩⟩
     ·rw [if_neg h0] at hif;exact ⟨none,Two.of_below hif,hbp,fun k e=>by cases e⟩
   ·have e2:r = 2:=(by rw [<- hr.out];unfold Zdl;rw [if_neg h50,if_pos ha,if_neg hnn]);subst e2;exact bad (by decide) (ZaQ base p cap on v B Ts t XA Xc s n w h1 ht.1 ht.2 hI (by omega) ha (by omega) hnn)
  ·have e2:r = 2:=by rw [<- hr.out];unfold Zdl;rw [if_neg h50,if_neg ha]
   subst e2;exact bad (by decide) (Qn base p cap on v B Ts t XA Xc s n w h1 ht.1 ht.2 hI (by omega) 2 (zH (by unfold ZgZ;rw [if_neg h50,if_neg ha])) (by decide))
theorem PgL.undo {w:World} {base p on:Nat} {v:Int} {T:Tbl} {cs:List (List Int × Int)} (h:PgL w base p on v T cs) (hlen:cs.length < 200) (r:Int) (hr:Hid ((if cs.length = 0 then 7 else 0) = r)) :
  Calls Tryz.prog 45 #[.pointer (some ⟨p,0,none⟩)] w fun e w'=>e = .returned (.int .i64 r) /\ PgL w' base p on v T cs.dropLast /\ Tlr w w' base p:=by
 have hle:=h.le;obtain ⟨B,cap,Ts,t,h1,h2,h3⟩:=h.ex;obtain ⟨h4,h5⟩:=Zg _ _ _ _ _ h3;have hbp:=h1.btp;have hbB:=h1.btB;have hgB:=h1.geB (by simp);by_cases h0:cs.length = 0
 ·have e7:r = 7:=by rw [<- hr.out,if_pos h0]
  subst e7;have hn:Ts = []:=List.eq_nil_of_length_eq_zero (by omega);have hc:cs = []:=List.eq_nil_of_length_eq_zero h0;subst hn hc;refine (Ze9 base p cap B t w h1).mono ?_;rintro e w' ⟨he,rfl⟩;exact ⟨he,h,none,Two.refl,hbp,fun k e=>by cases e⟩
 ·have e0:r = 0:=by rw [<- hr.out,if_neg h0]
  subst e0;refine (ZhH base p cap B Ts t w h1 (by omega) (by omega)).mono ?_;rintro e w' ⟨he,hL,hTwo⟩;obtain ⟨Us,u,hU⟩:∃ Us u,Ts = Us ++ [u]:=⟨Ts.dropLast,Ts.getLast (by intro e;rw [e] at h5;simp at h5;omega),(List.dropLast_concat_getLast _).symm⟩;subst hU;refine ⟨he,⟨⟨B,cap,Us,u,hL,fun x hx=>h2 x (by simp only [List.mem_append] at hx ⊢;exact .inl hx),?_⟩,hle⟩,blk B,hTwo,hbp,fun k hk=>⟨hbB k hk,hgB k hk⟩⟩;rw [ZdO _ _ (by omega),<- h3,List.map_append (l₂:=[t]),List.map_cons,List.map_nil,List.dropLast_concat]
theorem PgL.tab {w:World} {base p on:Nat} {v:Int} {T:Tbl} {cs:List (List Int × Int)} (h:PgL w base p on v T cs) (hlen:cs.length < 200) :
  Calls Tryz.prog 47 #[.pointer (some ⟨p,0,none⟩)] w fun e w'=>∃ A c L,e = .returned (.tuple #[.agg #[.int .i64 (on:Int),.int .i64 v,.slice A (L:List Gm).length c],.int .i64 0]) /\ GLo w' w.heap.size A c L /\ Jf L = Zp on T cs /\ RowKit.Below w.heap.size w w':=by
 obtain ⟨B,cap,Ts,t,h1,h2,h3⟩:=h.ex;obtain ⟨h4,h5⟩:=Zg _ _ _ _ _ h3;have ht:=h2 t (by simp);refine (QQ base p cap B Ts t w h1 (by omega)).mono ?_;rintro e w' ⟨A,c,L,he,hg,htb,hb⟩;rw [ht.1,ht.2] at he;exact ⟨A,c,L,he,hg,htb.trans h4,hb⟩
theorem PgL.cnt {w:World} {base p on:Nat} {v:Int} {T:Tbl} {cs:List (List Int × Int)} (h:PgL w base p on v T cs) (hlen:cs.length < 200):Calls Tryz.prog 50 #[.pointer (some ⟨p,0,none⟩)] w fun e w'=>e = .returned (.int .i64 (cs.length:Int)) /\ w' = w:=by
 obtain ⟨B,cap,Ts,t,h1,h2,h3⟩:=h.ex;obtain ⟨h4,h5⟩:=Zg _ _ _ _ _ h3;refine (YP p (Ts ++ [t]).length cap B w h1.at_ (by simp) (by simp;omega)).mono ?_;rintro e w' ⟨he,hw⟩;refine ⟨?_,hw⟩;rw [he];congr 2;simp;omega
structure RfL (w0 w:World) (p on:Nat) (v:Int) (A:Option Addr) (c:Nat) (L:List Gm) (cs:List (List Int × Int)):Prop where
 ex:∃ SA sc S NA nc Ns,RlX w0 w p on v A c L SA sc S NA nc Ns /\ crs S Ns = cs /\ (∀ s ∈ S,s.2.2.length <= 500 /\ Xy 1 v s.2.2 = true) /\ ∀ n ∈ Ns,1 <= n /\ n <= 1000
theorem RfL.below {w0 w w':World} {p on c:Nat} {v:Int} {A:Option Addr} {L:List Gm} {cs:List (List Int × Int)} (h:RfL w0 w p on v A c L cs) (hb:RowKit.Below w.heap.size w w'):RfL w0 w' p on v A c L cs:=by
 obtain ⟨SA,sc,S,NA,nc,Ns,h1,h2,h3,h4⟩:=h.ex;exact ⟨⟨SA,sc,S,NA,nc,Ns,h1.below hb,h2,h3,h4⟩⟩
theorem RfL.bt {w0 w:World} {p on c:Nat} {v:Int} {A:Option Addr} {L:List Gm} {cs:List (List Int × Int)} (h:RfL w0 w p on v A c L cs):BT w p 93:=by
 obtain ⟨SA,sc,S,NA,nc,Ns,h1,-⟩:=h.ex;exact h1.bt
theorem Tlr.bel {w w':World} {base q b:Nat} (ht:Tlr w w' base q) (hb:b <= base) (hq:base <= q) (hw:b <= w.heap.size):RowKit.Below b w w':=by
 obtain ⟨x,h1,h2,h3⟩:=ht;exact h1.below hw (by omega) (fun k hk=>by have:=(h3 k hk).2;omega)
theorem RfL.two {w0 w w':World} {p on c base q:Nat} {v:Int} {A:Option Addr} {L:List Gm} {cs:List (List Int × Int)} (h:RfL w0 w p on v A c L cs) (ht:Tlr w w' base q) (hb:w0.heap.size <= base) (hq:base <= q):RfL w0 w' p on v A c L cs:=by
 obtain ⟨SA,sc,S,NA,nc,Ns,h1,h2,h3,h4⟩:=h.ex;have hbel:=h1.bel.trans (ht.bel hb hq h1.bel.size);obtain ⟨x,t1,t2,t3⟩:=ht;refine ⟨⟨SA,sc,S,NA,nc,Ns,h1.types hbel t1.size (fun b hbt=>?_),h2,h3,h4⟩⟩;have key:∀ e,BT w b e -> e ≠ 157 -> e ≠ 84 -> w'.heap[b]? = w.heap[b]?:=fun e hbe n1 n2=>t1.block b hbe.lt (hbe.ne t2 n1) (fun e2=>hbe.ne (t3 b e2.symm).1 n2 rfl);rcases hbt with hbt | hbt | hbt
 ·exact key _ hbt (by decide) (by decide)
 ·exact key _ hbt (by decide) (by decide)
 ·exact key _ hbt (by decide) (by decide)
theorem ZaI {S:List Inn} {Ns:List Int} (h:Ns.length = S.length):(crs S Ns).length = S.length:=by simp [h]
theorem RfL.cor {w0 w:World} {p on c:Nat} {v:Int} {A:Option Addr} {L:List Gm} {cs:List (List Int × Int)} (h:RfL w0 w p on v A c L cs) (hT:XH on v (Jf L) = 0) (hlen:cs.length < 200) (hok:∀ k,k <= cs.length -> XH on v (Zp on (Jf L) (cs.take k)) = 0) {XA:Option Addr} {Xc:Nat} {s:List Int} (hI:InOk w (XA,Xc,s)) (n r:Int) (hr:Hid (Zdl on v (Zp on (Jf L) cs) s n = r)) :
  Calls Tryz.prog 44 #[.pointer (some ⟨p,0,none⟩),.slice XA s.length Xc,.int .i64 n] w fun e w'=>e = .returned (.int .i64 r) /\ RfL w0 w' p on v A c L (if r = 0 then cs ++ [(s,n)] else cs) /\ w.grownBy w' (some p):=by
 have h0:=h;obtain ⟨SA,sc,S,NA,nc,Ns,h1,rfl,h3,h4⟩:=h.ex;rw [ZaI h1.len] at hlen hok;refine (Qu w0 on p v A SA NA c sc nc L S Ns XA Xc s n w h1 hT (zH h3) (zH h4) hlen (zH hok) hI r hr).mono ?_;rintro e w' ⟨he,hc⟩;rcases hc with ⟨hz,hb⟩ | ⟨hz,hg,SA',sc',S',NA',nc',hcr,hS,hX⟩
 ·exact ⟨he,by rw [if_neg hz];exact h0.below hb,J6 hb _⟩
 ·refine ⟨he,?_,hg⟩;rw [if_pos hz];subst hz;have hsn:s.length <= 500 /\ Xy 1 v s = true /\ 1 <= n /\ n <= 1000:=by
   have hrr:=hr.out;unfold Zdl at hrr;by_cases q1 : 500 < s.length
   ·rw [if_pos q1] at hrr;cases hrr
   ·rw [if_neg q1] at hrr;by_cases q2:Xy 1 v s = true
    ·rw [if_pos q2] at hrr;by_cases q3 : 1 <= n /\ n <= 1000
     ·exact ⟨by omega,q2,q3⟩
     ·rw [if_neg q3] at hrr;cases hrr
    ·rw [if_neg q2] at hrr;cases hrr
  refine ⟨⟨SA',sc',S',NA',nc',Ns ++ [n],hX,hcr,fun x hx=>?_,fun m hm=>?_⟩⟩
  ·have hm:x.2.2 ∈ S.map (fun x=>x.2.2) ++ [s]:=by rw [<- hS];exact List.mem_map_of_mem (f:=fun x:Inn=>x.2.2) hx
   rcases List.mem_append.1 hm with hm | hm
   ·obtain ⟨y,hy,e⟩:=List.mem_map.1 hm;rw [<- e];exact h3 y hy
   ·rw [List.mem_singleton] at hm;rw [hm];exact ⟨hsn.1,hsn.2.1⟩
  ·rcases List.mem_append.1 hm with hm | hm
   ·exact h4 m hm
   ·rw [List.mem_singleton] at hm;subst hm;exact hsn.2.2
theorem RfL.undo {w0 w:World} {p on c:Nat} {v:Int} {A:Option Addr} {L:List Gm} {cs:List (List Int × Int)} (h:RfL w0 w p on v A c L cs) (hlen:cs.length < 200) (r:Int) (hr:Hid ((if cs.length = 0 then 7 else 0) = r)) :
  Calls Tryz.prog 46 #[.pointer (some ⟨p,0,none⟩)] w fun e w'=>e = .returned (.int .i64 r) /\ RfL w0 w' p on v A c L cs.dropLast /\ w.grownBy w' (some p):=by
 have h0:=h;obtain ⟨SA,sc,S,NA,nc,Ns,h1,rfl,h3,h4⟩:=h.ex;have hcl:=ZaI h1.len;rw [hcl] at hlen hr;refine (ZbP p on v A SA NA c sc nc L S Ns w h1.rl h1.len h1.scap h1.ncap (by omega)).mono ?_;rintro e w' (⟨hz,he,rfl⟩ | ⟨hz,he,hsz,hg,hc⟩)
 ·have hS:S = []:=List.eq_nil_of_length_eq_zero hz;subst hS;have e7:r = 7:=hr.out.symm;rw [e7];exact ⟨he,h0,⟨rfl,rfl,rfl,Nat.le_refl _,fun _ _ _=>rfl⟩⟩
 ·have e0:r = 0:=by rw [<- hr.out,if_neg (by omega)]
  rw [e0];have hl:=h1.len;have l1:S.dropLast.length = S.length - 1:=List.length_dropLast;have l2:Ns.dropLast.length = S.length - 1:=by rw [List.length_dropLast];omega
  have e1:lcs S.dropLast = (lcs S).take (S.length - 1):=by rw [List.dropLast_eq_take,lcs,lcs,List.map_take]
  have e2:ics Ns.dropLast = (ics Ns).take (Ns.length - 1):=by rw [List.dropLast_eq_take,ics,ics,List.map_take]
  refine ⟨he,⟨⟨SA,sc,S.dropLast,NA,nc,Ns.dropLast,?_,?_,fun x hx=>h3 x (List.dropLast_subset _ hx),fun x hx=>h4 x (List.dropLast_subset _ hx)⟩⟩,hg⟩
  ·refine h1.turn hg (by rw [e1];exact Q2 h1.sen _) h1.senT (fun x hx=>h1.inn x (List.dropLast_subset _ hx)) (by rw [e2];exact Q2 h1.num _) h1.numT h1.sn h1.nn (by have:=h1.scap;omega) (by have:=h1.ncap;omega) (by rw [l1,l2]) ?_;rw [l1,l2];exact hc
  ·unfold crs;rw [List.dropLast_eq_take (l:=List.zip _ _),hcl,List.dropLast_eq_take,List.dropLast_eq_take,List.map_take,hl];simp only [List.zip_eq_zipWith,List.take_zipWith]
theorem RfL.tab {w0 w:World} {p on c:Nat} {v:Int} {A:Option Addr} {L:List Gm} {cs:List (List Int × Int)} (h:RfL w0 w p on v A c L cs) (hT:XH on v (Jf L) = 0) (hlen:cs.length < 200) (hok:∀ k,k <= cs.length -> XH on v (Zp on (Jf L) (cs.take k)) = 0) :
  Calls Tryz.prog 48 #[.pointer (some ⟨p,0,none⟩)] w fun e w'=>∃ A c L',e = .returned (.tuple #[.agg #[.int .i64 (on:Int),.int .i64 v,.slice A (L':List Gm).length c],.int .i64 0]) /\ GLo w' w.heap.size A c L' /\ Jf L' = Zp on (Jf L) cs /\ RowKit.Below w.heap.size w w':=by
 obtain ⟨SA,sc,S,NA,nc,Ns,h1,rfl,h3,h4⟩:=h.ex;have hcl:=ZaI h1.len;rw [hcl] at hlen hok;have hr0:XH on v (Zp on (Jf L) (crs S Ns)) = 0:=by have:=hok S.length nR;rwa [List.take_of_length_le (by rw [hcl];omega)] at this
 refine (Uh on p v A SA NA c sc nc L S Ns w h1.rl hT (zH h3) (zH h4) h1.len (by omega) (zH (fun k hk=>hok k (by omega))) 0 (zH hr0)).mono ?_;rintro e w' ⟨hb,hif⟩;rw [if_pos rfl] at hif;obtain ⟨A',c',L',he,hg,ht⟩:=hif;exact ⟨A',c',L',he,hg,ht,hb⟩
theorem RfL.cell {w0 w:World} {p on c:Nat} {v:Int} {A:Option Addr} {L:List Gm} {cs:List (List Int × Int)} (h:RfL w0 w p on v A c L cs):∃ SA sc,w.cell? ⟨p,3,none⟩ = some (.slice SA cs.length sc):=by
 obtain ⟨SA,sc,S,NA,nc,Ns,h1,rfl,h3,h4⟩:=h.ex;refine ⟨SA,sc,?_⟩;rw [ZaI h1.len];exact h1.rl.cells.2.2.2.1
theorem Za6 (A:Option Addr) (c n:Nat) (L:List Inn) (w:World) (hA:LL w A L) (hv:Hid (Vcs n (Jx L))) (h0 : 0 < L.length) (hn:L.length <= 10000) (hn2:n <= 1000) :
  Calls Tryz.prog 114 #[.slice A L.length c] w fun e w'=>∃ A c,e = .returned (.slice A n c) /\ w'.ownsRow w.heap.size 3 1 (.slice A n c) n (ics (QR (Jx L) n L.length)) /\ Below w.heap.size w w':=by
 have HVL:Hid ((Jx L).length = L.length):=zH (by simp);have HL0:Hid (L[0].2.2.length = n):=zH (by
  have:=(hv.out.getD (t:=0) (by rw [HVL.out];exact h0)).1;rw [List.getElem?_map,gE h0] at this;exact this)
 obtain ⟨b0,o0,rfl,hb0,hc0⟩:=hA.lies.lat h0;rw [HL0.out,Nat.add_zero] at hc0;generalize L[0] = X0 at *
 go_enter Tryz.func114,Tryz.ntmps114;go_wp2_with fail;obtain ⟨w1,hmk,ho1,hb1⟩:=Vm w n (by omega) w.heap.size nR;rw [hmk];clear hmk;rw [<- ZdP (Jx L) n] at ho1;generalize hz:(Value.slice (some ⟨w.heap.size,0,none⟩) n n) = s0 at *
 obtain ⟨A0,c0,rfl⟩:=Xa ho1;clear hz;go_wp2_with fail;go_loopw [5,6,7,15] (fun _ _ _ i wr=>∃ k:Nat,k <= L.length /\ i = .int .i64 k /\ wr.ownsRow w.heap.size 3 1 (.slice A0 n c0) n (ics (QR (Jx L) n k)) /\ Below w.heap.size w wr) (fun _ _ _ i _=>L.length - (intOf i).toNat)
 case atStart=>exact ⟨0,by omega,rfl,ho1,hb1⟩
 case round=>
  obtain ⟨k,hk,rfl,r1,r2⟩:=hrel;by_cases hlt:k < L.length
  ·obtain ⟨bk,off,eA,hbk,hc⟩:=(hA.below r2).lies.lat hlt;cases eA;have hx:=fun W (hW:Below w.heap.size w W)=>(hA.below hW).inn _ (yM hlt);have hget:=hv.out.getD (t:=k) (by rw [HVL.out];exact hlt);have HB:=zH (fun c t=>Qb (fun x hx=>(hv.out x hx).2) c t);have HE:Hid ((Jx L)[k]?.getD [] = L[k].2.2):=zH (Zai hlt);rw [Zai hlt] at hget;generalize L[k] = X at *
   obtain ⟨XA,Xc,xl⟩:=X;simp only at *
   obtain ⟨hxn,hxb⟩:=hget;have HX:=zH hx;have HXB:=zH hxb;have HP:wr.ownsRow w.heap.size 3 1 (.slice A0 n c0) n (ics (ZaV (Jx L) n k 0)):=(by rw [Zd6];exact r1);rw [hxn] at hc;have HXN:=zH hxn;clear hx hxb r1 ho1 hxn;go_wp2_with fail;go_loopw [6,7,21] (fun _ _ i wr=>∃ j:Nat,j <= n /\ i = .int .i64 j /\ wr.ownsRow w.heap.size 3 1 (.slice A0 n c0) n (ics (ZaV (Jx L) n k j)) /\ Below w.heap.size w wr) (fun _ _ i _=>n - (intOf i).toNat)
   case atStart=>exact ⟨0,by omega,rfl,HP,r2⟩
   case round=>
    obtain ⟨j,hj,rfl,s1,s2⟩:=hrel;clear HP r2 hc;by_cases hjl:j < n
    ·obtain ⟨bx,ox,rfl,hbx,hcx⟩:=(HX.out _ s2).1.at_ (k:=j) (by rw [HXN.out];exact hjl);obtain ⟨g,cap,hv',hgg,hglt⟩:=s1.form (by omega);obtain rfl:A0 = some ⟨g,0,none⟩:=(by injection hv');clear hv' cap;have q1:wr.cell? ⟨g,j,none⟩ = some (.int .i64 (Qs (Jx L) j k)):=by
      rw [s1.cellAt j (by omega)];have:=ZfM (vs:=Jx L) (k:=k) hjl;rw [gE (by rw [UM];exact hjl)] at this;simp only [List.getElem?_map,gE (show j < (ZaV (Jx L) n k j).length by rw [UM];exact hjl)];simp at this;simp [this]
     have q2:wr.frozen? ⟨g,j,none⟩ = false:=s1.frozenAt j;have b1:=HB.out j k;have b2:=ZhG HXB.out (show j < xl.length by rw [HXN.out];exact hjl);have HS:Hid ((ZaV (Jx L) n k j).set j (Qs (Jx L) j k + xl[j]?.getD 0) = ZaV (Jx L) n k (j + 1)):=zH (by rw [<- ZfL,HE.out]);have HO:=zH s1;have HS2:=zH s2;generalize Qs (Jx L) j k = y at *
     generalize xl[j]?.getD 0 = x at *
     clear s1 s2;go_wp2_with fail;refine ⟨⟨j + 1,by omega,by go_num,?_,HS2.out.setCell hgg _⟩,by simp [intOf];omega⟩;have hst:=HO.out.stored j (.int .i64 (y + x));rw [<- List.map_set,HS.out] at hst;exact hst.1
    ·obtain rfl:j = n:=(by omega);have HF:Hid (wr.ownsRow w.heap.size 3 1 (.slice A0 j c0) j (ics (QR (Jx L) j (k + 1)))):=zH (by rw [<- ZfN];exact s1);clear s1;go_wp2_with fail;exact ⟨⟨k + 1,by omega,by go_num,HF.out,s2⟩,by simp [intOf];omega⟩
  ·obtain rfl:k = L.length:=by omega
   go_wp2_with fail;go_ret;exact ⟨A0,c0,rfl,r1,r2⟩
def TSt (u u':World):Prop:=u.heap.size <= u'.heap.size /\ ∀ b,b < u.heap.size -> u'.heap[b]? = u.heap[b]? ∨ ((∃ x,Fb u b x) /\ ∃ x,Fb u' b x)
theorem TSt.put {u:World} {k:Nat} {x:Fr} (h:Fb u k x) (r:Fr):TSt u (((u.setCell ⟨k,0,none⟩ (.bool r.neg)).setCell ⟨k,1,none⟩ (.slice r.A r.N.length r.c)).setCell ⟨k,2,none⟩ (.slice r.B r.D.length r.d)):=
 ⟨by simp,fun b _=>by
  by_cases e:b = k
  ·subst e;exact .inr ⟨⟨x,h⟩,r,h.put⟩
  ·exact .inl (JT e _ _ _)⟩
theorem ZfX {u u':World} {A:Option Addr} {l:List Int} (h:Lies u A (ucs l)) (ht:TSt u u'):Lies u' A (ucs l):=fun h0=>by
 obtain ⟨b,off,e,hlt,hc⟩:=h h0;rcases ht.2 b hlt with e2 | ⟨⟨x,hx⟩,_⟩
 ·exact ⟨b,off,e,Nat.lt_of_lt_of_le hlt ht.1,fun j v hv=>by
   rw [<- hc j v hv];exact World.cell?_of_block (a:=⟨b,off + j,none⟩) e2⟩
 ·exfalso;have hl : 0 < l.length:=by simpa using h0
  have:=hc 0 (.int .u32 l[0]) (by simp [gE hl]);rw [cell_of_row u b _ _ _ _ hx] at this;rcases (show off + 0 = 0 ∨ off + 0 = 1 ∨ off + 0 = 2 ∨ 3 <= off + 0 by omega) with e | e | e | e
  ·rw [e] at this;simp at this
  ·rw [e] at this;simp at this
  ·rw [e] at this;simp at this
  ·rw [Array.getElem?_eq_none (by simpa using e)] at this;cases this
theorem ZgK {u u':World} {A:Option Addr} {c:Nat} {l:List Int} (h:Dg u A c l) (ht:TSt u u'):Dg u' A c l:=⟨ZfX h.lies ht,h.dig,h.cap,h.nil⟩
theorem ZgF {u u':World} {x:Fr} {q:Rat} (h:Fq u x q) (ht:TSt u u'):Fq u' x q:=⟨⟨ZgK h.ok.n ht,ZgK h.ok.d ht⟩,h.neg,h.num,h.dn⟩
def isFb (base:Nat):Value -> World -> Prop:=fun v u=>∃ k,v = .pointer (some ⟨k,0,none⟩) /\ base <= k /\ Hid (∃ x,Fb u k x)
theorem Keeps.isFb (base:Nat):Keeps (isFb base):=fun _ _ _ ⟨k,h1,h2,h3⟩ hb=>⟨k,h1,h2,zH (by obtain ⟨x,hx⟩:=h3.out;exact ⟨x,hx.below hb⟩)⟩
def isT:Value -> World -> Prop:=fun _ _=>True
theorem Keeps.isT:Keeps isT:=fun _ _ _ _ _=>trivial
def KeepS (p:Value -> World -> Prop):Prop:=∀ v w w',p v w -> TSt w w' -> p v w'
theorem KeepS.isV (v:Value):KeepS (isV v):=fun _ _ _ h _=>h
theorem KeepS.isT:KeepS isT:=fun _ _ _ _ _=>trivial
theorem KeepS.isFq (q:Rat):KeepS (isFq q):=fun _ _ _ ⟨r,h1,h2⟩ hb=>⟨r,h1,zH (ZgF h2.out hb)⟩
theorem KeepS.isTq (q:Rat):KeepS (isTq q):=fun _ _ _ ⟨r,h1,h2⟩ hb=>⟨r,h1,zH (ZgF h2.out hb)⟩
theorem KeepS.isFb (base:Nat):KeepS (isFb base):=fun _ _ _ ⟨k,h1,h2,h3⟩ hb=>⟨k,h1,h2,zH (by
 obtain ⟨x,hx⟩:=h3.out;rcases hb.2 k hx.lt with e | ⟨_,h⟩
 ·exact ⟨x,e.trans hx⟩
 ·exact h)⟩
theorem Gl.keepS {l:List (Value -> World -> Prop)} (h:∀ p ∈ l,KeepS p):∀ j v w w',Gl l j v w -> TSt w w' -> Gl l j v w':=by
 intro j v w w' hj hb;unfold Gl at *
 by_cases hl:j < l.length
 ·have e:l.getD j (fun _ _=>True) = l[j]:=by rw [List.getD_eq_getElem?_getD,gE hl];rfl
  rw [e] at hj ⊢;exact h _ (yM hl) _ _ _ hj hb
 ·have e:l.getD j (fun _ _=>True) = fun _ _=>True:=by rw [List.getD_eq_getElem?_getD,List.getElem?_eq_none (Nat.le_of_not_lt hl)];rfl
  rw [e];trivial
def HoldsQ (d base:Nat) (q:Rat) (t:Array Value) (u:World):Prop:=∃ (k:Nat) (r:Fr),t.getD d undef = .pointer (some ⟨k,0,none⟩) /\ base <= k /\ Hid (Fb u k r) /\ Hid (Fq u r q)
theorem HoldsQ.keep {d base:Nat} {q:Rat}:∀ t t' w w',(∀ k ∈ [d],t'.getD k undef = t.getD k undef) -> Below w.heap.size w w' -> HoldsQ d base q t w -> HoldsQ d base q t' w':=
 fun _ _ _ _ h hb ⟨k,r,h1,h2,h3,h4⟩=>⟨k,r,(h d (List.mem_singleton.2 rfl)).trans h1,h2,zH (h3.out.below hb),zH (h4.out.below hb)⟩
end Go.Proofs.YtcjicjfbippmnaaGreat
