/- TalkClusters -/
import Derived.Test.YtcjicjfbippmnaaGreatMTClus31
set_option maxRecDepth 100000
set_option maxHeartbeats 32000000
namespace Go.Proofs.YtcjicjfbippmnaaGreat
open Go.RowKit Ear
attribute [local go_sem] Oper.semAt_some

def YD (o:Nat) (s:List Int):Nat -> List (K4 × Int)
 | 0=>[]
 | k + 1=>YW (YD o s k) (kOf (JP o s k)) ((J3 (YD o s k) (kOf (JP o s k))).getD 0 + 1)
theorem Zd4 {w:World} {A:Option Addr} {xs:List Value} (h:Lies w A xs) {l:Nat} {o:Obj} (o':Obj) (hl:w.heap[l]? = some o) (ho:o.isCells = false):Lies (w.putObj l o') A xs:=fun h0=>by
 obtain ⟨b,off,e,hlt,hc⟩:=h h0;exact ⟨b,off,e,by simpa using hlt,fun k u hu=>cell_kept (hc k u hu) (grownBy_putObj' w l o') (fun r e=>by cases e;exact ⟨_,hl,ho⟩)⟩
structure CnI (w0 W4:World) (bm:Nat) (o:Nat) (s:List Int) (k:Nat) (W:World):Prop where
 map:MI W bm (YD o s k)
 size:W4.heap.size <= W.heap.size
 same:∀ b,b < W4.heap.size -> b ≠ bm -> W.heap[b]? = W4.heap[b]?
 below:Below w0.heap.size w0 W
theorem CnI.below' {w0 W4:World} {bm o:Nat} {s:List Int} {k:Nat} {W W':World} (h:CnI w0 W4 bm o s k W) (hb:Below W.heap.size W W'):CnI w0 W4 bm o s k W':=
 ⟨h.map.below hb,tR h.size hb.size,fun b hlt hne=>(hb.block b (Nat.lt_of_lt_of_le hlt h.size)).trans (h.same b hlt hne),h.below.trans (hb.mono h.below.size)⟩
theorem CnI.put {w0 W4:World} {bm o:Nat} {s:List Int} {k:Nat} {W:World} (h:CnI w0 W4 bm o s k W) {l:Nat} (o':Obj) (hl:W4.heap.size <= l) (hb:bm < W4.heap.size) (h0:w0.heap.size <= W4.heap.size):CnI w0 W4 bm o s k (W.putObj l o'):=
 ⟨h.map.same (World.putObj_heap_other (by omega)),by simpa using h.size,fun b hlt hne=>(World.putObj_heap_other (by omega)).trans (h.same b hlt hne),
  ⟨h.below.os,h.below.tape,h.below.output,by simpa using h.below.size,fun b hb'=>(World.putObj_heap_other (by omega)).trans (h.below.block b hb')⟩⟩
theorem QE {o:Nat} {v:Int} {s:List Int} (ha:YC 1 v s = true) (hz:YG o v = true) (k:Nat):∀ y ∈ JP o s k,0 <= y /\ y <= 1000000:=fun y hy=>by
 have hv:v <= 2000:=by simp [YG] at hz;exact hz.2
 rcases VJ hy with rfl | hy
 ·omega
 ·have:=Vt ha hy;omega
theorem Zco {o:Nat} {v:Int} {s:List Int} (ha:YC 1 v s = true) (hz:YG o v = true) (k:Nat):kOk (kOf (JP o s k)):=by
 have key:∀ j i,0 <= kx (JP o s k) j i /\ kx (JP o s k) j i <= 1000001:=fun j i=>by
  unfold kx;split
  ·cases hq:(JP o s k)[i]? with
   | none=>simp
   | some y=>have:=QE ha hz k y (List.mem_of_getElem? hq);simp;omega
  ·omega
 exact ⟨key _ _,key _ _,key _ _,key _ _⟩
theorem U9 {u:World} {b i:Nat} (h:i ≠ b) (o:Obj):(ChangeMaps.setBlock u b o).heap[i]? = u.heap[i]?:=by
 simp [ChangeMaps.setBlock,Ne.symm h]
theorem JT {u:World} {b:Nat} (h:b < u.heap.size) (o:Obj):(ChangeMaps.setBlock u b o).heap[b]? = some o:=by
 simp [ChangeMaps.setBlock,h]
theorem VL (o:Nat) (s:List Int):∀ (k:Nat),∀ p ∈ YD o s k,0 <= p.2 /\ p.2 <= k
 | 0=>fun p h=>by simp [YD] at h
 | k + 1=>fun p h=>by
  unfold YD at h;have ih:=VL o s k;have hb : 0 <= (J3 (YD o s k) (kOf (JP o s k))).getD 0 /\ (J3 (YD o s k) (kOf (JP o s k))).getD 0 <= k:=by
   cases hq:J3 (YD o s k) (kOf (JP o s k)) with
   | none=>simp
   | some y=>have:=ih _ (Ui hq);simpa using this
  rcases Zt h with rfl | h
  ·simp only;omega
  ·have:=ih p h;omega
theorem Vp (o:Nat) (s:List Int):∀ k,(YD o s k).length <= k
 | 0=>by simp [YD]
 | k + 1=>by
  unfold YD;have:=ZD (YD o s k) (kOf (JP o s k)) ((J3 (YD o s k) (kOf (JP o s k))).getD 0 + 1);have:=Vp o s k;omega
theorem ZeF {o:Nat} {v:Int} {s:List Int} (ha:YC 1 v s = true) (hz:YG o v = true):∀ k,∀ p ∈ YD o s k,kOk p.1
 | 0=>fun p h=>by simp [YD] at h
 | k + 1=>fun p h=>by
  unfold YD at h;rcases Zt h with rfl | h
  ·exact Zco ha hz k
  ·exact ZeF ha hz k p h
theorem RetCol.form {o:Nat} {v:Int} {m:List (K4 × Int)} {w w':World} {e:Ending} (h:RetCol o v m w e w') :
  ∃ (a b:Int) (A:Option Addr) (n c:Nat) (r:Int),e = .returned (.tuple #[.agg #[.int .i64 a,.int .i64 b,.slice A n c],.int .i64 r]) /\ Below w.heap.size w w' /\
   ∀ w0 w'':World,w0.heap.size <= w.heap.size -> Below w0.heap.size w0 w'' -> w'.heap.size <= w''.heap.size -> (∀ b,BT w' b 3 ∨ BT w' b 114 /\ w.heap.size <= b -> w''.heap[b]? = w'.heap[b]?) ->
    RetCol o v m w0 (.returned (.tuple #[.agg #[.int .i64 a,.int .i64 b,.slice A n c],.int .i64 r])) w'':=by
 obtain ⟨hb,h⟩:=h;by_cases hc:U4 m = 0
 ·rw [if_pos hc] at h;obtain ⟨A,c,L,rfl,hL,hp,hs⟩:=h;refine ⟨_,_,_,_,_,_,rfl,hb,fun w0 w'' h0 hb0 hsz hk=>⟨hb0,?_⟩⟩;rw [if_pos hc];exact ⟨A,c,L,rfl,(hL.block hsz hk).le h0,hp,hs⟩
 ·rw [if_neg hc] at h;subst h;refine ⟨_,_,_,_,_,_,rfl,hb,fun w0 w'' h0 hb0 hsz hk=>⟨hb0,?_⟩⟩;rw [if_neg hc]
structure CrS (bm:Nat) (o1:Obj) (W u:World):Prop where
 grown:W.grownBy u (some bm)
 map:u.heap[bm]? = W.heap[bm]? ∨ u.heap[bm]? = some o1
theorem CrS.below {bm:Nat} {o1:Obj} {W u u':World} (h:CrS bm o1 W u) (hb:Below u.heap.size u u') (hbm:bm < W.heap.size):CrS bm o1 W u':=
 ⟨⟨hb.os.trans h.grown.os,hb.tape.trans h.grown.tape,hb.output.trans h.grown.output,tR h.grown.size hb.size,fun k hk hne=>(hb.block k (Nat.lt_of_lt_of_le hk h.grown.size)).trans (h.grown.block k hk hne)⟩,
  by rw [hb.block bm (Nat.lt_of_lt_of_le hbm h.grown.size)];exact h.map⟩
theorem JW {bm:Nat} {W u:World} (h:W.grownBy u (some bm)) (o:Obj):W.grownBy (ChangeMaps.setBlock u bm o) (some bm):=
 ⟨h.os,h.tape,h.output,by simpa [ChangeMaps.setBlock] using h.size,fun k hk hne=>(U9 (fun e=>hne (by rw [e])) o).trans (h.block k hk hne)⟩
def CrT (bm:Nat) (o1:Obj) (u u':World):Prop:=u.heap[bm]? = some o1 -> u'.heap[bm]? = some o1
def CrG (bm o st:Nat) (g:Option Addr) (key:K4) (n:Int) (o1:Obj):Nat -> Value -> World -> Prop
 | 0,v,_=>v = .map (some bm)
 | 1,v,_=>v = .slice g o o
 | 2,v,_=>v = ek key
 | 3,v,_=>v = .int .i64 n
 | 4,v,_=>v = .int .i64 (n + 1)
 | 5,v,u=>v = .tuple #[.int .i64 n,goInt st] /\ u.heap[bm]? = some o1
 | 6,v,_=>v = goInt st
 | _,_,_=>True
theorem CrG.keeps {bm o st:Nat} {g:Option Addr} {key:K4} {n:Int} {o1:Obj} (j:Nat) (v:Value) (u u':World) (h:CrG bm o st g key n o1 j v u) (ht:CrT bm o1 u u'):CrG bm o st g key n o1 j v u':=by
 unfold CrG at h ⊢;split <;> simp_all;exact ht h.2
theorem ZeX (o:Nat) (v:Int) (A:Option Addr) (c:Nat) (x:Inn) (w:World) (h:LL w A [x]) (ho1 : 1 <= o) (ho2:o <= 4) (hz:YG o v = true) (hs:x.2.2.length <= 500) (ha:YC 1 v x.2.2 = true) :
  Calls Tryz.prog 103 #[.int .i64 o,.int .i64 v,.slice A 1 c] w (RetCol o v (YD o x.2.2 (x.2.2.length + 1)) w):=by
 refine (callsIn_wide (n:=9)).1 ?_;refine callsIn_of_wp_marks Tryz.func103 rfl trivial ?_ rfl;simp only [Tryz.ntmps103,List.size_toArray,List.length_cons,List.length_nil,Nat.reduceAdd,Nat.reduceSub,Array.replicate_succ,Array.replicate_zero,List.push_toArray,List.append_toArray,List.nil_append,List.cons_append];obtain ⟨W0,hW0⟩:∃ W0:World,W0 = (w.alloc (.cells #[.int .i64 v] 3)).alloc (.cells #[.int .i64 0,.int .i64 0,.slice none 0 0] 84):=⟨_,rfl⟩;have hs0:W0.heap.size = w.heap.size + 2:=by rw [hW0];simp
 have HB0:Hid (Below w.heap.size w W0):=zH (by rw [hW0];exact al2 w _ _);have HV:Hid (W0.heap[w.heap.size]? = some (.cells #[.int .i64 v] 3 (0,0))):=zH (by rw [hW0];exact (Below.heap_alloc _ _ _ (by simp)).trans (heap_alloc_new w _));have HT6:Hid (W0.heap[w.heap.size + 1]? = some (.cells #[.int .i64 0,.int .i64 0,.slice none 0 0] 84 (0,0))):=zH (by rw [hW0];have:=heap_alloc_new (w.alloc (.cells #[.int .i64 v] 3)) (.cells #[.int .i64 0,.int .i64 0,.slice none 0 0] 84);simpa using this);have HLL:=zH h;clear h
 gi_wp2
 rw [<- hW0];clear hW0;refine ⟨trivial,?_⟩;refine ((callsIn_wide (n:=8)).2 (ZE 154 #[] _ A c [x] W0 (ZaF [x] W0) (HLL.out.below HB0.out) (by simp) false (zH (by simp;omega)))).mono ?_;rintro e W1 ⟨rfl,hb1⟩;have HB1:Hid (Below W0.heap.size W0 W1):=zH hb1;have hs1:W0.heap.size <= W1.heap.size:=hb1.size;have HV1:Hid (W1.heap[w.heap.size]? = some (.cells #[.int .i64 v] 3 (0,0))):=zH ((hb1.block _ (by omega)).trans HV.out);have cv1:W1.cell? ⟨w.heap.size,0,none⟩ = some (.int .i64 v):=(cR 0 HV1.out).trans rfl;have HLL1:=zH (HLL.out.below (HB0.out.trans (hb1.mono (by omega))));clear hb1
 gi_wp2
 refine ⟨trivial,?_⟩;refine ((callsIn_wide (n:=8)).2 (VI o v W1 true (zH hz))).mono ?_;rintro e W1' ⟨rfl,rfl⟩
 gi_wp2
 refine ⟨trivial,?_⟩;refine ((callsIn_wide (n:=8)).2 (ZE 155 #[.pointer (some ⟨w.heap.size,0,none⟩)] _ A c [x] W1 (Zb1 [x] W1 v w.heap.size (fun y hy=>HLL1.out.inn y hy) cv1 (by omega)) HLL1.out (by simp) false (zH (by simp [ha])))).mono ?_;rintro e W2 ⟨rfl,hb2⟩;have HB2:Hid (Below W0.heap.size W0 W2):=zH (HB1.out.trans (hb2.mono hs1));have hs2:W1.heap.size <= W2.heap.size:=hb2.size;have HV2:Hid (W2.heap[w.heap.size]? = some (.cells #[.int .i64 v] 3 (0,0))):=zH ((hb2.block _ (by omega)).trans HV1.out);have HT2:Hid (W2.heap[w.heap.size + 1]? = some (.cells #[.int .i64 0,.int .i64 0,.slice none 0 0] 84 (0,0))):=zH ((HB2.out.block _ (by omega)).trans HT6.out);have HLL2:=zH (HLL1.out.below hb2);clear hb2 cv1 HV1 HLL1 HV;have hmk:∀ W:World,(Instr.makeMap 198 none).run Tryz.prog W = .ok (.map (some W.heap.size)) (W.alloc (.map #[] 0)):=fun W=>rfl
 gi_wp2
 obtain ⟨W3,hW3⟩:∃ W3:World,W3 = (W2.alloc (.map #[] 0)).alloc (.cells #[.map (some W2.heap.size)] 198):=⟨_,rfl⟩;rw [<- hW3];have hs3:W3.heap.size = W2.heap.size + 2:=by rw [hW3];simp
 have HB3:Hid (Below W2.heap.size W2 W3):=zH (by rw [hW3];exact al2 W2 _ _);have HM3:Hid (MI W3 W2.heap.size []):=zH (by rw [hW3];exact (MapIs.made Tryz.prog 203 ek (Value.int .i64) W2).below (bR.alloc nR _));have HX3:Hid (W3.heap[W2.heap.size + 1]? = some (.cells #[.map (some W2.heap.size)] 198 (0,0))):=zH (by rw [hW3];have:=heap_alloc_new (W2.alloc (.map #[] 0)) (.cells #[.map (some W2.heap.size)] 198);simpa using this);have HLL3:=zH (HLL2.out.below HB3.out);clear hW3 hmk;obtain ⟨bk,off,eA,hbk,hc⟩:=HLL3.out.lies.lat (k:=0) (by simp);cases eA;refine wpIn_loop_rounds 2 ?_;rw [Code.roundsIn];have hc0:W3.cell? ⟨bk,off,none⟩ = some (.slice x.1 x.2.2.length x.2.1):=hc;clear hc;have HX:=zH (HLL3.out.inn x (by simp))
 gi_wp2
 refine ⟨trivial,?_⟩;refine ((callsIn_wide (n:=8)).2 (Zej o x.1 x.2.2.length x.2.1 W3)).mono ?_;rintro e W4 ⟨rfl,hW4⟩;have hs4:W4.heap.size = W3.heap.size + 2:=by rw [hW4];simp
 have HB4:Hid (Below W3.heap.size W3 W4):=zH (by rw [hW4];exact al2 W3 _ _);have hO4:W4.heap[W3.heap.size]? = some (.cells #[.int .i64 o] 3 (0,0)):=by rw [hW4];exact (Below.heap_alloc _ _ _ (by simp)).trans (heap_alloc_new W3 _)
 have hS4:W4.heap[W3.heap.size + 1]? = some (.cells #[.slice x.1 x.2.2.length x.2.1] 40 (0,0)):=by rw [hW4];have:=heap_alloc_new (W3.alloc (.cells #[.int .i64 o] 3)) (.cells #[.slice x.1 x.2.2.length x.2.1] 40);simpa using this
 have HO4:Hid (W4.cell? ⟨W2.heap.size + 2,0,none⟩ = some (.int .i64 o)):=zH (by rw [<- hs3];exact (cR 0 hO4).trans rfl);have HS4:Hid (W4.cell? ⟨W2.heap.size + 2 + 1,0,none⟩ = some (.slice x.1 x.2.2.length x.2.1)):=zH (by rw [<- hs3];exact (cR 0 hS4).trans rfl);have HX4:=zH (HX.out.below HB4.out);have HM4:=zH (HM3.out.below HB4.out);have HW4:Hid (Below w.heap.size w W4):=zH ((HB0.out.trans (HB2.out.mono (by omega))).trans ((HB3.out.mono (by omega)).trans (HB4.out.mono (by omega))));have HBX4:Hid (W4.heap[W2.heap.size + 1]? = some (.cells #[.map (some W2.heap.size)] 198 (0,0))):=zH ((HB4.out.block _ (by omega)).trans HX3.out);have HV4:Hid (W4.heap[w.heap.size]? = some (.cells #[.int .i64 v] 3 (0,0))):=zH ((HB4.out.block _ (by omega)).trans ((HB3.out.block _ (by omega)).trans HV2.out));have HT4:Hid (W4.heap[w.heap.size + 1]? = some (.cells #[.int .i64 0,.int .i64 0,.slice none 0 0] 84 (0,0))):=zH ((HB4.out.block _ (by omega)).trans ((HB3.out.block _ (by omega)).trans HT2.out));clear hW4 hO4 hS4 HX3 HM3 HV2 HT2 HB4 HB3 HB2 HB1 HB0 HLL HLL2 HLL3 HX hc0
 gi_wp2
 refine Zdr (w:=W4) rfl (by decide) (gf:=184) (lb:=#[.pointer (some ⟨W2.heap.size + 2,0,none⟩),.pointer (some ⟨W2.heap.size + 2 + 1,0,none⟩)]) rfl trivial (enters_of Tryz.func184 (by kernel_rfl) rfl)
   (x.2.2.length + 1) (CnI w W4 W2.heap.size o x.2.2) (GmX o x.2.2) KpC (fun h k=>KpC.trans h k) ?hKb rfl ?hIb ?hIp ?hXp ?h0 ?hseq ?hround ?hdone
 case hKb=>exact fun W l o o' hl ho hc=>KpC.put W l o o' ho (fun cs t fr e=>by subst e;cases hc)
 case hIb=>exact fun k W W' hi _ hb=>hi.below' hb
 case hIp=>exact fun k W l o o' hl ho hc hi=>hi.put o' hl (by omega) (by have:=HW4.out.size;omega)
 case hXp=>
  rintro k v W l o o' hl ho hc ⟨g,rfl,hw⟩;exact ⟨g,rfl,Zd4 hw o' ho hc⟩
 case h0=>exact ⟨HM4.out,Nat.le_refl _,fun _ _ _=>rfl,HW4.out⟩
 case hseq=>
  intro l J W hW hJb hJ0 hY;exact Zek l (W2.heap.size + 2) (W2.heap.size + 2 + 1) x.1 x.2.1 x.2.2 o ho1 ho2 hs (fun e=>(HX4.out.2.1 e).1) J hJb (zH hY) W ((hW.cell (p:=⟨W2.heap.size + 2,0,none⟩) (by show W2.heap.size + 2 < _;omega)).trans HO4.out) ((hW.cell (p:=⟨W2.heap.size + 2 + 1,0,none⟩) (by show W2.heap.size + 2 + 1 < _;omega)).trans HS4.out) (HX4.out.1.below hW) hJ0
 case hround=>
  rintro l k u W W5 ⟨hm,hz5,hkp,hbel⟩ ⟨g,rfl,hg⟩ hkN;have HM:=zH hm;have HKP:=zH hkp;have HBE:=zH hbel;have HG:=zH hg;clear hm hkp hbel hg;obtain ⟨key,hkey⟩:∃ key,key = kOf (JP o x.2.2 k):=⟨_,rfl⟩;obtain ⟨lk,hlk⟩:=Zgn key (by rw [hkey];exact Zco ha hz k);obtain ⟨st,o1,hmo,hE,hF⟩:=HM.out.entry2 (t:=198) (e:=3) Za3 Zgu Tryz.underlying198 (z:=0) (fun u=>Tryz.zeroValue3 u) key hlk;obtain ⟨n0,hn0⟩:∃ n0,n0 = (J3 (YD o x.2.2 k) key).getD 0:=⟨_,rfl⟩;have hn1 : 0 <= n0 /\ n0 <= k:=by
   rw [hn0];cases hq:J3 (YD o x.2.2 k) key with
   | none=>simp
   | some y=>have:=VL o x.2.2 k _ (Ui hq);simpa using this
  rw [<- hn0] at hE;have HN0:=zH hn0;have HKEY:=zH hkey;have p1:IntKind.i64.wrap (n0 + 1) = n0 + 1:=IntWalk.i64_in _ (by omega);clear hn0 hkey
  gi_wp2
  refine ⟨by trivial,?_⟩;refine wpIn_block ?_;refine XO 7 50 rfl rfl (by kernel_rfl) (by kernel_rfl) (by kernel_rfl) (by kernel_rfl) (CrS W2.heap.size o1 W5) (CrT W2.heap.size o1) (CrG W2.heap.size o st g key n0 o1) CrG.keeps ⟨⟨rfl,rfl,rfl,Nat.le_refl _,fun _ _ _=>rfl⟩,.inl rfl⟩ ?_ ?_
  ·have hcX:∀ u,CrS W2.heap.size o1 W5 u -> u.cell? ⟨W2.heap.size + 1,0,none⟩ = some (.map (some W2.heap.size)):=fun u hu=>
    (cR 0 ((hu.grown.block (W2.heap.size + 1) (by omega) (by intro e;injection e with e;omega)).trans ((HKP.out _ (by omega) (by omega)).trans HBX4.out))).trans rfl
   have hWs:W2.heap.size < W5.heap.size:=(by omega);have hKp:∀ u,CrS W2.heap.size o1 W5 u -> KpC W5 u:=fun u hu=>⟨hu.grown.size,fun b cs t fr e=>(hu.grown.block b (aE e).1 (by
    intro e2;injection e2 with e2
    subst e2;obtain ⟨es,c,h1,_⟩:=HM.out.block;rw [h1] at e;cases e)).trans e⟩
   have HGL:Hid ((JP o x.2.2 k).length = o):=zH (Xt ho1 hkN);refine ⟨?_,?_,?_,?_,?_,?_,?_,trivial⟩
   ·intro b u su dp kp K hK;have e8:gT b 8 = .pointer (some ⟨W2.heap.size + 1,0,none⟩):=kp 8 (by kernel_rfl);have cX:=hcX u su;go_simp;exact hK _ _ su (fun h=>h) rfl
   ·intro b u su dp kp K hK;have e11:gT b 11 = .slice g o o:=kp 11 (by kernel_rfl);go_simp;exact hK _ _ su (fun h=>h) rfl
   ·intro b u su dp kp K hK;have e37:gT b 37 = .slice g o o:=dp 1 _ rfl (by kernel_rfl);go_simp;have hk9:=Za2 g o (JP o x.2.2 k) u ((hKp u su).lies HG.out) (by rw [HGL.out];omega) (zH (QE ha hz k));rw [HGL.out,<- HKEY.out] at hk9;refine ⟨trivial,(CallsIn.inRound l ((callsIn_wide (n:=6)).2 hk9)).mono ?_⟩;rintro e u' ⟨rfl,hb'⟩;go_simp;exact hK _ _ (su.below hb' (by omega)) (fun h=>(hb'.block _ (by have:=su.grown.size;omega)).trans h) rfl
   ·intro b u su dp kp K hK;have e36:gT b 36 = .map (some W2.heap.size):=dp 0 _ rfl (by kernel_rfl);have e38:gT b 38 = ek key:=dp 2 _ rfl (by kernel_rfl);have h1:=(hE u su.map).1;go_simp;exact hK _ _ su (fun h=>h) rfl
   ·intro b u su dp kp K hK;have e39:gT b 39 = .int .i64 n0:=dp 3 _ rfl (by kernel_rfl);go_simp;exact hK _ _ su (fun h=>h) rfl
   ·intro b u su dp kp K hK;have e36:gT b 36 = .map (some W2.heap.size):=dp 0 _ rfl (by kernel_rfl);have e38:gT b 38 = ek key:=dp 2 _ rfl (by kernel_rfl);have h1:=(hE u su.map).2;go_simp;have hlt:W2.heap.size < u.heap.size:=(by have:=su.grown.size;omega);exact hK _ _ ⟨JW su.grown o1,.inr (JT hlt o1)⟩ (fun _=>JT hlt o1) ⟨rfl,JT hlt o1⟩
   ·intro b u su dp kp K hK;obtain ⟨e41,h41⟩:gT b 41 = .tuple #[.int .i64 n0,goInt st] /\ u.heap[W2.heap.size]? = some o1:=dp 5 _ rfl (by kernel_rfl);go_simp;exact hK _ _ su (fun h=>h) rfl
  ·intro o' b u ho hsz hdf su hG kp K hK;injection ho with ho
   subst ho;have e36:gT b 36 = .map (some W2.heap.size):=hG 0 _ rfl (by omega);have e40:gT b 40 = .int .i64 (n0 + 1):=hG 4 _ rfl (by omega);have e42:gT b 42 = goInt st:=hG 6 _ rfl (by omega);obtain ⟨_,h41⟩:gT b 41 = .tuple #[.int .i64 n0,goInt st] /\ u.heap[W2.heap.size]? = some o1:=hG 5 _ rfl (by omega);obtain ⟨o2,_,h1,h2⟩:=hF u (n0 + 1) h41;have hlt:W2.heap.size < u.heap.size:=(by have:=su.grown.size;omega);have hg2:=JW su.grown o2;have hm2:=h2 _ (JT hlt o2);have h1':(Instr.entryStore 198 (.map (some W2.heap.size)) (.int .i64 (st:Int)) (.int .i64 (n0 + 1))).run Tryz.prog u = .ok () (ChangeMaps.setBlock u W2.heap.size o2):=h1;clear h2 hG kp h1;go_simp;refine hK _ _ ⟨KeepsFrom.of_grownBy hg2 (fun j e=>by injection e with e;omega),⟨hg2.size,fun b cs t fr e=>(hg2.block b (aE e).1 (by
    intro e2;injection e2 with e2
    subst e2;obtain ⟨es,c,q1,_⟩:=HM.out.block;rw [q1] at e;cases e)).trans e⟩,⟨?_,tR hz5 hg2.size,fun b hb hne=>(hg2.block b (by omega) (by intro e;injection e with e;omega)).trans (HKP.out b hb hne),HBE.out.grown hg2 HBE.out.size (fun j e=>by injection e with e;omega)⟩⟩
   have e9:YD o x.2.2 (k + 1) = YW (YD o x.2.2 k) key (n0 + 1):=(by rw [HN0.out,HKEY.out];rfl);rw [e9];exact hm2
 case hdone=>
  rintro D W hD ⟨hm,hz5,hkp,hbel⟩ hK;have HM:=zH hm;have HBE:=zH hbel;have HK:=zH hK;have hDW:D < W.heap.size:=(aE hK).1;have cV:W.cell? ⟨w.heap.size,0,none⟩ = some (.int .i64 v):=(cR 0 ((hkp _ (by omega) (by omega)).trans HV4.out)).trans rfl;have cX:W.cell? ⟨W2.heap.size + 1,0,none⟩ = some (.map (some W2.heap.size)):=(cR 0 ((hkp _ (by omega) (by omega)).trans HBX4.out)).trans rfl;have HT:Hid (W.heap[w.heap.size + 1]? = some (.cells #[.int .i64 0,.int .i64 0,.slice none 0 0] 84 (0,0))):=zH ((hkp _ (by omega) (by omega)).trans HT4.out);clear hm hkp hbel hK
  gi_wp2
  rw [Code.roundsIn]
  gi_wp2
  refine ⟨trivial,?_⟩;refine ((callsIn_wide (n:=8)).2 (Vo o v W2.heap.size (YD o x.2.2 (x.2.2.length + 1)) W HM.out ho1 ho2 (by have:=Vp o x.2.2 (x.2.2.length + 1);omega) (zH (ZeF ha hz _)) (zH (fun p hp=>by have:=VL o x.2.2 _ p hp;omega)))).mono ?_;intro e w' hret;obtain ⟨ta,tb,tA,tn,tc,tr,rfl,hbw,hmv⟩:=hret.form;have HMV:=zH hmv;have HBW:=zH hbw;have HT':Hid (w'.heap[w.heap.size + 1]? = some (.cells #[.int .i64 0,.int .i64 0,.slice none 0 0] 84 (0,0))):=zH ((hbw.block _ (by omega)).trans HT.out);have HK':Hid (w'.heap[D]? = some (.deferred (some []))):=zH ((hbw.block _ hDW).trans HK.out);clear hret hmv hbw;have d0:=(cR 0 HT'.out).trans rfl;have d1:=(cR 1 HT'.out).trans rfl;have d2:=(cR 2 HT'.out).trans rfl;have f0:=JB HT'.out 0;have f1:=JB HT'.out 1;have f2:=JB HT'.out 2
  gi_wp2
  have hD2:w.heap.size + 2 <= D:=by omega
  have hr6:=Zcf HT'.out (.int .i64 ta) (.int .i64 tb) (.slice tA tn tc);have hD7:(((w'.setCell ⟨w.heap.size + 1,0,none⟩ (.int .i64 ta)).setCell ⟨w.heap.size + 1,1,none⟩ (.int .i64 tb)).setCell ⟨w.heap.size + 1,2,none⟩ (.slice tA tn tc)).heap[D]? = some (.deferred (some [])):=(J1 (by omega) _ _ _).trans HK'.out;have hb7:Below w.heap.size w (((w'.setCell ⟨w.heap.size + 1,0,none⟩ (.int .i64 ta)).setCell ⟨w.heap.size + 1,1,none⟩ (.int .i64 tb)).setCell ⟨w.heap.size + 1,2,none⟩ (.slice tA tn tc)):=
   (((HBE.out.trans (HBW.out.mono HBE.out.size)).setCell (by simp) _).setCell (by simp) _).setCell (by simp) _
  have hblk:∀ b,BT w' b 3 ∨ BT w' b 114 /\ W.heap.size <= b -> (((w'.setCell ⟨w.heap.size + 1,0,none⟩ (.int .i64 ta)).setCell ⟨w.heap.size + 1,1,none⟩ (.int .i64 tb)).setCell ⟨w.heap.size + 1,2,none⟩ (.slice tA tn tc)).heap[b]? = w'.heap[b]?:=fun b hb=>J1 (by
   rcases hb with hb | hb
   ·exact hb.ne ⟨_,_,HT'.out⟩ (by decide)
   ·exact hb.1.ne ⟨_,_,HT'.out⟩ (by decide)) _ _ _
  have hdb:∀ b,BT w' b 3 ∨ BT w' b 114 /\ W.heap.size <= b -> b ≠ D:=fun b hb e=>by
   subst e;rcases hb with ⟨cs,fz,hb⟩ | ⟨⟨cs,fz,hb⟩,_⟩ <;> rw [HK'.out] at hb <;> cases hb
  have hsz7:w'.heap.size <= (((w'.setCell ⟨w.heap.size + 1,0,none⟩ (.int .i64 ta)).setCell ⟨w.heap.size + 1,1,none⟩ (.int .i64 tb)).setCell ⟨w.heap.size + 1,2,none⟩ (.slice tA tn tc)).heap.size:=by simp [World.setCell]
  generalize (((w'.setCell ⟨w.heap.size + 1,0,none⟩ (.int .i64 ta)).setCell ⟨w.heap.size + 1,1,none⟩ (.int .i64 tb)).setCell ⟨w.heap.size + 1,2,none⟩ (.slice tA tn tc)) = V7 at *
  refine ⟨by simp,.inl ⟨_,_,rfl,run_takeDeferred hD7,?_⟩⟩;have hrow:∀ o',(V7.putObj D o').heap[w.heap.size + 1]? = some (.cells #[.int .i64 ta,.int .i64 tb,.slice tA tn tc] 84 (0,0)):=fun o'=>(World.putObj_heap_other (by omega)).trans hr6;have g0:=fun o'=>(cR 0 (hrow o')).trans rfl;have g1:=fun o'=>(cR 1 (hrow o')).trans rfl;have g2:=fun o'=>(cR 2 (hrow o')).trans rfl;refine ⟨.tuple #[.agg #[.int .i64 ta,.int .i64 tb,.slice tA tn tc],.int .i64 tr],by simp [results,Tryz.results103,go_sem,g0,g1,g2],?_⟩;refine HMV.out w _ (by have:=HBE.out.size;omega) ⟨hb7.os,hb7.tape,hb7.output,by simpa using hb7.size,fun b hb=>(World.putObj_heap_other (by omega)).trans (hb7.block b hb)⟩ (by simpa using hsz7) (fun b hb=>(World.putObj_heap_other (hdb b hb)).trans (hblk b hb))
end Go.Proofs.YtcjicjfbippmnaaGreat
namespace Go.Proofs.YtcjicjfbippmnaaGreat
open Go.RowKit Ear

structure TT where
 o:Int
 v:Int
 A:Option Addr
 c:Nat
 L:List Gm
def TT.val (t:TT):Value:=.agg #[.int .i64 t.o,.int .i64 t.v,.slice t.A t.L.length t.c]
def Zbp (Ts:List TT):List Value:=Ts.flatMap fun t=>[Value.int .i64 t.o,.int .i64 t.v,.slice t.A t.L.length t.c]
structure TTs (w:World) (B:Option Addr) (Ts:List TT):Prop where
 lies:Lies w B (Zbp Ts)
 tab:∀ t ∈ Ts,Tb w t.A t.L
 len:∀ t ∈ Ts,t.L.length <= 20000
theorem TTs.below {w w':World} {B:Option Addr} {Ts:List TT} (h:TTs w B Ts) (hb:Below w.heap.size w w'):TTs w' B Ts:=⟨h.lies.below hb,fun t ht=>(h.tab t ht).below hb,h.len⟩
theorem Zbx (Ts:List TT):(Zbp Ts).length = Ts.length * 3:=by
 induction Ts with
 | nil=>rfl
 | cons t Ts ih=>simp [Zbp] at ih ⊢;omega
theorem Zcb:∀ (Ts:List TT) {k:Nat} (hk:k < Ts.length),(Zbp Ts)[k * 3]? = some (.int .i64 Ts[k].o) /\ (Zbp Ts)[k * 3 + 1]? = some (.int .i64 Ts[k].v) /\ (Zbp Ts)[k * 3 + 2]? = some (.slice Ts[k].A Ts[k].L.length Ts[k].c)
 | [],k,hk=>by simp at hk
 | t :: Ts,0,_=>by simp [Zbp]
 | t :: Ts,k + 1,hk=>by
  have:=Zcb Ts (k:=k) (by simpa using hk);rw [show (k + 1) * 3 = k * 3 + 1 + 1 + 1 by omega];simpa [Zbp] using this
theorem TTs.at_ {w:World} {B:Option Addr} {Ts:List TT} (h:TTs w B Ts) {k:Nat} (hk:k < Ts.length) :
  ∃ b off,B = some ⟨b,off,none⟩ /\ b < w.heap.size /\ w.cell? ⟨b,off + k * 3,none⟩ = some (.int .i64 Ts[k].o) /\ w.cell? ⟨b,off + k * 3 + 1,none⟩ = some (.int .i64 Ts[k].v) /\ w.cell? ⟨b,off + k * 3 + 2,none⟩ = some (.slice Ts[k].A Ts[k].L.length Ts[k].c):=by
 obtain ⟨b,off,e,hlt,hc⟩:=h.lies (by rw [Zbx];omega);obtain ⟨h1,h2,h3⟩:=Zcb Ts hk;exact ⟨b,off,e,hlt,hc _ _ h1,by rw [Nat.add_assoc];exact hc _ _ h2,by rw [Nat.add_assoc];exact hc _ _ h3⟩
theorem Ub (t:TT) (w:World) (h:t.L.length <= 20000):Calls Tryz.prog 188 #[t.val] w (Zdn false w):=by
 unfold TT.val;go_enter Tryz.func188,Tryz.ntmps188;go_wp2_with fail;go_ret;exact ⟨Ju (by simp;omega),bR.alloc nR _⟩
theorem Zdc (B:Option Addr) (c:Nat) (Ts:List TT) (w:World) (h:TTs w B Ts) (hn:Ts.length <= 9223372036854775807) :
  Calls Tryz.prog 202 #[.slice B Ts.length c,.func (.func 188) #[] #[]] w fun e w'=>e = .returned (.int .i64 (-1)) /\ Below w.heap.size w w':=by
 have heg:=enters_of (P:=Tryz.prog) Tryz.func188 (by kernel_rfl) rfl;have HT:=zH h;clear h;go_enter Tryz.func202,Tryz.ntmps202;go_wp2_with fail;go_loopw [8] (fun i wr=>∃ k:Nat,k <= Ts.length /\ i = .int .i64 k /\ Hid (Below w.heap.size w wr)) (fun i _=>Ts.length - (intOf i).toNat)
 case atStart=>exact ⟨0,Nat.zero_le _,rfl,zH bR⟩
 case round=>
  obtain ⟨k,hk,rfl,HB⟩:=hrel;by_cases hlt:k < Ts.length
  ·obtain ⟨bk,off,rfl,hbk,hc0,hc1,hc2⟩:=(HT.out.below HB.out).at_ hlt;have HC:=zH (Ub Ts[k] wr (HT.out.len _ (yM hlt)));generalize Ts[k] = X at *
   obtain ⟨xo,xv,xA,xc,xL⟩:=X;simp only at *
   unfold TT.val at HC;go_wp2_with fail;refine HC.out.mono ?_;rintro e w' ⟨rfl,hb⟩;have HB2:=zH (HB.out.trans (hb.mono HB.out.size));clear hb HC;go_wp2_with fail;exact ⟨⟨k + 1,by omega,by go_num,HB2⟩,by simp [intOf];omega⟩
  ·go_wp2_with fail;go_ret;exact ⟨rfl,HB.out⟩
theorem Zan (B:Option Addr) (c:Nat) (Ts:List TT) (w:World) (h:TTs w B Ts) (hn:Ts.length <= 9223372036854775807) :
  Calls Tryz.prog 187 #[.slice B Ts.length c,.func (.func 188) #[] #[]] w (Zdn false w):=by
 go_enter Tryz.func187,Tryz.ntmps187;go_wp2_with fail;refine (Zdc B c Ts w h hn).mono ?_;rintro e w' ⟨rfl,hb⟩;go_wp2_with fail;go_ret;exact ⟨rfl,hb⟩
theorem Qh (B:Option Addr) (c:Nat) (Ts:List TT) (w:World) (h:TTs w B Ts) (hn:Ts.length <= 9223372036854775807) (hv:Hid (∀ t ∈ Ts,Uq t.o t.v (Jl t.L) = 0)) :
  Calls Tryz.prog 159 #[.slice B Ts.length c] w (ZhA 0 w):=by
 have HT:=zH h;clear h;go_enter Tryz.func159,Tryz.ntmps159;go_wp2_with fail;refine (Zan B c Ts w HT.out hn).mono ?_;rintro e w1 ⟨rfl,hb1⟩;have HB1:Hid (Below w.heap.size w w1):=zH hb1;clear hb1;go_wp2_with fail;go_loopw [10] (fun i wr=>∃ k:Nat,k <= Ts.length /\ i = .int .i64 k /\ Hid (Below w.heap.size w wr)) (fun i _=>Ts.length - (intOf i).toNat)
 case atStart=>exact ⟨0,Nat.zero_le _,rfl,HB1⟩
 case round=>
  obtain ⟨k,hk,rfl,HB⟩:=hrel;clear HB1;by_cases hlt:k < Ts.length
  ·obtain ⟨bk,off,rfl,hbk,hc0,hc1,hc2⟩:=(HT.out.below HB.out).at_ hlt;have HX:=zH ((HT.out.below HB.out).tab _ (yM hlt));have HLN:=HT.out.len _ (yM hlt);have HV:=zH (hv.out _ (yM hlt));generalize Ts[k] = X at *
   obtain ⟨xo,xv,xA,xc,xL⟩:=X;simp only at *
   obtain ⟨V,hV⟩:∃ V:World,V = wr.alloc (.cells #[.int .i64 xo,.int .i64 xv,.slice xA xL.length xc] 84):=⟨_,rfl⟩;have HVB:Hid (Below wr.heap.size wr V):=zH (by rw [hV];exact bR.alloc nR _);have hcl:=heap_alloc_new wr (.cells #[.int .i64 xo,.int .i64 xv,.slice xA xL.length xc] 84);rw [<- hV] at hcl;have v0:=(cR 0 hcl).trans rfl;have v1:=(cR 1 hcl).trans rfl;have v2:=(cR 2 hcl).trans rfl;clear hcl;go_wp2_with fail;rw [<- hV];clear hV;go_wp2_with fail;refine (ZF xo xv xA xc xL V (HX.out.below HVB.out) (by omega) 0 HV).mono ?_;rintro e w' ⟨rfl,hb⟩;have HB2:=zH (HB.out.trans ((HVB.out.mono HB.out.size).trans (hb.mono (HB.out.trans (HVB.out.mono HB.out.size)).size)));clear hb;go_wp2_with fail;exact ⟨⟨k + 1,by omega,by go_num,HB2⟩,by simp [intOf];omega⟩
  ·go_wp2_with fail;go_ret;exact ⟨rfl,HB.out⟩
def mrg (m:List (K4 × Int)):Tbl -> List (K4 × Int)
 | []=>m
 | g :: l=>mrg (YW m (kOf g.1) ((J3 m (kOf g.1)).getD 0 + g.2)) l
theorem Qy (l l':Tbl):∀ m,mrg m (l ++ l') = mrg (mrg m l) l':=by
 induction l with
 | nil=>intro m;rfl
 | cons g l ih=>intro m;exact ih _
theorem ZfA (m:List (K4 × Int)) (l:Tbl) (g:List Int × Int):mrg m (l ++ [g]) = YW (mrg m l) (kOf g.1) ((J3 (mrg m l) (kOf g.1)).getD 0 + g.2):=by rw [Qy];rfl
def gOk (g:List Int × Int):Prop:=g.1.length <= 4 /\ (∀ y ∈ g.1,0 <= y /\ y <= 1000000) /\ 1 <= g.2 /\ g.2 <= 1073741824
theorem Zeq {g:List Int × Int} (h:gOk g):kOk (kOf g.1):=by
 have key:∀ j i,0 <= kx g.1 j i /\ kx g.1 j i <= 1000001:=fun j i=>by
  unfold kx;split
  ·cases hq:g.1[i]? with
   | none=>simp
   | some y=>have:=h.2.1 y (List.mem_of_getElem? hq);simp;omega
  ·omega
 exact ⟨key _ _,key _ _,key _ _,key _ _⟩
theorem ZdZ {m:List (K4 × Int)} {B:Int} (hB : 0 <= B) (h:∀ p ∈ m,0 <= p.2 /\ p.2 <= B) (k:K4) : 0 <= (J3 m k).getD 0 /\ (J3 m k).getD 0 <= B:=by
 cases hq:J3 m k with
 | none=>simpa using hB
 | some y=>have:=h _ (Ui hq);simpa using this
theorem ZdX:∀ (l:Tbl) (m:List (K4 × Int)) (B:Int),0 <= B -> (∀ p ∈ m,0 <= p.2 /\ p.2 <= B) -> (∀ g ∈ l,gOk g) -> ∀ p ∈ mrg m l,0 <= p.2 /\ p.2 <= B + l.length * 1073741824
 | [],m,B,h0,h,_=>fun p hp=>by have:=h p hp;simpa using this
 | g :: l,m,B,h0,h,hg=>fun p hp=>by
  have h1:=hg g (by simp);have:=ZdX l _ (B + 1073741824) (by omega) (fun q hq=>by
   rcases Zt hq with rfl | hq
   ·have:=ZdZ h0 h (kOf g.1);have:=h1.2.2;simp only;omega
   ·have:=h q hq;omega) (fun x hx=>hg x (by simp [hx])) p hp
  simp;omega
theorem Zgk:∀ (l:Tbl) (m:List (K4 × Int)),(∀ p ∈ m,kOk p.1) -> (∀ g ∈ l,gOk g) -> ∀ p ∈ mrg m l,kOk p.1
 | [],m,h,_=>h
 | g :: l,m,h,hg=>Zgk l _ (fun q hq=>by
   rcases Zt hq with rfl | hq
   ·exact Zeq (hg g (by simp))
   ·exact h q hq) (fun x hx=>hg x (by simp [hx]))
theorem ZdW:∀ (l:Tbl) (m:List (K4 × Int)),(mrg m l).length <= m.length + l.length
 | [],m=>by simp [mrg]
 | g :: l,m=>by
  have:=ZdW l (YW m (kOf g.1) ((J3 m (kOf g.1)).getD 0 + g.2));have:=ZD m (kOf g.1) ((J3 m (kOf g.1)).getD 0 + g.2);simp [mrg];omega
theorem QZ {o v:Int} {l:Tbl} (h:Uq o v l = 0):∀ g ∈ l,gOk g:=fun g hg=>by
 obtain ⟨h1,h2,h3⟩:=Yf.1 h;obtain ⟨s1,s2,s3,s4⟩:=Xy.1 h2;obtain ⟨k,hk,rfl⟩:=List.getElem_of_mem hg;have hr:=List.all_eq_true.1 h3 k (List.mem_range.2 hk);unfold Y6 at hr;rw [Xa hk] at hr;simp only [Bool.and_eq_true] at hr;obtain ⟨q1,q2,q3,q4⟩:=YY.1 hr.1;exact ⟨by omega,fun y hy=>by have:=Vt q2 hy;omega,q3,q4⟩
def XT (Ts:List TT) (k:Nat):Tbl:=(Ts.take k).flatMap fun t=>Jl t.L
theorem ZcZ (Ts:List TT) {k:Nat} (hk:k < Ts.length):XT Ts (k + 1) = XT Ts k ++ Jl Ts[k].L:=by
 unfold XT;rw [List.take_succ_eq_append_getElem hk,List.flatMap_append];simp
theorem Zfi {Ts:List TT} (h:∀ t ∈ Ts,Uq t.o t.v (Jl t.L) = 0) (k:Nat):∀ g ∈ XT Ts k,gOk g:=fun g hg=>by
 obtain ⟨t,ht,hg⟩:=List.mem_flatMap.1 hg;exact QZ (h t (List.mem_of_mem_take ht)) g hg
structure MgI (w0 W4:World) (bm:Nat) (m:List (K4 × Int)) (W:World):Prop where
 map:MI W bm m
 size:W4.heap.size <= W.heap.size
 same:∀ b,b < W4.heap.size -> b ≠ bm -> W.heap[b]? = W4.heap[b]?
 below:Below w0.heap.size w0 W
theorem MgI.below' {w0 W4:World} {bm:Nat} {m:List (K4 × Int)} {W W':World} (h:MgI w0 W4 bm m W) (hb:Below W.heap.size W W'):MgI w0 W4 bm m W':=
 ⟨h.map.below hb,tR h.size hb.size,fun b hlt hne=>(hb.block b (Nat.lt_of_lt_of_le hlt h.size)).trans (h.same b hlt hne),h.below.trans (hb.mono h.below.size)⟩
theorem MgI.at_ {w0 W4:World} {bm:Nat} {m:List (K4 × Int)} {W:World} (h:MgI w0 W4 bm m W):MgI w0 W bm m W:=⟨h.map,Nat.le_refl _,fun _ _ _=>rfl,h.below⟩
theorem MgI.back {w0 W4 W5:World} {bm:Nat} {m m':List (K4 × Int)} {W:World} (h4:MgI w0 W4 bm m W5) (h:MgI w0 W5 bm m' W):MgI w0 W4 bm m' W:=
 ⟨h.map,tR h4.size h.size,fun b hlt hne=>(h.same b (Nat.lt_of_lt_of_le hlt h4.size) hne).trans (h4.same b hlt hne),h.below⟩
theorem MgI.kpc {w0 W4:World} {bm:Nat} {m m':List (K4 × Int)} {W:World} (h:MgI w0 W4 bm m W) (h0:MI W4 bm m'):KpC W4 W:=⟨h.size,fun b cs t fr e=>(h.same b (aE e).1 (by
 intro e2;subst e2;obtain ⟨es,c,h1,_⟩:=h0.block;rw [h1] at e;cases e)).trans e⟩
end Go.Proofs.YtcjicjfbippmnaaGreat
