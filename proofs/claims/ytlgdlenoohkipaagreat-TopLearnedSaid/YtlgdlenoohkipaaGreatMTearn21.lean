/- TopLearned -/
import Derived.Test.YtlgdlenoohkipaaGreatMTearn20
set_option maxRecDepth 100000
set_option maxHeartbeats 32000000
namespace Go.Proofs.YtlgdlenoohkipaaGreat
open Go.RowKit Ear

structure TT where
 o:Int
 v:Int
 A:Option Addr
 c:Nat
 L:List Gm
def TT.val (t:TT):Value:=.agg #[.int .i64 t.o,.int .i64 t.v,.slice t.A t.L.length t.c]
def ZaA (Ts:List TT):List Value:=Ts.flatMap fun t=>[Value.int .i64 t.o,.int .i64 t.v,.slice t.A t.L.length t.c]
structure TTs (w:World) (B:Option Addr) (Ts:List TT):Prop where
 lies:Lies w B (ZaA Ts)
 tab:∀ t ∈ Ts,Tb w t.A t.L
 len:∀ t ∈ Ts,t.L.length <= 20000
theorem TTs.below {w w':World} {B:Option Addr} {Ts:List TT} (h:TTs w B Ts) (hb:Below w.heap.size w w'):TTs w' B Ts:=⟨h.lies.below hb,fun t ht=>(h.tab t ht).below hb,h.len⟩
theorem Uu (Ts:List TT):(ZaA Ts).length = Ts.length * 3:=by
 induction Ts with
 | nil=>rfl
 | cons t Ts ih=>simp [ZaA] at ih ⊢;omega
theorem Zcq:∀ (Ts:List TT) {k:Nat} (hk:k < Ts.length),(ZaA Ts)[k * 3]? = some (.int .i64 Ts[k].o) /\ (ZaA Ts)[k * 3 + 1]? = some (.int .i64 Ts[k].v) /\ (ZaA Ts)[k * 3 + 2]? = some (.slice Ts[k].A Ts[k].L.length Ts[k].c)
 | [],k,hk=>by simp at hk
 | t :: Ts,0,_=>by simp [ZaA]
 | t :: Ts,k + 1,hk=>by
  have:=Zcq Ts (k:=k) (by simpa using hk);rw [show (k + 1) * 3 = k * 3 + 1 + 1 + 1 by omega];simpa [ZaA] using this
theorem TTs.at_ {w:World} {B:Option Addr} {Ts:List TT} (h:TTs w B Ts) {k:Nat} (hk:k < Ts.length) :
  ∃ b off,B = some ⟨b,off,none⟩ /\ b < w.heap.size /\ w.cell? ⟨b,off + k * 3,none⟩ = some (.int .i64 Ts[k].o) /\ w.cell? ⟨b,off + k * 3 + 1,none⟩ = some (.int .i64 Ts[k].v) /\ w.cell? ⟨b,off + k * 3 + 2,none⟩ = some (.slice Ts[k].A Ts[k].L.length Ts[k].c):=by
 obtain ⟨b,off,e,hlt,hc⟩:=h.lies (by rw [Uu];omega);obtain ⟨h1,h2,h3⟩:=Zcq Ts hk;exact ⟨b,off,e,hlt,hc _ _ h1,by rw [Nat.add_assoc];exact hc _ _ h2,by rw [Nat.add_assoc];exact hc _ _ h3⟩
theorem Uf (t:TT) (w:World) (h:t.L.length <= 20000):Calls Tryz.prog 144 #[t.val] w (ZaE false w):=by
 unfold TT.val;go_enter Tryz.func144,Tryz.ntmps144;go_wp2_with fail;go_ret;exact ⟨Jm (by simp;omega),bR.alloc nR _⟩
theorem ZdP (B:Option Addr) (c:Nat) (Ts:List TT) (w:World) (h:TTs w B Ts) (hn:Ts.length <= 9223372036854775807) :
  Calls Tryz.prog 182 #[.slice B Ts.length c,.func (.func 144) #[] #[]] w fun e w'=>e = .returned (.int .i64 (-1)) /\ Below w.heap.size w w':=by
 have heg:=enters_of (P:=Tryz.prog) Tryz.func144 (by kernel_rfl) rfl;have HT:=zH h;clear h;go_enter Tryz.func182,Tryz.ntmps182;go_wp2_with fail;go_loopw [8] (fun i wr=>∃ k:Nat,k <= Ts.length /\ i = .int .i64 k /\ Hid (Below w.heap.size w wr)) (fun i _=>Ts.length - (intOf i).toNat)
 case atStart=>exact ⟨0,Nat.zero_le _,rfl,zH bR⟩
 case round=>
  obtain ⟨k,hk,rfl,HB⟩:=hrel;by_cases hlt:k < Ts.length
  ·obtain ⟨bk,off,rfl,hbk,hc0,hc1,hc2⟩:=(HT.out.below HB.out).at_ hlt;have HC:=zH (Uf Ts[k] wr (HT.out.len _ (yM hlt)));generalize Ts[k] = X at *
   obtain ⟨xo,xv,xA,xc,xL⟩:=X;simp only at *
   unfold TT.val at HC;go_wp2_with fail;refine HC.out.mono ?_;rintro e w' ⟨rfl,hb⟩;have HB2:=zH (HB.out.trans (hb.mono HB.out.size));clear hb HC;go_wp2_with fail;exact ⟨⟨k + 1,by omega,by go_num,HB2⟩,by simp [intOf];omega⟩
  ·go_wp2_with fail;go_ret;exact ⟨rfl,HB.out⟩
theorem Zay (B:Option Addr) (c:Nat) (Ts:List TT) (w:World) (h:TTs w B Ts) (hn:Ts.length <= 9223372036854775807) :
  Calls Tryz.prog 143 #[.slice B Ts.length c,.func (.func 144) #[] #[]] w (ZaE false w):=by
 go_enter Tryz.func143,Tryz.ntmps143;go_wp2_with fail;refine (ZdP B c Ts w h hn).mono ?_;rintro e w' ⟨rfl,hb⟩;go_wp2_with fail;go_ret;exact ⟨rfl,hb⟩
theorem Qi (B:Option Addr) (c:Nat) (Ts:List TT) (w:World) (h:TTs w B Ts) (hn:Ts.length <= 9223372036854775807) (hv:Hid (∀ t ∈ Ts,Xz t.o t.v (Je t.L) = 0)) :
  Calls Tryz.prog 91 #[.slice B Ts.length c] w (VU 0 w):=by
 have HT:=zH h;clear h;go_enter Tryz.func91,Tryz.ntmps91;go_wp2_with fail;refine (Zay B c Ts w HT.out hn).mono ?_;rintro e w1 ⟨rfl,hb1⟩;have HB1:Hid (Below w.heap.size w w1):=zH hb1;clear hb1;go_wp2_with fail;go_loopw [10] (fun i wr=>∃ k:Nat,k <= Ts.length /\ i = .int .i64 k /\ Hid (Below w.heap.size w wr)) (fun i _=>Ts.length - (intOf i).toNat)
 case atStart=>exact ⟨0,Nat.zero_le _,rfl,HB1⟩
 case round=>
  obtain ⟨k,hk,rfl,HB⟩:=hrel;clear HB1;by_cases hlt:k < Ts.length
  ·obtain ⟨bk,off,rfl,hbk,hc0,hc1,hc2⟩:=(HT.out.below HB.out).at_ hlt;have HX:=zH ((HT.out.below HB.out).tab _ (yM hlt));have HLN:=HT.out.len _ (yM hlt);have HV:=zH (hv.out _ (yM hlt));generalize Ts[k] = X at *
   obtain ⟨xo,xv,xA,xc,xL⟩:=X;simp only at *
   obtain ⟨V,hV⟩:∃ V:World,V = wr.alloc (.cells #[.int .i64 xo,.int .i64 xv,.slice xA xL.length xc] 27):=⟨_,rfl⟩;have HVB:Hid (Below wr.heap.size wr V):=zH (by rw [hV];exact bR.alloc nR _);have hcl:=heap_alloc_new wr (.cells #[.int .i64 xo,.int .i64 xv,.slice xA xL.length xc] 27);rw [<- hV] at hcl;have v0:=(cR 0 hcl).trans rfl;have v1:=(cR 1 hcl).trans rfl;have v2:=(cR 2 hcl).trans rfl;clear hcl;go_wp2_with fail;rw [<- hV];clear hV;go_wp2_with fail;refine (YI xo xv xA xc xL V (HX.out.below HVB.out) (by omega) 0 HV).mono ?_;rintro e w' ⟨rfl,hb⟩;have HB2:=zH (HB.out.trans ((HVB.out.mono HB.out.size).trans (hb.mono (HB.out.trans (HVB.out.mono HB.out.size)).size)));clear hb;go_wp2_with fail;exact ⟨⟨k + 1,by omega,by go_num,HB2⟩,by simp [intOf];omega⟩
  ·go_wp2_with fail;go_ret;exact ⟨rfl,HB.out⟩
def mrg (m:List (K4 × Int)):Tbl -> List (K4 × Int)
 | []=>m
 | g :: l=>mrg (Xr m (kOf g.1) ((JB m (kOf g.1)).getD 0 + g.2)) l
theorem QE (l l':Tbl):∀ m,mrg m (l ++ l') = mrg (mrg m l) l':=by
 induction l with
 | nil=>intro m;rfl
 | cons g l ih=>intro m;exact ih _
theorem Zgs (m:List (K4 × Int)) (l:Tbl) (g:List Int × Int):mrg m (l ++ [g]) = Xr (mrg m l) (kOf g.1) ((JB (mrg m l) (kOf g.1)).getD 0 + g.2):=by rw [QE];rfl
def gOk (g:List Int × Int):Prop:=g.1.length <= 4 /\ (∀ y ∈ g.1,0 <= y /\ y <= 1000000) /\ 1 <= g.2 /\ g.2 <= 1073741824
theorem UR {g:List Int × Int} (h:gOk g):kOk (kOf g.1):=by
 have key:∀ j i,0 <= kx g.1 j i /\ kx g.1 j i <= 1000001:=fun j i=>by
  unfold kx;split
  ·cases hq:g.1[i]? with
   | none=>simp
   | some y=>have:=h.2.1 y (List.mem_of_getElem? hq);simp;omega
  ·omega
 exact ⟨key _ _,key _ _,key _ _,key _ _⟩
theorem ZeO {m:List (K4 × Int)} {B:Int} (hB : 0 <= B) (h:∀ p ∈ m,0 <= p.2 /\ p.2 <= B) (k:K4) : 0 <= (JB m k).getD 0 /\ (JB m k).getD 0 <= B:=by
 cases hq:JB m k with
 | none=>simpa using hB
 | some y=>have:=h _ (JS hq);simpa using this
theorem ZeK:∀ (l:Tbl) (m:List (K4 × Int)) (B:Int),0 <= B -> (∀ p ∈ m,0 <= p.2 /\ p.2 <= B) -> (∀ g ∈ l,gOk g) -> ∀ p ∈ mrg m l,0 <= p.2 /\ p.2 <= B + l.length * 1073741824
 | [],m,B,h0,h,_=>fun p hp=>by have:=h p hp;simpa using this
 | g :: l,m,B,h0,h,hg=>fun p hp=>by
  have h1:=hg g (by simp);have:=ZeK l _ (B + 1073741824) (by omega) (fun q hq=>by
   rcases XL hq with rfl | hq
   ·have:=ZeO h0 h (kOf g.1);have:=h1.2.2;simp only;omega
   ·have:=h q hq;omega) (fun x hx=>hg x (by simp [hx])) p hp
  simp;omega
theorem Zha:∀ (l:Tbl) (m:List (K4 × Int)),(∀ p ∈ m,kOk p.1) -> (∀ g ∈ l,gOk g) -> ∀ p ∈ mrg m l,kOk p.1
 | [],m,h,_=>h
 | g :: l,m,h,hg=>Zha l _ (fun q hq=>by
   rcases XL hq with rfl | hq
   ·exact UR (hg g (by simp))
   ·exact h q hq) (fun x hx=>hg x (by simp [hx]))
theorem ZeJ:∀ (l:Tbl) (m:List (K4 × Int)),(mrg m l).length <= m.length + l.length
 | [],m=>by simp [mrg]
 | g :: l,m=>by
  have:=ZeJ l (Xr m (kOf g.1) ((JB m (kOf g.1)).getD 0 + g.2));have:=XM m (kOf g.1) ((JB m (kOf g.1)).getD 0 + g.2);simp [mrg];omega
theorem VC {o v:Int} {l:Tbl} (h:Xz o v l = 0):∀ g ∈ l,gOk g:=fun g hg=>by
 obtain ⟨h1,h2,h3⟩:=JK.1 h;obtain ⟨s1,s2,s3,s4⟩:=Jx.1 h2;obtain ⟨k,hk,rfl⟩:=List.getElem_of_mem hg;have hr:=List.all_eq_true.1 h3 k (List.mem_range.2 hk);unfold Xs at hr;rw [JZ hk] at hr;simp only [Bool.and_eq_true] at hr;obtain ⟨q1,q2,q3,q4⟩:=Xk.1 hr.1;exact ⟨by omega,fun y hy=>by have:=Ya q2 hy;omega,q3,q4⟩
def XZ (Ts:List TT) (k:Nat):Tbl:=(Ts.take k).flatMap fun t=>Je t.L
theorem Zdn (Ts:List TT) {k:Nat} (hk:k < Ts.length):XZ Ts (k + 1) = XZ Ts k ++ Je Ts[k].L:=by
 unfold XZ;rw [List.take_succ_eq_append_getElem hk,List.flatMap_append];simp
theorem Zf9 {Ts:List TT} (h:∀ t ∈ Ts,Xz t.o t.v (Je t.L) = 0) (k:Nat):∀ g ∈ XZ Ts k,gOk g:=fun g hg=>by
 obtain ⟨t,ht,hg⟩:=List.mem_flatMap.1 hg;exact VC (h t (List.mem_of_mem_take ht)) g hg
structure MgI (w0 W4:World) (bm:Nat) (m:List (K4 × Int)) (W:World):Prop where
 map:MI W bm m
 size:W4.heap.size <= W.heap.size
 same:∀ b,b < W4.heap.size -> b ≠ bm -> W.heap[b]? = W4.heap[b]?
 below:Below w0.heap.size w0 W
theorem MgI.below' {w0 W4:World} {bm:Nat} {m:List (K4 × Int)} {W W':World} (h:MgI w0 W4 bm m W) (hb:Below W.heap.size W W'):MgI w0 W4 bm m W':=
 ⟨h.map.below hb,tR h.size hb.size,fun b hlt hne=>(hb.block b (Nat.lt_of_lt_of_le hlt h.size)).trans (h.same b hlt hne),h.below.trans (hb.mono h.below.size)⟩
theorem MgI.at_ {w0 W4:World} {bm:Nat} {m:List (K4 × Int)} {W:World} (h:MgI w0 W4 bm m W):MgI w0 W bm m W:=⟨h.map,Nat.le_refl _,fun _ _ _=>rfl,h.below⟩
theorem MgI.back {w0 W4 W5:World} {bm:Nat} {m m':List (K4 × Int)} {W:World} (h4:MgI w0 W4 bm m W5) (h:MgI w0 W5 bm m' W):MgI w0 W4 bm m' W:=
 ⟨h.map,tR h4.size h.size,fun b hlt hne=>(h.same b (Nat.lt_of_lt_of_le hlt h4.size) hne).trans (h4.same b hlt hne),h.below⟩
theorem MgI.kpc {w0 W4:World} {bm:Nat} {m m':List (K4 × Int)} {W:World} (h:MgI w0 W4 bm m W) (h0:MI W4 bm m'):KpC W4 W:=⟨h.size,fun b cs t fr e=>(h.same b (aE e).1 (by
 intro e2;subst e2;obtain ⟨es,c,h1,_⟩:=h0.block;rw [h1] at e;cases e)).trans e⟩
abbrev ZdQ (w:World) (b:Nat) (mm:List (Int × Int)):Prop:=MapIs Tryz.prog 3 (Value.int .i64) (Value.int .i64) w b mm
abbrev ZfJ (w:World) (b:Nat) (ls:List (K4 × Nat)):Prop:=MapIs Tryz.prog 166 ek (fun b:Nat=>Value.map (some b)) w b ls
def ZhK (mm:List (Int × Int)):Prop:=∀ q ∈ mm,0 <= q.1 /\ q.1 <= 2000 /\ 1 <= q.2 /\ q.2 <= 35184372088832
structure Lvl (w:World) (b:Nat) (ct:K4 -> Int -> Int):Prop where
 ex:∃ ls:List (K4 × Nat),ZfJ w b ls /\ (∀ p ∈ ls,∃ mm,ZdQ w p.2 mm /\ (∀ z,(JB mm z).getD 0 = ct p.1 z) /\ ZhK mm) /\ ∀ k,JB ls k = none -> ∀ z,ct k z = 0
theorem Lvl.below {w w':World} {b:Nat} {ct:K4 -> Int -> Int} (h:Lvl w b ct) (hb:Below w.heap.size w w'):Lvl w' b ct:=by
 obtain ⟨ls,h1,h2,h3⟩:=h.ex;exact ⟨⟨ls,h1.below hb,fun p hp=>by obtain ⟨mm,q1,q2,q3⟩:=h2 p hp;exact ⟨mm,q1.below hb,q2,q3⟩,h3⟩⟩
def SeeM (u:World) (v:Value) (F:Int -> Int) (sm:Int):Prop:=∃ mm,MV Tryz.prog 3 (Value.int .i64) (Value.int .i64) u v mm /\ (∀ z,(JB mm z).getD 0 = F z) /\ ZhK mm /\ sm = (mm.map (·.2)).sum
theorem SeeM.below {w w':World} {v:Value} {F:Int -> Int} {sm:Int} (h:SeeM w v F sm) (hb:Below w.heap.size w w'):SeeM w' v F sm:=by
 obtain ⟨mm,h1,h2⟩:=h;exact ⟨mm,h1.below hb,h2⟩
def Zhu (F:Int -> Int) (w:World) (e:Ending) (w':World):Prop:=∃ v sm,e = .returned (.tuple #[v,.int .i64 sm]) /\ SeeM w' v F sm /\ Below w.heap.size w w'
theorem Zgn:∀ (n:Nat) (l:List Int),l.Nodup -> (∀ x ∈ l,0 <= x /\ x < (n:Int)) -> l.length <= n:=by
 intro n l h1 h2;have:=Z4 n (l.map Int.toNat) (by
  rw [List.Nodup,List.pairwise_map];refine h1.imp_of_mem (fun {a b} ha hb hne e=>hne ?_);have:=h2 a ha;have:=h2 b hb;omega) (fun i hi=>by
  obtain ⟨x,hx,rfl⟩:=List.mem_map.1 hi;have:=h2 x hx;omega)
 simpa using this
theorem Zcz {mm:List (Int × Int)} (h:ZhK mm) (hn:(mm.map (·.1)).Nodup):mm.length <= 2001:=by
 have:=Zgn 2001 (mm.map (·.1)) hn (fun x hx=>by
  obtain ⟨q,hq,rfl⟩:=List.mem_map.1 hx;have:=h q hq;exact ⟨this.1,by omega⟩)
 simpa using this
theorem ZaP:∀ (l:List Int),(∀ x ∈ l,0 <= x /\ x <= 35184372088832) -> 0 <= l.sum /\ l.sum <= l.length * 35184372088832
 | [],_=>by simp
 | x :: l,h=>by
  have h1:=h x (by simp);have h2:=ZaP l fun y hy=>h y (by simp [hy]);simp only [List.sum_cons,List.length_cons];push_cast;omega
theorem QY {a b:List Int} (h:a.Perm b):a.sum = b.sum:=by
 induction h with
 | nil=>rfl
 | cons x _ ih=>simp only [List.sum_cons,ih]
 | swap x y l=>simp only [List.sum_cons];omega
 | trans _ _ h1 h2=>exact h1.trans h2
theorem Zii {mm:List (Int × Int)} (h:ZhK mm) (idx:List Nat):∀ x ∈ (YJ mm (0,0) idx).map (·.2),0 <= x /\ x <= 35184372088832:=fun x hx=>by
 obtain ⟨q,hq,rfl⟩:=List.mem_map.1 hx;obtain ⟨i,_,rfl⟩:=List.mem_map.1 hq;by_cases hi:i < mm.length
 ·rw [gE hi];have h1:=(h _ (yM hi)).2.2;exact ⟨Int.le_trans (by decide) h1.1,h1.2⟩
 ·rw [List.getElem?_eq_none (by omega)];simp
def Zdz (n:Nat) (r:Nat) (w:World):Nat:=match w.heap[r]? with
 | some (.mapIter _ _ seen _)=>n - seen.size
 | _=>0
section
variable {κ ν : Type} {K:TypeId} {ek : κ -> Value} {ev : ν -> Value} {w:World} {r:Nat} {v:Value} {m:List (κ × ν)} {idx:List Nat}
theorem MVit.left_eq {P:Program} (h:MVit P K ek ev w v r m idx):Zdz m.length r w = m.length - idx.length:=by
 rcases h with ⟨rfl,rfl,rfl,h⟩ | ⟨b,rfl,h⟩
 ·unfold Zdz;rw [h];simp
 ·obtain ⟨es,c,s,seen,c0,h1,h2,h3,h4,h5,h6,hc,h7⟩:=h.st;unfold Zdz;rw [h4];have e2:=congrArg List.length h7;simp at e2;simp only;omega
end
theorem Zh3 {w:World} {b:Nat} {ct:K4 -> Int -> Int} (h:Lvl w b ct) {k:K4} (hk:kOk k):∃ v,(Instr.lookup 279 (.map (some b)) (ek k) false).run Tryz.prog w = .ok v w /\ ∃ mm,MV Tryz.prog 3 (Value.int .i64) (Value.int .i64) w v mm /\ (∀ z,(JB mm z).getD 0 = ct k z) /\ ZhK mm:=by
 obtain ⟨ls,h1,h2,h3⟩:=h.ex;obtain ⟨l,hl⟩:=UL k hk;have hrun:=h1.lookup Xn YR Tryz.underlying279 (Tryz.zeroValue280 w) k hl;refine ⟨_,hrun,?_⟩;cases hg:JB ls k with
 | none=>exact ⟨[],.inl ⟨rfl,rfl⟩,fun z=>by rw [h3 k hg z];rfl,fun q hq=>by cases hq⟩
 | some b'=>
  obtain ⟨mm,q1,q2,q3⟩:=h2 _ (JS hg);exact ⟨mm,.inr ⟨b',rfl,q1⟩,q2,q3⟩
theorem Zic {l:List Int} (hl:l.length <= 4) (hb:∀ x ∈ l,0 <= x /\ x <= 1000000):kOk (kOf l):=by
 have:=UR (g:=(l,1)) ⟨hl,hb,by simp,by simp⟩;exact this
theorem Ug (lb lo ln lc:Nat) (width:Int) (n:Nat) (HA:Option Addr) (hc:Nat) (hl:List Int) (b:Nat) (ct:K4 -> Int -> Int) (w:World) (hlv:w.cell? ⟨lb,lo + n,none⟩ = some (.map (some b))) (hn:n < ln) (hL:Lvl w b ct) (hH:Lies w HA (ics hl)) (h4:hl.length <= 4) (hbd:Hid (∀ x ∈ hl,0 <= x /\ x <= 1000000)) :
  Calls Tryz.prog 239 #[.agg #[.slice (some ⟨lb,lo,none⟩) ln lc,.int .i64 width],.int .i64 (n:Int),.slice HA hl.length hc] w (Zhu (ct (kOf hl)) w):=by
 obtain ⟨W0,hW0⟩:∃ X:World,X = w.alloc (.cells #[.slice (some ⟨lb,lo,none⟩) ln lc,.int .i64 width] 256):=⟨_,rfl⟩;have HB0:Hid (Below w.heap.size w W0):=zH (by rw [hW0];exact bR.alloc nR _);have HX0:Hid (W0.heap[w.heap.size]? = some (.cells #[.slice (some ⟨lb,lo,none⟩) ln lc,.int .i64 width] 256 (0,0))):=zH (by rw [hW0];exact heap_alloc_new w _);have hlb:lb < w.heap.size:=JW hlv;obtain ⟨k,hk⟩:∃ k,k = kOf hl:=⟨_,rfl⟩;have HKO:Hid (kOk k):=zH (by rw [hk];exact Zic h4 hbd.out);have HL0:=zH (hL.below HB0.out);have HC1:Hid (∀ u,Below W0.heap.size W0 u -> u.cell? ⟨w.heap.size,0,none⟩ = some (.slice (some ⟨lb,lo,none⟩) ln lc) /\ u.cell? ⟨lb,lo + n,none⟩ = some (.map (some b))):=zH (fun u hu=>⟨(cR 0 ((hu.block _ (aE HX0.out).1).trans HX0.out)).trans rfl,(hu.cell (p:=⟨lb,lo + n,none⟩) (Nat.lt_of_lt_of_le hlb HB0.out.size)).trans ((HB0.out.cell (p:=⟨lb,lo + n,none⟩) hlb).trans hlv)⟩);have HKY:Hid (∀ u,Below W0.heap.size W0 u -> Calls Tryz.prog 89 #[.slice HA hl.length hc] u fun e u'=>e = .returned (ek k) /\ Below u.heap.size u u'):=zH (fun u hu=>by rw [hk];exact Vh HA hc hl u ((hH.below HB0.out).below hu) h4 hbd);have hnn:(n:Int) < (ln:Int):=by omega
 obtain ⟨mv,hlk0,mm,hmv0,hmm,hrow⟩:=Zh3 HL0.out HKO.out;have HLK:Hid (∀ u,Below W0.heap.size W0 u -> (Instr.lookup 279 (.map (some b)) (ek k) false).run Tryz.prog u = .ok mv u):=zH (fun u hu=>by
  obtain ⟨ls,h1,h2,h3⟩:=HL0.out.ex;obtain ⟨l,hl⟩:=UL k HKO.out;have e1:=h1.lookup Xn YR Tryz.underlying279 (Tryz.zeroValue280 W0) k hl;have e2:=(h1.below hu).lookup Xn YR Tryz.underlying279 (Tryz.zeroValue280 u) k hl;rw [hlk0] at e1;injection e1 with e1
  rw [e2,<- e1])
 have HMV:=zH hmv0;have HMM:Hid (∀ z,(JB mm z).getD 0 = ct (kOf hl) z):=zH (by rw [<- hk];exact hmm);have HRB:=zH hrow;have HND:=zH hmv0.nodup;have hml:=Zcz hrow hmv0.nodup;clear hlk0 hmv0 hmm hrow hL hH hlv hk hbd;go_enter Tryz.func239,Tryz.ntmps239;go_upto_region 1 with fail;rw [<- hW0];clear hW0;refine Jb 8 31 rfl (by kernel_rfl) (by kernel_rfl) (by kernel_rfl) (by kernel_rfl) (fun u=>Below W0.heap.size W0 u) (fun u u'=>Below u.heap.size u u') (Gl [isV (.pointer (some ⟨w.heap.size,0,none⟩)),isV (.slice (some ⟨lb,lo,none⟩) ln lc),isV (.int .i64 (n:Int)),isV (.pointer (some ⟨lb,lo + n,none⟩)),isV (.map (some b)),isV (.slice HA hl.length hc),isV (ek k),isV mv]) (Gl.keepL ⟨Keeps.isV _,Keeps.isV _,Keeps.isV _,Keeps.isV _,Keeps.isV _,Keeps.isV _,Keeps.isV _,Keeps.isV _,trivial⟩) ?_ ?_ ?_
 ·exact (Below.refl _ W0).drew
 ·simp only [List.pop_toArray,List.dropLast,Jj];refine ⟨?_,?_,?_,?_,?_,?_,?_,?_,trivial⟩
  ·intro bb u su dp kp K hK;have e3:gT bb 3 = .pointer (some ⟨w.heap.size,0,none⟩):=kp 3 (by kernel_rfl);go_simp;exact hK _ _ su bR rfl
  ·intro bb u su dp kp K hK;have e12:gT bb 12 = .pointer (some ⟨w.heap.size,0,none⟩):=dp 0 _ rfl (by kernel_rfl);obtain ⟨c0,c1⟩:=HC1.out u su;go_simp;exact hK _ _ su bR rfl
  ·intro bb u su dp kp K hK;have e1:gT bb 1 = .int .i64 (n:Int):=kp 1 (by kernel_rfl);go_simp;exact hK _ _ su bR rfl
  ·intro bb u su dp kp K hK;have e13:gT bb 13 = .slice (some ⟨lb,lo,none⟩) ln lc:=dp 1 _ rfl (by kernel_rfl);have e14:gT bb 14 = .int .i64 (n:Int):=dp 2 _ rfl (by kernel_rfl);go_simp;exact hK _ _ su bR rfl
  ·intro bb u su dp kp K hK;have e15:gT bb 15 = .pointer (some ⟨lb,lo + n,none⟩):=dp 3 _ rfl (by kernel_rfl);obtain ⟨c0,c1⟩:=HC1.out u su;go_simp;exact hK _ _ su bR rfl
  ·intro bb u su dp kp K hK;have e2:gT bb 2 = .slice HA hl.length hc:=kp 2 (by kernel_rfl);go_simp;exact hK _ _ su bR rfl
  ·intro bb u su dp kp K hK;have e17:gT bb 17 = .slice HA hl.length hc:=dp 5 _ rfl (by kernel_rfl);go_simp;refine (HKY.out u su).mono ?_;rintro e u' ⟨rfl,hb⟩;go_simp;exact hK _ _ (su.trans (hb.mono su.size)) hb rfl
  ·intro bb u su dp kp K hK;have e16:gT bb 16 = .map (some b):=dp 4 _ rfl (by kernel_rfl);have e18:gT bb 18 = ek k:=dp 6 _ rfl (by kernel_rfl);have hlk:=HLK.out u su;go_simp;exact hK _ _ su bR rfl
 ·intro bb u hN hdf su hG hsame;have e19:gT bb 19 = mv:=hG 7 _ rfl;rw [Ju bb _ [false,false,false,false,false,false,false,false,false,false,false,false,true,true,true,true,true,true,true,true,false,false,false,false,false,false,false,false,false,false,false] _ rfl hN rfl (by kernel_rfl) hdf hsame];simp only [Y2,Nat.reduceAdd,e19];clear e19 hG hsame hN hdf;generalize bb.tmps.getD 12 undef = z12,bb.tmps.getD 13 undef = z13,bb.tmps.getD 14 undef = z14,bb.tmps.getD 15 undef = z15,bb.tmps.getD 16 undef = z16,bb.tmps.getD 17 undef = z17,bb.tmps.getD 18 undef = z18;refine PopQ.last rfl rfl (fun K hK=>?_);go_simp;refine hK _ _ ?_;clear hK K;have HSu:=zH su;have HMVu:=zH (HMV.out.below su);have HBu:=zH (HB0.out.trans (su.mono HB0.out.size));clear su HLK HKY HC1 HMV;obtain ⟨oit,hrun,hit0⟩:=HMVu.out.range Tryz.underlying280;have HIT':=zH hit0;clear hit0;go_wp2_with fail;obtain ⟨V,hV⟩:∃ V:World,V = u.alloc oit:=⟨_,rfl⟩;have HBV:Hid (Below u.heap.size u V):=zH (by rw [hV];exact bR.alloc nR _);rw [<- hV] at HIT' ⊢;have HIT0:=HIT';have HBW:Hid (Below w.heap.size w V):=zH (HBu.out.trans (HBV.out.mono HBu.out.size));have HMVV:=zH (HMVu.out.below HBV.out);have hru:w.heap.size <= u.heap.size:=HBu.out.size;have HKE:Hid (Kept V V u.heap.size):=zH (Kept.refl V _);clear hrun hV HIT' HBV;go_loopw [9] (fun t9 wr=>∃ idx,t9 = .int .i64 ((YJ mm (0,0) idx).map (·.2)).sum /\ Hid (MVit Tryz.prog 3 (Value.int .i64) (Value.int .i64) wr mv u.heap.size mm idx) /\ Hid (Kept V wr u.heap.size) /\ Hid (Below w.heap.size w wr)) (fun _ wr=>Zdz mm.length u.heap.size wr)
  case atStart=>exact ⟨[],rfl,HIT0,HKE,HBW⟩
  case round=>
   obtain ⟨idx,rfl,HIT,HK,HB⟩:=hrel;clear HIT0 HKE HBW;obtain ⟨Wr,rfl⟩:∃ X,X = wr:=⟨_,rfl⟩;have HGB:Hid (∀ x ∈ (YJ mm (0,0) idx).map (·.2),0 <= x /\ x <= 35184372088832):=zH (Zii HRB.out idx);have hgl:=HIT.out.len_le;have hsb:=ZaP _ HGB.out;simp only [List.length_map,YJ] at hsb;have HSB:=zH (show 0 <= ((YJ mm (0,0) idx).map (·.2)).sum /\ ((YJ mm (0,0) idx).map (·.2)).sum <= 2001 * 35184372088832 by
    unfold YJ;refine ⟨hsb.1,Int.le_trans hsb.2 ?_⟩;have:(idx.length:Int) <= 2001:=(by omega);exact Int.mul_le_mul_of_nonneg_right this (by omega))
   clear hsb;rcases HIT.out.next (0,0) 0 with ⟨hperm,hrun⟩ | ⟨i,w1,hi,hni,hrun,hit1,hen,hgr,hsz⟩
   ·have HP:Hid (((YJ mm (0,0) idx).map (·.2)).sum = (mm.map (·.2)).sum):=zH (QY (hperm.map _));clear hperm;go_wp2_with fail;refine bodyPost_ret (v:=.tuple #[mv,.int .i64 ((YJ mm (0,0) idx).map (·.2)).sum]) (by simp [results,Tryz.results239,go_sem]) rfl ?_;exact ⟨mv,_,rfl,⟨mm,HMVV.out.kept' (fun b e=>HK.out.block b (HMVV.out.lt e) (fun h=>by have:=HMVu.out.lt e;omega)),HMM.out,HRB.out,HP.out⟩,HB.out⟩
   ·have HGT:Hid (((YJ mm (0,0) (idx ++ [i])).map (·.2)).sum = ((YJ mm (0,0) idx).map (·.2)).sum + (mm[i]?.getD (0,0)).2):=zH (by simp [YJ]);have HVI:Hid (0 <= (mm[i]?.getD (0,0)).2 /\ (mm[i]?.getD (0,0)).2 <= 35184372088832):=zH (by have:=HRB.out _ (show mm[i]?.getD (0,0) ∈ mm by rw [gE hi];exact yM hi);exact ⟨Int.le_trans (by decide) this.2.2.1,this.2.2.2⟩);generalize mm[i]?.getD (0,0) = p at *
    obtain ⟨z,c⟩:=p;simp only at *
    have H1:=zH hit1;have HLE:Hid (Zdz mm.length u.heap.size w1 < Zdz mm.length u.heap.size Wr):=zH (by rw [MVit.left_eq hit1,MVit.left_eq HIT.out];have h9:=hit1.len_le;simp at h9 ⊢;omega);have HK1:=zH (HK.out.grown hgr);have HB1:=zH (HB.out.grown hgr HB.out.size (fun k e=>by injection e with e;omega));generalize ((YJ mm (0,0) idx).map (·.2)).sum = S at *
    have h1:=HSB.out;have h2:=HVI.out;have p1:IntKind.i64.wrap (S + c) = S + c:=IntWalk.i64_in _ (by omega);clear hit1 hgr;go_wp2_with fail;exact ⟨⟨idx ++ [i],by rw [HGT.out],H1,HK1,HB1⟩,HLE.out⟩
end Go.Proofs.YtlgdlenoohkipaaGreat
