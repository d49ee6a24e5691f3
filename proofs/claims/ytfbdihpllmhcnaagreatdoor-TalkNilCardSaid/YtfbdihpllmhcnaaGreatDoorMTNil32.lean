/- TalkNil -/
import Derived.Test.YtfbdihpllmhcnaaGreatDoorMTNil31
import Derived.Shelf.SlSortCmp.NoneTotal
set_option maxRecDepth 100000
set_option maxHeartbeats 32000000
namespace Ear
open Go.Proofs.YtfbdihpllmhcnaaGreatDoor

structure PEv where
 kind:Int
 val:BA
 q:Rat
 at_:Int
def ZaT (D:PDl) (E:PEv):Bool × PDl:=
 if E.kind = 2 ∨ E.kind = 3 then
  match D.F[Vt D.F]?,D.S[Vt D.F]? with
  | some f,some s=>if ZhR D f s E.q E.at_ = true then (true,D.put (Vt D.F) (if E.kind = 2 then { f with st:=3 } else noR f)) else (false,D)
  | _,_=>(false,D)
 else if E.kind = 4 then
  match D.F[QW D.S E.val]?,D.S[QW D.S E.val]? with
  | some f,some s=>(match Zex f s E.q E.val with | some f'=>(true,D.put (QW D.S E.val) f') | none=>(false,D))
  | _,_=>(false,D)
 else (false,D)
def ZfC (D:PDl) (E:PEv):Prop:=¬ (1 <= E.kind /\ E.kind <= 4) ∨ YS E.q = false ∨ (E.kind ≠ 4 /\ E.val ≠ ⟨#[]⟩) ∨ E.at_ < 0 ∨ Zdy < E.at_ ∨ E.at_ < D.last
instance (D:PDl) (E:PEv):Decidable (ZfC D E):=by unfold ZfC;infer_instance
def UK (D:PDl) (E:PEv):Int × PDl:=
 if ZfC D E then (2,D) else if D.stand ≠ 0 then (8,D)
 else (0,ZdR (Xj (ZaT (Jq D E.at_) E).2 (ZaT (Jq D E.at_) E).1) E.at_)
structure DlK (n:Int) (D:PDl):Prop where
 len:D.F.length = D.S.length
 few:D.F.length <= 20
 vals:∀ p ∈ D.S,p.vs.length <= 50
 ref:∀ f ∈ D.F,(f.ref.length:Int) <= n
 pat : 0 <= D.pat /\ D.pat <= 100
 prm : 0 <= D.prm /\ D.prm <= 10000
 need : 0 <= D.need /\ D.need <= 10000
 prompt : 0 <= D.prompt /\ D.prompt <= Zdy
 cuts : 0 <= D.cuts /\ D.cuts <= n
 bad : 0 <= D.bad /\ D.bad <= n
 ask:D.stand = 0 -> Vt D.F < D.F.length
theorem DlK.mono {n m:Int} {D:PDl} (h:DlK n D) (hm:n <= m):DlK m D:=
 ⟨h.len,h.few,h.vals,fun f hf=>Int.le_trans (h.ref f hf) hm,h.pat,h.prm,h.need,h.prompt,⟨h.cuts.1,Int.le_trans h.cuts.2 hm⟩,⟨h.bad.1,Int.le_trans h.bad.2 hm⟩,h.ask⟩
theorem ZeH {f f':PFl} {s:PSl} {q:Rat} {x:BA} (h:Zex f s q x = some f'):f'.ref.length <= f.ref.length:=by
 unfold Zex at h
 split at h
 ·cases h
 ·injection h with h
  rw [<- h]
  exact List.length_filter_le _ _
theorem Zgp (f:PFl):(noR f).ref.length <= f.ref.length + 1:=by
 unfold noR
 simp only
 split
 ·omega
 ·simp
structure EffK (D D2:PDl):Prop where
 S:D2.S = D.S
 pat:D2.pat = D.pat
 prm:D2.prm = D.prm
 need:D2.need = D.need
 stand:D2.stand = D.stand
 bad:D2.bad = D.bad
 cuts:D2.cuts = D.cuts
 prompt:D2.prompt = D.prompt
 last:D2.last = D.last
 len:D2.F.length = D.F.length
 ref:∀ n:Int,(∀ f ∈ D.F,(f.ref.length:Int) <= n) -> ∀ f ∈ D2.F,(f.ref.length:Int) <= n + 1
theorem EffK.refl (D:PDl):EffK D D:=⟨rfl,rfl,rfl,rfl,rfl,rfl,rfl,rfl,rfl,rfl,fun n h f hf=>by have:=h f hf;omega⟩
theorem EffK.put (D:PDl) (k:Nat) (f f':PFl) (hk:D.F[k]? = some f) (hf:f'.ref.length <= f.ref.length + 1):EffK D (D.put k f'):=
 ⟨rfl,rfl,rfl,rfl,rfl,rfl,rfl,rfl,rfl,List.length_set,fun n h x hx=>by
  rcases List.mem_or_eq_of_mem_set hx with h1 | rfl
  ·have:=h x h1;omega
  ·have:=h f (List.mem_of_getElem? hk);omega⟩
theorem ZfY (D:PDl) (E:PEv):EffK D (ZaT D E).2:=by
 unfold ZaT
 split
 ·split
  ·rename_i f s hf hs
   split
   ·refine EffK.put D _ f _ hf ?_
    split
    ·simp
    ·exact Zgp f
   ·exact EffK.refl D
  ·exact EffK.refl D
 ·split
  ·split
   ·rename_i f s hf hs
    split
    ·rename_i f' hv
     exact EffK.put D _ f _ hf (by have:=ZeH hv;omega)
    ·exact EffK.refl D
   ·exact EffK.refl D
  ·exact EffK.refl D
theorem ZdS (D:PDl) (t:Int):(Jq D t).S = D.S /\ (Jq D t).F = D.F /\ (Jq D t).pat = D.pat /\ (Jq D t).prm = D.prm /\ (Jq D t).need = D.need /\ (Jq D t).stand = D.stand /\ (Jq D t).bad = D.bad /\ (Jq D t).prompt = D.prompt /\ (Jq D t).last = D.last /\ ((Jq D t).cuts = D.cuts ∨ (Jq D t).cuts = D.cuts + 1):=by
 unfold Jq
 split
 ·exact ⟨rfl,rfl,rfl,rfl,rfl,rfl,rfl,rfl,rfl,.inr rfl⟩
 ·exact ⟨rfl,rfl,rfl,rfl,rfl,rfl,rfl,rfl,rfl,.inl rfl⟩
theorem Zep {F:List PFl}:¬ Qo F < 0 -> Vt F < F.length:=by
 unfold Qo
 split
 ·rename_i h;intro _;exact h
 ·intro h;omega
theorem Zbl {n:Int} {D:PDl} (h:DlK n D) (E:PEv):DlK (n + 1) (UK D E).2:=by
 have h0 : 0 <= n:=Int.le_trans h.bad.1 h.bad.2
 unfold UK
 split
 ·exact h.mono (by omega)
 ·split
  ·exact h.mono (by omega)
  ·rename_i hb hst
   obtain ⟨c1,c2,c3,c4,c5,c6,c7,c8,c9,c10⟩:=ZdS D E.at_
   have k:=ZfY (Jq D E.at_) E
   have hat : 0 <= E.at_ /\ E.at_ <= Zdy:=by
    unfold ZfC at hb
    constructor
    ·exact Int.not_lt.1 fun hx=>hb (.inr (.inr (.inr (.inl hx))))
    ·exact Int.not_lt.1 fun hx=>hb (.inr (.inr (.inr (.inr (.inl hx)))))
   have hstd:D.stand = 0:=Classical.byContradiction hst
   generalize hD2:(ZaT (Jq D E.at_) E).2 = D2 at *
   generalize (ZaT (Jq D E.at_) E).1 = r at *
   have kref:=k.ref n (by rw [c2];exact h.ref)
   have hl:=h.len;have hfw:=h.few;have hv:=h.vals;have p1:=h.pat;have p2:=h.prm;have p3:=h.need;have p4:=h.cuts;have p5:=h.bad
   have q1:=k.S;have q2:=k.pat;have q3:=k.prm;have q4:=k.need;have q5:=k.stand;have q6:=k.bad;have q7:=k.cuts;have q10:=k.len
   rw [c1] at q1;rw [c3] at q2;rw [c4] at q3;rw [c5] at q4;rw [c6] at q5;rw [c7] at q6;rw [c2] at q10
   have hB:(Xj D2 r).S = D2.S /\ (Xj D2 r).F = D2.F /\ (Xj D2 r).pat = D2.pat /\ (Xj D2 r).prm = D2.prm /\ (Xj D2 r).need = D2.need /\ (Xj D2 r).cuts = D2.cuts /\ (0 <= (Xj D2 r).bad /\ (Xj D2 r).bad <= n + 1):=by
    unfold Xj
    split
    ·exact ⟨rfl,rfl,rfl,rfl,rfl,rfl,by show (0:Int) <= 0;omega,by show (0:Int) <= n + 1;omega⟩
    ·split
     ·exact ⟨rfl,rfl,rfl,rfl,rfl,rfl,by show 0 <= D2.bad + 1;omega,by show D2.bad + 1 <= n + 1;omega⟩
     ·exact ⟨rfl,rfl,rfl,rfl,rfl,rfl,by show 0 <= D2.bad + 1;omega,by show D2.bad + 1 <= n + 1;omega⟩
   obtain ⟨b1,b2,b3,b4,b5,b6,b7⟩:=hB
   generalize Xj D2 r = D3 at *
   have hcut : 0 <= D3.cuts /\ D3.cuts <= n + 1:=by rw [b6,q7];rcases c10 with e | e <;> rw [e] <;> omega
   unfold ZdR
   split
   ·exact ⟨by simp only;rw [b2,b1,q10,q1];exact hl,by simp only;rw [b2,q10];exact hfw,by simp only;rw [b1,q1];exact hv,by simp only;rw [b2];exact kref,by simp only;rw [b3,q2];exact p1,by simp only;rw [b4,q3];exact p2,by simp only;rw [b5,q4];exact p3,hat,hcut,b7,fun e=>by cases e⟩
   ·rename_i ha
    exact ⟨by simp only;rw [b2,b1,q10,q1];exact hl,by simp only;rw [b2,q10];exact hfw,by simp only;rw [b1,q1];exact hv,by simp only;rw [b2];exact kref,by simp only;rw [b3,q2];exact p1,by simp only;rw [b4,q3];exact p2,by simp only;rw [b5,q4];exact p3,hat,hcut,b7,fun _=>Zep ha⟩
end Ear
namespace Go.Proofs.YtfbdihpllmhcnaaGreatDoor
open Go.RowKit Ear

theorem DlM.lens {w:World} {bs:Nat} {a:DlA} {D:PDl} (h:DlM w bs a D):a.Fm.length = D.F.length /\ a.Ss.length = D.F.length:=by
 have h1:=congrArg List.length h.pure
 simp at h1
 exact ⟨h1,by rw [<- h.len];exact h1⟩
theorem Zeb {k:Int}:JZ Zec k = none ↔ ¬ (1 <= k /\ k <= 4):=by
 unfold Zec
 simp only [JZ]
 constructor
 ·intro h h2
  split at h
  ·cases h
  ·split at h
   ·cases h
   ·split at h
    ·cases h
    ·split at h
     ·cases h
     ·omega
 ·intro h
  rw [if_neg (by omega),if_neg (by omega),if_neg (by omega),if_neg (by omega)]
def ZhQ (D:PDl):Value × Int:=
 if D.stand ≠ 0 then (.agg #[.int .i64 0,.bool false,.string ⟨#[]⟩,.int .i64 0],7)
 else (.agg #[.int .i64 (Vt D.F),.bool (decide ((D.F[Vt D.F]?.map (·.st)).getD 0 = 2)),.string ((D.F[Vt D.F]?.map (·.val)).getD ⟨#[]⟩),.int .i64 D.prompt],0)
theorem Zg6 (n:Int) (bs:Nat) (a:DlA) (D:PDl) (w:World) (h:DlM w bs a D) (hK:DlK n D) :
  Calls Tryz.prog 24 #[.pointer (some ⟨a.q,0,none⟩)] w fun e w'=>e = .returned (.tuple #[(ZhQ D).1,.int .i64 (ZhQ D).2]) /\ Below w.heap.size w w':=by
 obtain ⟨hl1,hl2⟩:=h.lens
 have hfw:=hK.few
 unfold ZhQ
 by_cases hst:D.stand = 0
 ·have hask:=hK.ask hst
  rw [if_neg (by simpa using hst)]
  have:=Zh1 bs a D w h hst (Vt D.F) _ (gE hask) (if_pos hask) (by omega)
  rw [gE hask]
  exact this
 ·rw [if_pos (by simpa using hst)]
  exact ZfJ bs a D w h hst
end Go.Proofs.YtfbdihpllmhcnaaGreatDoor
namespace Go.Proofs.YtfbdihpllmhcnaaGreatDoor
open Go.RowKit Ear

structure PredII (g:FuncId) (lb:Array Value) (p:List Int -> Bool) (L:List Inn) (w:World):Prop where
 enter:∀ (args:Array Value) (w:World),(callFunc g args).run Tryz.prog w = .ok (.enter g args) w
 gives:∀ (u:World),Below w.heap.size w u -> ∀ x ∈ L,Calls Tryz.prog g (#[.slice x.1 x.2.2.length x.2.1] ++ lb) u (QZ (p x.2.2) u)
def ZiC (b:Bool) (w:World) (e:Ending) (w':World):Prop:=∃ r:Int,e = .returned (.int .i64 r) /\ Below w.heap.size w w' /\ decide (0 <= r) = b
theorem ZaB {p:List Int -> Bool} {L:List Inn} {k:Nat} (hk:k < L.length) (h:((Ju L).take k).any p = false) (hx:p L[k].2.2 = false):((Ju L).take (k + 1)).any p = false:=by
 rw [List.take_succ_eq_append_getElem (by simpa using hk),List.any_append,h]
 simp [hx]
theorem Zbx (g:FuncId) (q:Array Value) (p:List Int -> Bool) (A:Option Addr) (c:Nat) (L:List Inn) (w:World) (hp:PredII g q p L w) (h:LL w A L) (hn:L.length <= 9223372036854775807) (lb:Array Value) (hlb:lb = q) :
  Calls Tryz.prog 134 #[.slice A L.length c,.func (.func g) #[] lb] w (ZiC ((Ju L).any p) w):=by
 have heg:=hp.enter
 subst hlb
 have HP:=zH hp.gives
 clear hp
 go_enter Tryz.func134,Tryz.ntmps134
 go_wp2_with fail
 go_loopw [8] (fun i wr=>∃ k:Nat,k <= L.length /\ i = .int .i64 k /\ Hid (((Ju L).take k).any p = false) /\ Hid (Below w.heap.size w wr)) (fun i _=>L.length - (intOf i).toNat)
 case atStart=>exact ⟨0,Nat.zero_le _,rfl,zH rfl,zH bR⟩
 case round=>
  obtain ⟨k,hk,rfl,HN,HB⟩:=hrel
  by_cases hlt:k < L.length
  ·obtain ⟨bk,off,rfl,hbk,hc⟩:=(h.below HB.out).lies.lat hlt
   have HC:=zH (HP.out wr HB.out _ (gM hlt))
   have HT:Hid (p L[k].2.2 = true -> (Ju L).any p = true):=zH (fun hx=>List.any_eq_true.2 ⟨L[k].2.2,List.mem_map_of_mem (f:=fun x:Inn=>x.2.2) (gM hlt),hx⟩)
   have HF:Hid (p L[k].2.2 = false -> ((Ju L).take (k + 1)).any p = false):=zH (fun hx=>ZaB hlt HN.out hx)
   generalize L[k] = X at *
   obtain ⟨XA,Xc,xl⟩:=X
   simp only at *
   cases hpx:p xl with
   | true=>
    have hT:=HT.out hpx
    have HR:=zH hT
    rw [hpx] at HC
    clear hpx HT HF hT
    go_wp2_with fail
    refine HC.out.mono ?_
    rintro e w' ⟨rfl,hb⟩
    have HB2:=zH (HB.out.trans (hb.mono HB.out.size))
    clear hb HC
    go_wp2_with fail
    go_ret
    exact ⟨k,rfl,HB2.out,by rw [HR.out];simp⟩
   | false=>
    have HR:=zH (HF.out hpx)
    rw [hpx] at HC
    clear hpx HT HF
    go_wp2_with fail
    refine HC.out.mono ?_
    rintro e w' ⟨rfl,hb⟩
    have HB2:=zH (HB.out.trans (hb.mono HB.out.size))
    clear hb HC
    go_wp2_with fail
    exact ⟨⟨k + 1,by omega,by go_num,HR,HB2⟩,by simp [intOf];omega⟩
  ·have hz:=HN.out
   rw [List.take_of_length_le (by simp;omega)] at hz
   have HZ:=zH hz
   clear hz HN
   go_wp2_with fail
   go_ret
   exact ⟨-1,rfl,HB.out,by rw [HZ.out];rfl⟩
theorem Zj (g:FuncId) (q:Array Value) (p:List Int -> Bool) (A:Option Addr) (c:Nat) (L:List Inn) (w:World) (hp:PredII g q p L w) (h:LL w A L) (hn:L.length <= 9223372036854775807) (b:Bool) (hb:Hid ((Ju L).any p = b)) :
  Calls Tryz.prog 90 #[.slice A L.length c,.func (.func g) #[] q] w (QZ b w):=by
 go_enter Tryz.func90,Tryz.ntmps90
 go_wp2_with fail
 refine (Zbx g q p A c L _ hp h hn q rfl).mono ?_
 rintro e w' ⟨r,rfl,hbw,hr⟩
 rw [hb.out] at hr
 have HR:=zH hr
 clear hr
 go_wp2_with fail
 go_ret
 exact ⟨Js HR.out,hbw⟩
theorem Za0 (A:Option Addr) (c n:Nat) (w:World) (b:Bool) (hb:Hid (decide (500 < n) = b)):Calls Tryz.prog 91 #[.slice A n c] w (QZ b w):=by
 go_enter Tryz.func91,Tryz.ntmps91
 go_wp2_with fail
 go_ret
 exact ⟨Js (by rw [<- hb.out];simp [decide_eq_decide];omega),Below.refl _ _⟩
theorem ZcL (A:Option Addr) (c:Nat) (l:List Int) (v:Int) (bV:Nat) (w:World) (h:Lies w A (ics l)) (hn:l.length <= 9223372036854775807) (cV:w.cell? ⟨bV,0,none⟩ = some (.int .i64 v)) (b:Bool) (hb:Hid ((!Zb 1 v l) = b)) :
  Calls Tryz.prog 92 #[.slice A l.length c,.pointer (some ⟨bV,0,none⟩)] w (QZ b w):=by
 generalize hx:Zb 1 v l = x at *
 have HX:=zH hx
 clear hx
 go_enter Tryz.func92,Tryz.ntmps92
 go_wp2_with fail
 refine (Xe A c l 1 v _ h hn x HX).mono ?_
 rintro e w' ⟨rfl,hb2⟩
 go_wp2_with fail
 go_ret
 exact ⟨Js hb.out,hb2⟩
theorem Zab (L:List Inn) (w:World):PredII 91 #[] (fun l=>decide (500 < l.length)) L w:=⟨enters_of Tryz.func91 (by kernel_rfl) rfl,fun u _ x _=>Za0 x.1 x.2.1 x.2.2.length u _ (zH rfl)⟩
theorem Zby (L:List Inn) (w:World) (v:Int) (bV:Nat) (hl:∀ x ∈ L,InOk w x) (cV:w.cell? ⟨bV,0,none⟩ = some (.int .i64 v)) (hb:bV < w.heap.size):PredII 92 #[.pointer (some ⟨bV,0,none⟩)] (fun l=>!Zb 1 v l) L w:=
 ⟨enters_of Tryz.func92 (by kernel_rfl) rfl,fun u hu x hx=>ZcL x.1 x.2.1 x.2.2 v bV u ((hl x hx).below hu).1 (hl x hx).2.2.1 ((hu.cell (p:=⟨bV,0,none⟩) hb).trans cV) _ (zH rfl)⟩
structure GLo (w:World) (base:Nat) (A:Option Addr) (c:Nat) (L:List Gm):Prop where
 row:w.ownsRow base 94 2 (.slice A L.length c) L.length (JT L)
 inn:∀ g ∈ L,InT w g.1
 num:∀ g ∈ L,-9223372036854775808 <= g.2 /\ g.2 <= 9223372036854775807
theorem GLo.tb {w:World} {base c:Nat} {A:Option Addr} {L:List Gm} (h:GLo w base A c L):Tb w A L:=⟨Lies.of_own h.row,fun g hg=>(h.inn g hg).1,h.num⟩
theorem GLo.nil (w:World) (base:Nat):GLo w base none 0 []:=⟨World.ownsRow_nil _ _ _ _,fun x h=>by simp at h,fun x h=>by simp at h⟩
theorem GLo.below {w w':World} {base c:Nat} {A:Option Addr} {L:List Gm} (h:GLo w base A c L) (hb:Below w.heap.size w w'):GLo w' base A c L:=⟨Jf h.row hb,fun x hx=>(h.inn x hx).below hb,h.num⟩
theorem GLo.le {w:World} {base base' c:Nat} {A:Option Addr} {L:List Gm} (h:GLo w base A c L) (hb:base' <= base):GLo w base' A c L:=⟨JB h.row hb,h.inn,h.num⟩
theorem ZdZ (L:List Gm) (g:Gm):JT (L ++ [g]) = JT L ++ [Value.slice g.1.1 g.1.2.2.length g.1.2.1,Value.int .i64 g.2]:=by simp [JT]
theorem GLo.snoc {w w':World} {base base' c c' n:Nat} {A A':Option Addr} {L:List Gm} {g:Gm} (h:GLo w base A c L) (hx:InT w g.1) (hgn : -9223372036854775808 <= g.2 /\ g.2 <= 9223372036854775807) (hg:w.grownBy w' (Value.slice A n c).ownBlock)
  (hr:w'.ownsRow base' 94 2 (.slice A' (L.length + 1) c') (L.length + 1) (JT L ++ [Value.slice g.1.1 g.1.2.2.length g.1.2.1,Value.int .i64 g.2])):GLo w' base' A' c' (L ++ [g]):=by
 have key:∀ y,InT w y -> InT w' y:=fun y hy=>hy.grown hg (e:=94) (fun k e _=>BT.of_own (v:=.slice A L.length c) h.row (by rw [<- e];cases A <;> rfl)) (by decide)
 refine ⟨by rw [ZdZ];simpa using hr,fun y hy=>?_,fun y hy=>?_⟩
 ·rcases List.mem_append.1 hy with hy | hy
  ·exact key _ (h.inn y hy)
  ·simp at hy;subst hy;exact key _ hx
 ·rcases List.mem_append.1 hy with hy | hy
  ·exact h.num y hy
  ·simp at hy;subst hy;exact hgn
theorem GLo.block {w w':World} {base c:Nat} {A:Option Addr} {L:List Gm} (h:GLo w base A c L) (hs:w.heap.size <= w'.heap.size) (hk:∀ b,BT w b 3 ∨ BT w b 94 /\ base <= b -> w'.heap[b]? = w.heap[b]?):GLo w' base A c L:=by
 refine ⟨?_,fun x hx=>(h.inn x hx).block hs fun b hb=>hk b (.inl hb),h.num⟩
 have hrow:=h.row
 obtain ⟨q1,q2⟩:=hrow
 refine ⟨q1,?_⟩
 rcases q2 with e | ⟨g,cap,cur,e,hb,hg,rest⟩
 ·exact .inl e
 ·refine .inr ⟨g,cap,cur,e,hb,(hk g (.inr ⟨⟨_,_,hg⟩,hb⟩)).trans hg,rest⟩
def kws (k:K4):List Int:=[k.1 - 1,k.2.1 - 1,k.2.2.1 - 1,k.2.2.2 - 1]
def gmW (o:Nat) (k:K4):List Int:=(kws k).take o
def kOk (k:K4):Prop:=(0 <= k.1 /\ k.1 <= 1000001) /\ (0 <= k.2.1 /\ k.2.1 <= 1000001) /\ (0 <= k.2.2.1 /\ k.2.2.1 <= 1000001) /\ (0 <= k.2.2.2 /\ k.2.2.2 <= 1000001)
abbrev MI (w:World) (b:Nat) (m:List (K4 × Int)):Prop:=MapIs Tryz.prog 184 ek (Value.int .i64) w b m
theorem Up:(Tryz.prog.info? 94).map (fun i=>(i.zero,i.size,i.bytes)) = some (some (.agg #[.slice none 0 0,.int .i64 0]),2,32):=by kernel_rfl
theorem MI.len {w:World} {b:Nat} {m:List (K4 × Int)} (h:MI w b m) (ty:TypeId):(Builtin.len_ #[179] ty #[.map (some b)]).run Tryz.prog w = .ok (.int .i64 (m.length:Int)) w:=by
 obtain ⟨es,c,h1,h2⟩:=h.size
 simp [Builtin.len_,run_underlying Tryz.underlying179,MapKept.run_getObj_map h1,goInt,Result.andThen,h2]
end Go.Proofs.YtfbdihpllmhcnaaGreatDoor
namespace Go.Proofs.YtfbdihpllmhcnaaGreatDoor
open Go.RowKit

def Vh:Go.Shelf.Ren:=⟨fun | 6=>136 | 15=>170 | 14=>169 | 28=>218 | 29=>219 | 20=>210 | 21=>211 | 22=>212 | 23=>213 | 24=>214 | 25=>215 | 26=>216 | 27=>217 | 46=>264 | 47=>265 | 48=>266 | 49=>267 | 50=>268 | 57=>311 | n=>n,fun | 22=>55 | 24=>94 | 25=>220 | 3=>3 | 39=>168 | 0=>0 | 53=>163 | 55=>122 | 4=>4 | 46=>333 | 45=>332 | 50=>223 | 5=>5 | 9=>9 | 66=>400 | 70=>404 | 76=>446 | 77=>285 | n=>n,fun n=>n⟩
theorem ZE:Go.Proofs.SlLaysF0.n6 Tryz.prog Vh:={
 mixed:=by kernel_rfl,
 f6 := ⟨"slices.SortFunc[[]earshot/api.Gram,earshot/api.Gram]", by decide, Tryz.func136.trans (congrArg some (by kernel_rfl))⟩,
 f14 := ⟨"slices.pdqsortCmpFunc[earshot/api.Gram]", by decide, Tryz.func169.trans (congrArg some (by kernel_rfl))⟩,
 f15:=Tryz.func170.trans (congrArg some (by kernel_rfl)),
 f20 := ⟨"slices.insertionSortCmpFunc[earshot/api.Gram]", by decide, Tryz.func210.trans (congrArg some (by kernel_rfl))⟩,
 f21 := ⟨"slices.heapSortCmpFunc[earshot/api.Gram]", by decide, Tryz.func211.trans (congrArg some (by kernel_rfl))⟩,
 f22 := ⟨"slices.breakPatternsCmpFunc[earshot/api.Gram]", by decide, Tryz.func212.trans (congrArg some (by kernel_rfl))⟩,
 f23 := ⟨"slices.choosePivotCmpFunc[earshot/api.Gram]", by decide, Tryz.func213.trans (congrArg some (by kernel_rfl))⟩,
 f24 := ⟨"slices.reverseRangeCmpFunc[earshot/api.Gram]", by decide, Tryz.func214.trans (congrArg some (by kernel_rfl))⟩,
 f25 := ⟨"slices.partialInsertionSortCmpFunc[earshot/api.Gram]", by decide, Tryz.func215.trans (congrArg some (by kernel_rfl))⟩,
 f26 := ⟨"slices.partitionEqualCmpFunc[earshot/api.Gram]", by decide, Tryz.func216.trans (congrArg some (by kernel_rfl))⟩,
 f27 := ⟨"slices.partitionCmpFunc[earshot/api.Gram]", by decide, Tryz.func217.trans (congrArg some (by kernel_rfl))⟩,
 f28:=Tryz.func218.trans (congrArg some (by kernel_rfl)),
 f29:=Tryz.func219.trans (congrArg some (by kernel_rfl)),
 f46 := ⟨"slices.siftDownCmpFunc[earshot/api.Gram]", by decide, Tryz.func264.trans (congrArg some (by kernel_rfl))⟩,
 f47:=Tryz.func265.trans (congrArg some (by kernel_rfl)),
 f48:=Tryz.func266.trans (congrArg some (by kernel_rfl)),
 f49 := ⟨"slices.medianAdjacentCmpFunc[earshot/api.Gram]", by decide, Tryz.func267.trans (congrArg some (by kernel_rfl))⟩,
 f50 := ⟨"slices.medianCmpFunc[earshot/api.Gram]", by decide, Tryz.func268.trans (congrArg some (by kernel_rfl))⟩,
 f57 := ⟨"slices.order2CmpFunc[earshot/api.Gram]", by decide, Tryz.func311.trans (congrArg some (by kernel_rfl))⟩,
 t0:=Tryz.underlying0,
 a0:=Tryz.isAgg0,
 z0:=Tryz.sizeOf0,
 v0:=Tryz.zeroValue0,
 t3:=Tryz.underlying3,
 a3:=Tryz.isAgg3,
 z3:=Tryz.sizeOf3,
 v3:=Tryz.zeroValue3,
 t4:=Tryz.underlying4,
 a4:=Tryz.isAgg4,
 z4:=Tryz.sizeOf4,
 v4:=Tryz.zeroValue4,
 t5:=Tryz.underlying5,
 a5:=Tryz.isAgg5,
 z5:=Tryz.sizeOf5,
 v5:=Tryz.zeroValue5,
 t9:=Tryz.underlying9,
 a9:=Tryz.isAgg9,
 z9:=Tryz.sizeOf9,
 v9:=Tryz.zeroValue9,
 t22:=Tryz.underlying55,
 a22:=Tryz.isAgg55,
 z22:=Tryz.sizeOf55,
 v22:=Tryz.zeroValue55,
 t25:=Tryz.underlying220,
 a25:=Tryz.isAgg220,
 z25:=Tryz.sizeOf220,
 v25:=Tryz.zeroValue220,
 t39:=Tryz.underlying168,
 a39:=Tryz.isAgg168,
 z39:=Tryz.sizeOf168,
 v39:=Tryz.zeroValue168,
 t45:=Tryz.underlying332,
 a45:=Tryz.isAgg332,
 z45:=Tryz.sizeOf332,
 v45:=Tryz.zeroValue332,
 t46:=Tryz.underlying333,
 a46:=Tryz.isAgg333,
 z46:=Tryz.sizeOf333,
 v46:=Tryz.zeroValue333,
 t50:=Tryz.underlying223,
 a50:=Tryz.isAgg223,
 z50:=Tryz.sizeOf223,
 v50:=Tryz.zeroValue223,
 t53:=Tryz.underlying163,
 a53:=Tryz.isAgg163,
 z53:=Tryz.sizeOf163,
 v53:=Tryz.zeroValue163,
 t55:=Tryz.underlying122,
 a55:=Tryz.isAgg122,
 z55:=Tryz.sizeOf122,
 v55:=Tryz.zeroValue122,
 t66:=Tryz.underlying400,
 a66:=Tryz.isAgg400,
 z66:=Tryz.sizeOf400,
 v66:=Tryz.zeroValue400,
 t70:=Tryz.underlying404,
 a70:=Tryz.isAgg404,
 z70:=Tryz.sizeOf404,
 v70:=Tryz.zeroValue404,
 t76:=Tryz.underlying446,
 a76:=Tryz.isAgg446,
 z76:=Tryz.sizeOf446,
 v76:=Tryz.zeroValue446,
 t77:=Tryz.underlying285,
 a77:=Tryz.isAgg285,
 z77:=Tryz.sizeOf285,
 v77:=Tryz.zeroValue285 }
end Go.Proofs.YtfbdihpllmhcnaaGreatDoor
namespace Go.Proofs.YtfbdihpllmhcnaaGreatDoor
open Go.RowKit Go.Shelf Go.Sort Ear

abbrev GS (w:World):={ g:Gm // InT w g.1 }
instance (w:World):Inhabited (GS w):=⟨⟨((none,0,[]),0),InT.nil w⟩⟩
def QJ {w:World} (x:GS w):List Value:=[.slice x.1.1.1 x.1.1.2.2.length x.1.1.2.1,.int .i64 x.1.2]
def gcf {w:World} (x y:GS w):Int:=J8 x.1.1.2.2 y.1.1.2.2
theorem ZgE (L:List Gm) (t:Nat) (ht:t < L.length * 2):(JT L)[t]? = some (if t % 2 = 0 then Value.slice (L[t / 2]?.getD default).1.1 (L[t / 2]?.getD default).1.2.2.length (L[t / 2]?.getD default).1.2.1 else .int .i64 (L[t / 2]?.getD default).2):=by
 have h2:t / 2 < L.length:=by omega
 obtain ⟨e1,e2⟩:=ZV L h2
 rw [gE h2]
 rcases Nat.mod_two_eq_zero_or_one t with h | h
 ·rw [if_pos h]
  have e:t = t / 2 * 2:=by omega
  conv=>lhs;rw [e,e1]
  rfl
 ·rw [if_neg (by omega)]
  have e:t = t / 2 * 2 + 1:=by omega
  conv=>lhs;rw [e,e2]
  rfl
theorem Qf {w:World} (L:List (GS w)):(flatK QJ 2 L.toArray).toList = JT (L.map (·.1)):=by
 apply List.ext_getElem?
 intro t
 by_cases ht:t < L.length * 2
 ·rw [ZgE _ t (by simpa using ht)]
  have h1:(flatK QJ 2 L.toArray).toList[t]? = some ((flatK QJ 2 L.toArray)[t]!):=by
   rw [Array.getElem?_toList,getElem!_pos _ t (by simpa using ht)]
   exact Array.getElem?_eq_getElem (by simpa using ht)
  rw [h1,get_flatK _ _ _ t (by simpa using ht)]
  have h2:t / 2 < L.length:=by omega
  have h3:L.toArray[t / 2]! = L[t / 2]:=by rw [getElem!_pos _ _ (by simpa using h2)];simp
  rw [h3,List.getElem?_map,gE h2]
  rcases Nat.mod_two_eq_zero_or_one t with h | h <;> simp [QJ,h]
 ·rw [List.getElem?_eq_none (by simp;omega),List.getElem?_eq_none (by rw [Jn];simp;omega)]
theorem ZgG (w:World):SWO (ltOf (gcf (w:=w))):=by
 constructor
 ·intro x
  exact dF (by unfold gcf;rw [Yw.2 rfl];omega)
 ·intro x y z h1 h2
  exact decide_eq_true (XT (of_decide_eq_true h1) (of_decide_eq_true h2))
 ·intro x y z h1 h2
  have h1:=of_decide_eq_false h1
  have h2:=of_decide_eq_false h2
  refine dF fun h=>?_
  unfold gcf at *
  have hn:=VN x.1.1.2.2 y.1.1.2.2
  by_cases e:J8 y.1.1.2.2 x.1.1.2.2 = 0
  ·rw [Yw] at e
   rw [<- e] at h
   exact h2 h
  ·exact h2 (XT (show J8 y.1.1.2.2 x.1.1.2.2 < 0 by omega) h)
section
variable {w:World} {blk:Nat} {cur:Array Value} {fr:Nat × Nat}
theorem XE {α:Type} [Inhabited α] (enc : α -> List Value) (k off m:Nat) (dk:Array α) (os:Array Obj) {b:Nat} (hb:b < w.heap.size) (hne:b ≠ blk):(sortWorldK enc k w blk off m dk os).heap[b]? = w.heap[b]?:=by
 unfold sortWorldK
 rw [heap_grow_old _ _ (by rw [size_putRowK];exact hb)]
 simp [putRowK,putRow,mapBlock,Sort.ahead,Array.getElem?_modify,Ne.symm hne]
theorem UF {α:Type} [Inhabited α] (enc : α -> List Value) (k off m:Nat) (dk:Array α) (os:Array Obj) {e:TypeId} (hb:w.heap[blk]? = some (.cells cur e fr)):(sortWorldK enc k w blk off m dk os).heap[blk]? = some (.cells (putCells id off (flatK enc k dk) cur) e fr):=by
 have hg:blk < w.heap.size:=(aE hb).1
 unfold sortWorldK
 rw [heap_grow_old _ _ (by rw [size_putRowK];exact hg)]
 simp [putRowK,putRow,mapBlock,Sort.ahead,Array.getElem?_modify,hb,onCells]
theorem ZD {α:Type} [Inhabited α] (enc : α -> List Value) (k off m:Nat) (dk:Array α) (os:Array Obj):w.grownBy (sortWorldK enc k w blk off m dk os) (some blk):=
 ⟨rfl,rfl,rfl,size_sortWorldK_c enc k w blk off m dk os,fun b hb hne=>XE enc k off m dk os hb (fun e=>hne (by rw [e]))⟩
end
theorem UO (x y:Gm) (W:World) (hx:InT W x.1) (hy:InT W y.1) :
  Calls Tryz.prog 137 #[.agg #[.slice x.1.1 x.1.2.2.length x.1.2.1,.int .i64 x.2],.agg #[.slice y.1.1 y.1.2.2.length y.1.2.1,.int .i64 y.2]] W fun e w'=>e = .returned (.int .i64 (J8 x.1.2.2 y.1.2.2)) /\ ∃ q os',w' = grow (W.drewN q) os':=by
 obtain ⟨V,hV⟩:∃ V:World,V = (W.alloc (.cells #[.slice x.1.1 x.1.2.2.length x.1.2.1,.int .i64 x.2] 94)).alloc (.cells #[.slice y.1.1 y.1.2.2.length y.1.2.1,.int .i64 y.2] 94):=⟨_,rfl⟩
 have HB:Hid (Below W.heap.size W V):=zH (by rw [hV];exact al2 W _ _)
 have HX:=zH (hx.below HB.out)
 have HY:=zH (hy.below HB.out)
 have h0:V.heap[W.heap.size]? = some (.cells #[.slice x.1.1 x.1.2.2.length x.1.2.1,.int .i64 x.2] 94 (0,0)):=by rw [hV];exact (Below.heap_alloc _ _ _ (by simp)).trans (heap_alloc_new W _)
 have h1:V.heap[W.heap.size + 1]? = some (.cells #[.slice y.1.1 y.1.2.2.length y.1.2.1,.int .i64 y.2] 94 (0,0)):=by rw [hV];have:=heap_alloc_new (W.alloc (.cells #[.slice x.1.1 x.1.2.2.length x.1.2.1,.int .i64 x.2] 94)) (.cells #[.slice y.1.1 y.1.2.2.length y.1.2.1,.int .i64 y.2] 94);simpa using this
 have c0:V.cell? ⟨W.heap.size,0,none⟩ = some (.slice x.1.1 x.1.2.2.length x.1.2.1):=(cell_of_row V _ 0 _ _ _ h0).trans rfl
 have c1:V.cell? ⟨W.heap.size + 1,0,none⟩ = some (.slice y.1.1 y.1.2.2.length y.1.2.1):=(cell_of_row V _ 0 _ _ _ h1).trans rfl
 have HE:Hid (V = grow (W.drewN 0) #[.cells #[.slice x.1.1 x.1.2.2.length x.1.2.1,.int .i64 x.2] 94,.cells #[.slice y.1.1 y.1.2.2.length y.1.2.1,.int .i64 y.2] 94]):=zH (by rw [hV,alloc_eq_grow,alloc_eq_grow,grow_grow];rfl)
 clear h0 h1 hx hy
 go_enter Tryz.func137,Tryz.ntmps137
 go_wp2_with fail
 rw [<- hV]
 clear hV
 go_wp2_with fail
 have hC:=VB x.1.1 y.1.1 x.1.2.1 y.1.2.1 x.1.2.2 y.1.2.2 V HX.out.1.1 HY.out.1.1 HX.out.1.2.2.1 HY.out.1.2.2.1 (J8 x.1.2.2 y.1.2.2) (zH rfl)
 refine hC.mono ?_
 rintro e w' ⟨rfl,rfl⟩
 go_wp2_with fail
 go_ret
 exact ⟨rfl,0,_,HE.out⟩
theorem Zfk (w:World):(isAgg 94).run Tryz.prog w = .ok true w:=Tryz.isAgg94 w
theorem ZdX (w:World):(Go.sizeOf 94).run Tryz.prog w = .ok 2 w:=Tryz.sizeOf94 w
theorem VE (cur:Array Value) (F:Array Value) (h:F.size <= cur.size):(putCells id 0 F cur).toList.take F.size = F.toList:=by
 apply List.ext_getElem?
 intro j
 by_cases hj:j < F.size
 ·rw [List.getElem?_take_of_lt hj,Array.getElem?_toList]
  simp [putCells,hj,show j < cur.size by omega]
 ·rw [List.getElem?_take_eq_none (by omega),List.getElem?_eq_none (by simp;omega)]
theorem Zc6 (A:Option Addr) (c base:Nat) (L:List Gm) (w:World) (h:GLo w base A c L) (hA:L ≠ []) (hsz:L.length < 4611686018427387904) :
  Calls Tryz.prog 136 #[.slice A L.length c,.func (.func 137) #[] #[]] w fun e w'=>
   e = .returned (.tuple #[]) /\ ∃ L':List Gm,L'.Perm L /\ L'.Pairwise (fun x y=>¬ J8 y.1.2.2 x.1.2.2 < 0) /\ GLo w' base A c L' /\ w.grownBy w' (Value.slice A L.length c).ownBlock:=by
 have hrow:=h.row
 obtain ⟨q1,q2⟩:=hrow
 rcases q2 with ⟨_,e⟩ | ⟨g,cap,cur,e,hb,hg,hn,hm,hs,ht⟩
 ·have hlen:L.length = 0:=e
  exact absurd (List.length_eq_zero_iff.1 hlen) hA
 ·injection e with e1 _ e3
  subst e1 e3
  have hl:(JT L).length = L.length * 2:=Jn L
  -- the row as elements that can be read
  let d:List (GS w):=L.attach.map fun g=>⟨g.1,h.inn g.1 g.2⟩
  have hd:d.map (·.1) = L:=by
   simp only [d,List.map_map]
   exact List.attach_map_subtype_val L
  have hdl:d.length = L.length:=by simp [d]
  have hF:(flatK QJ 2 d.toArray).toList = JT L:=by rw [Qf,hd]
  have hH:HoldsK QJ 2 w g 0 d.toArray:=by
   intro j hj
   refine ⟨?_,by simp [World.frozen?,hg]⟩
   have hj':j < (JT L).length:=by rw [<- hF];simpa using hj
   have h1:cur.toList[j]? = (JT L)[j]?:=by
    rw [<- ht,List.getElem?_take_of_lt (by omega)]
   simp only [World.cell?,hg,Nat.zero_add,Option.isSome_none,Bool.false_eq_true,if_false]
   rw [<- Array.getElem?_toList,h1,<- hF,Array.getElem?_toList,getElem!_pos _ j hj,Array.getElem?_eq_getElem hj]
   rfl
  have hlt:g < w.heap.size:=(aE hg).1
  have hcmp:CmpLays Tryz.prog 137 #[] (QJ (w:=w)) 2 gcf g 0 d.toArray.size w:=by
   intro m os dk hdk x y
   have key:∀ z:GS w,InT (sortWorldK QJ 2 w g 0 m dk os) z.1.1:=fun z=>z.2.block (size_sortWorldK_c QJ 2 w g 0 m dk os) fun b hbt=>
    XE QJ 2 0 m dk os hbt.lt (fun e=>by subst e;exact hbt.ne ⟨_,_,hg⟩ (by decide) rfl)
   exact UO x.1 y.1 _ (key x) (key y)
  have hcall:=AnyQ.slices_SortFunc ZE 2 Zfk ZdX QJ (fun _=>rfl) (fun x v hv=>by simp [QJ] at hv;rcases hv with rfl | rfl <;> rfl) gcf (ZgG w) 137 #[] g 0 c d.toArray w
   (enters_of Tryz.func137 (by kernel_rfl) rfl) hcmp hH hlt (by simp [hdl];exact hsz)
  have hds:d.toArray.size = L.length:=by simp [hdl]
  rw [hds] at hcall
  refine hcall.mono ?_
  rintro e w' ⟨rfl,d',n,os,⟨p1,p2,p3⟩,hsrt,rfl⟩
  refine ⟨rfl,d'.toList.map (·.1),?_,?_,?_,ZD QJ 2 0 n d' os⟩
  ·have hs2:d'.size = L.length:=by rw [p1,hds]
   have e1:(d'.extract 0 L.length).toList = d'.toList:=by rw [<- hs2];simp
   have e2:(d.toArray.extract 0 L.length).toList = d:=by rw [<- hdl];simp
   rw [e1,e2] at p3
   have:=p3.map (·.1)
   rwa [hd] at this
  ·have hs2:d'.size = L.length:=by rw [p1,hds]
   rw [List.pairwise_map,List.pairwise_iff_getElem]
   intro i j hi hj hij
   simp at hi hj
   have:=of_decide_eq_false (hsrt i j (Nat.zero_le _) hij (by omega))
   rw [getElem!_pos d' i hi,getElem!_pos d' j hj] at this
   simpa [gcf] using this
  ·have hs2:d'.size = L.length:=by rw [p1,hds]
   have hml:(d'.toList.map (·.1)).length = L.length:=by simp [hs2]
   have hFd:(flatK QJ 2 d').toList = JT (d'.toList.map (·.1)):=by have:=Qf d'.toList;simpa using this
   refine ⟨⟨by rw [Jn],.inr ⟨g,c,putCells id 0 (flatK QJ 2 d') cur,by rw [hml],hb,UF QJ 2 0 n d' os hg,by rw [hml];exact hn,hm,by simp [putCells,hs],?_⟩⟩,?_,?_⟩
   ·have:=VE cur (flatK QJ 2 d') (by simp [hs2];omega)
    rw [hFd] at this
    rw [<- this]
    congr 1
    simp [hs2]
   ·intro x hx
    obtain ⟨z,hz,rfl⟩:=List.mem_map.1 hx
    exact z.2.block (size_sortWorldK_c QJ 2 w g 0 n d' os) fun b hbt=>
     XE QJ 2 0 n d' os hbt.lt (fun e=>by subst e;exact hbt.ne ⟨_,_,hg⟩ (by decide) rfl)
   ·intro x hx
    have hs2:d'.size = L.length:=by rw [p1,hds]
    have e1:(d'.extract 0 L.length).toList = d'.toList:=by rw [<- hs2];simp
    have e2:(d.toArray.extract 0 L.length).toList = d:=by rw [<- hdl];simp
    rw [e1,e2] at p3
    have:=p3.map (·.1)
    rw [hd] at this
    exact h.num x (this.mem_iff.1 hx)
theorem Zc7 (A:Option Addr) (c base:Nat) (L:List Gm) (w:World) (h:GLo w base A c L) (hsz:L.length < 4611686018427387904) :
  Calls Tryz.prog 136 #[.slice A L.length c,.func (.func 137) #[] #[]] w fun e w'=>
   e = .returned (.tuple #[]) /\ ∃ L':List Gm,L'.Perm L /\ L'.Pairwise (fun x y=>¬ J8 y.1.2.2 x.1.2.2 < 0) /\ GLo w' base A c L' /\ w.grownBy w' (Value.slice A L.length c).ownBlock:=by
 by_cases hA:L = []
 ·subst hA
  refine (AnyF.slices_SortFunc_none ZE A c (.func (.func 137) #[] #[]) w).mono ?_
  rintro e w' ⟨rfl,rfl⟩
  exact ⟨rfl,[],List.Perm.refl _,List.Pairwise.nil,h,⟨rfl,rfl,rfl,Nat.le_refl _,fun _ _ _=>rfl⟩⟩
 ·exact Zc6 A c base L w h hA hsz
end Go.Proofs.YtfbdihpllmhcnaaGreatDoor
