/- TalkBetter -/
import Derived.Test.YtcjicjfbippmnaaGreatMTBett41
set_option maxRecDepth 100000
set_option maxHeartbeats 32000000
namespace Ear
def noR (f:PFl):PFl:=⟨1,⟨#[]⟩,if f.val ∈ f.ref then f.ref else f.ref ++ [f.val]⟩
end Ear
namespace Go.Proofs.YtcjicjfbippmnaaGreat
open Go.RowKit Ear

theorem DlA.put_put (a:DlA) (k:Nat) (X Y:FlM):(a.put k X).put k Y = a.put k Y:=by
 unfold DlA.put;simp only [List.set_set]
theorem _root_.Ear.PDl.put_put (D:PDl) (k:Nat) (X Y:PFl):(D.put k X).put k Y = D.put k Y:=by
 unfold PDl.put;simp only [List.set_set]
theorem DlA.put_at {a:DlA} {k:Nat} {X:FlM} (hk:k < (a.put k X).Fm.length):(a.put k X).Fm[k] = X:=List.getElem_set_self _
theorem DlA.put_len (a:DlA) (k:Nat) (X:FlM):(a.put k X).Fm.length = a.Fm.length:=List.length_set
theorem DlM.two {w:World} {bs:Nat} {a:DlA} {D:PDl} (h:DlM w bs a D) {k:Nat} (hk:k < a.Fm.length) (n:Int) (s:BA):DlM ((w.setCell ⟨a.gF,k * 3,none⟩ (.int .i64 n)).setCell ⟨a.gF,k * 3 + 1,none⟩ (.string s)) bs (a.put k { a.Fm[k] with st:=n,val:=s }) (D.put k { a.Fm[k].pure with st:=n,val:=s }) /\ Chg w ((w.setCell ⟨a.gF,k * 3,none⟩ (.int .i64 n)).setCell ⟨a.gF,k * 3 + 1,none⟩ (.string s)) a (a.put k { a.Fm[k] with st:=n,val:=s }):=by
 obtain ⟨h1,h2⟩:=h.setSt hk n;have hk2:k < (a.put k { a.Fm[k] with st:=n }).Fm.length:=by rw [DlA.put_len];exact hk
 obtain ⟨h3,h4⟩:=h1.setVal hk2 s;have h5:=h2.trans h4;rw [DlA.put_at hk2] at h3 h5;rw [DlA.put_put,PDl.put_put] at h3;rw [DlA.put_put] at h5;exact ⟨h3,h5⟩
theorem DlM.refs {w w1:World} {bs:Nat} {a:DlA} {D:PDl} (h:DlM w bs a D) {k:Nat} (hk:k < a.Fm.length) {n:Nat} {A:Option Addr} {c:Nat} {l:List BA} (hn:n = l.length) (hr:w1.ownsRow bs 9 1 (.slice A n c) n (sbs l)) (hg:w.grownBy w1 (blk a.Fm[k].A)) (hA:∀ b,blk A = some b -> blk a.Fm[k].A = some b ∨ w.heap.size <= b) :
  DlM (w1.setCell ⟨a.gF,k * 3 + 2,none⟩ (.slice A n c)) bs (a.put k { a.Fm[k] with A:=A,c:=c,ref:=l }) (D.put k { a.Fm[k].pure with ref:=l }) /\ Chg w (w1.setCell ⟨a.gF,k * 3 + 2,none⟩ (.slice A n c)) a (a.put k { a.Fm[k] with A:=A,c:=c,ref:=l }):=by
 subst hn;have hbF:BT w a.gF 76:=BT.of_own h.row rfl;have hne:blk a.Fm[k].A ≠ some a.gF:=fun e=>(BT.of_own (h.ref _ (yM hk)) (by rw [Jo];exact e)).ne hbF (by decide) rfl;have hrow1:w1.ownsRow 0 76 3 (.slice (some ⟨a.gF,0,none⟩) a.Fm.length a.fc) a.Fm.length (Yg a.Fm):=Jq h.row hg (fun b hb e=>by injection hb with hb;subst hb;exact hne e);obtain ⟨O,R,e1,e2,e3⟩:=Zcs a.Fm hk;have hst:=hrow1.stored (k * 3 + 2) (.slice A l.length c);have hset:(Yg a.Fm).set (k * 3 + 2) (.slice A l.length c) = Yg (a.Fm.set k { a.Fm[k] with A:=A,c:=c,ref:=l }):=by
  have hl:(Yg O).length = k * 3:=by rw [Yz,e2]
  rw [e3]
  conv=>lhs;rw [e1]
  rw [Y5,Y5,List.set_append_right _ _ (by omega),hl,show k * 3 + 2 - k * 3 = 2 by omega];rfl
 rw [hset] at hst;refine h.put hk { a.Fm[k] with A:=A,c:=c,ref:=l } (tR hg.size hst.2.size) (hst.2.os.trans hg.os) (hst.2.tape.trans hg.tape) (hst.2.output.trans hg.output) hst.1 (fun b h1 h2 h3=>(hst.2.block b (Nat.lt_of_lt_of_le h1 hg.size) (by intro e;injection e with e;exact h2 e)).trans (hg.block b h1 (fun e=>h3 e.symm))) ?_ hA;have hbF1:BT w1 a.gF 76:=BT.of_own hrow1 rfl;exact Jq hr hst.2 (fun b hb e=>by injection e with e;subst e;exact (BT.of_own hr hb).ne hbF1 (by decide) rfl)
theorem Zac {x y:BA} (h:¬ x = y):(ByteArray.toList x == ByteArray.toList y) = false:=by
 rw [beq_eq_false_iff_ne,ByteArray.toList_eq,ByteArray.toList_eq];exact fun e=>h (by cases x;cases y;simpa using e)
theorem QD (x y:BA) (eb:Nat) (r:Bool) (hr:decide (y = x) = r) (w:World) (h:w.cell? ⟨eb,1,none⟩ = some (.string x)) :
  Calls Tryz.prog 177 #[.string y,.pointer (some ⟨eb,0,none⟩)] w fun e w'=>e = .returned (.bool r) /\ w = w':=by
 cases r with
 | true=>
  have e:=of_decide_eq_true hr;subst e;clear hr;go_enter Tryz.func177,Tryz.ntmps177;go_wp2_with fail;go_ret;exact ⟨rfl,rfl⟩
 | false=>
  have e:=Zac (of_decide_eq_false hr);clear hr;go_enter Tryz.func177,Tryz.ntmps177;go_wp2_with fail;go_ret;exact ⟨rfl,rfl⟩
theorem ZaG {w:World} {b o:Nat} {v:Value} (h:w.cell? ⟨b,o,none⟩ = some v):b < w.heap.size:=by
 rcases Nat.lt_or_ge b w.heap.size with h' | h'
 ·exact h'
 ·simp [World.cell?,Array.getElem?_eq_none h'] at h
def Zkc (x:BA) (l:List BA) (w:World) (e:Ending) (w':World):Prop:=∃ r:Int,e = .returned (.int .i64 r) /\ w = w' /\ ((x ∉ l /\ r = -1) ∨ ∃ k:Nat,k < l.length /\ r = k /\ l[k]? = some x /\ x ∉ l.take k)
theorem ZaL (A:Option Addr) (c:Nat) (l:List BA) (x:BA) (eb:Nat) (w:World) (h:Lies w A (sbs l)) (hn:l.length <= 1000000) (hx:w.cell? ⟨eb,1,none⟩ = some (.string x)) :
  Calls Tryz.prog 198 #[.slice A l.length c,.func (.func 177) #[] #[.pointer (some ⟨eb,0,none⟩)]] w (Zkc x l w):=by
 have heg:=enters_of Tryz.func177 (by kernel_rfl) rfl;have HP2:=zH (fun (y:BA) (r:Bool) (hr:decide (y = x) = r)=>QD x y eb r hr w hx);clear hx;go_enter Tryz.func198,Tryz.ntmps198;go_wp2;go_loop [5,8] (fun _ i=>∃ k:Nat,k <= l.length /\ i = .int .i64 k /\ x ∉ l.take k) (fun _ i=>l.length - (intOf i).toNat)
 case atStart=>exact ⟨0,Nat.zero_le _,rfl,by simp⟩
 case round=>
  obtain ⟨k,hk,rfl,hp'⟩:=hrel;have HP:=zH hp';clear hp';by_cases hlt:k < l.length
  ·obtain ⟨bk,off,rfl,hb,hc⟩:=h
    (by simpa using Nat.lt_of_le_of_lt (Nat.zero_le k) hlt)
   have hc0:=hc k (.string l[k]) (by simp [gE hlt]);clear hc;cases hx:decide (l[k] = x) with
   | true=>
    have HX:=zH hx;clear hx;go_wp2_with fail;refine (HP2.out _ _ HX.out).mono ?_;rintro e w' ⟨rfl,rfl⟩;go_wp2_with fail;go_ret;exact ⟨k,rfl,rfl,.inr ⟨k,hlt,rfl,by rw [gE hlt,of_decide_eq_true HX.out],HP.out⟩⟩
   | false=>
    have HX:=zH hx;clear hx;go_wp2_with fail;refine (HP2.out _ _ HX.out).mono ?_;rintro e w' ⟨rfl,rfl⟩;go_wp2_with fail;exact ⟨⟨k + 1,by omega,by go_num,ZcO hlt HP.out (fun e=>of_decide_eq_false HX.out e.symm)⟩,by simp [intOf];omega⟩
  ·go_wp2;go_ret;exact ⟨-1,rfl,rfl,.inl ⟨by have hh:=HP.out;rwa [List.take_of_length_le (by omega)] at hh,rfl⟩⟩
def _root_.Ear.wo (x:BA) (l:List BA):List BA:=l.filter fun y=>decide (¬ y = x)
theorem Zje {x:BA} {l:List BA} (h:x ∉ l):wo x l = l:=List.filter_eq_self.2 fun _ hy=>decide_eq_true fun e=>h (e ▸ hy)
theorem ZbU (x y:BA) (l:List BA):wo x (l ++ [y]) = wo x l ++ if y = x then [] else [y]:=by
 unfold wo;rw [List.filter_append];congr 1;by_cases h:y = x
 ·simp [h]
 ·simp [h]
theorem ZE (a b:List BA):sbs (a ++ b) = sbs a ++ sbs b:=by simp [sbs]
theorem Zh4 (O:List BA) (m y:BA) (R:List BA):(sbs (O ++ m :: R)).set O.length (.string y) = sbs (O ++ y :: R):=by
 rw [ZE,ZE,List.set_append_right _ _ (by simp),show O.length - (sbs O).length = 0 by simp];rfl
theorem VI (base c:Nat) (A:Option Addr) (l:List BA) (x:BA) (eb:Nat) (w:World) (h:w.ownsRow base 9 1 (.slice A l.length c) l.length (sbs l)) (hn:l.length <= 1000000) (hx:w.cell? ⟨eb,1,none⟩ = some (.string x)) (hne:blk A ≠ some eb) :
  Calls Tryz.prog 176 #[.slice A l.length c,.func (.func 177) #[] #[.pointer (some ⟨eb,0,none⟩)]] w fun e w'=>e = .returned (.slice A (wo x l).length c) /\ w'.ownsRow base 9 1 (.slice A (wo x l).length c) (wo x l).length (sbs (wo x l)) /\ w.grownBy w' (blk A):=by
 have heg:=enters_of Tryz.func177 (by kernel_rfl) rfl;have HI:=zH (ZaL A c l x eb w (Lies.of_own h) hn hx);by_cases hm:x ∈ l
 ·have hl0 : 0 < l.length:=List.length_pos_of_mem hm;obtain ⟨g,cap0,hA⟩:∃ g cap,Value.slice A l.length c = .slice (some ⟨g,0,none⟩) l.length cap:=by
   rcases h.2 with ⟨h1,h2⟩ | ⟨g,cap,cur,h1,_⟩
   ·injection h1 with e1 e2 e3
    omega
   ·exact ⟨g,cap,h1⟩
  injection hA with e1 e2 e3
  subst e1;clear e3 cap0 e2;have hcap:l.length <= c /\ c <= maxLen:=by
   rcases h.2 with ⟨h',_⟩ | ⟨_,_,_,h',_,_,h3,h4,_⟩
   ·cases h'
   ·injection h' with e1 e2 e3
    subst e3;exact ⟨h3,h4⟩
  unfold maxLen at hcap;have HM:=zH hm;have HH:=zH h;have HX:=zH hx;have HP2:=zH (fun (W:World) (hW:W.cell? ⟨eb,1,none⟩ = some (.string x)) (y:BA) (r:Bool) (hr:decide (y = x) = r)=>QD x y eb r hr W hW);have hge:g ≠ eb:=fun e=>hne (by rw [e];rfl);clear hm h hx hne;go_enter Tryz.func176,Tryz.ntmps176;go_wp2_with fail;refine HI.out.mono ?_;rintro e w' ⟨r,rfl,rfl,hr⟩;obtain ⟨k,hk,rfl,hkx,hkn⟩:∃ k:Nat,k < l.length /\ r = k /\ l[k]? = some x /\ x ∉ l.take k:=by
   rcases hr with ⟨h1,_⟩ | h1
   ·exact absurd HM.out h1
   ·exact h1
  clear hr;have hk1:((k:Int) == -1) = false:=by rw [beq_eq_false_iff_ne];omega
  have HKX:=zH hkx;have HKN:=zH hkn;clear hkx hkn;go_wp2_with fail;go_loopw [5,6,7] (fun i j _ wr=>∃ (O M:List BA) (j0:Nat),i = .int .i64 O.length /\ j = .int .i64 j0 /\ j0 <= l.length /\ 0 < M.length /\ O.length + M.length = j0 /\ Hid (O = wo x (l.take j0)) /\ Hid (wr.ownsRow base 9 1 (.slice (some ⟨g,0,none⟩) l.length c) l.length (sbs (O ++ M ++ l.drop j0))) /\ Hid (w.grownBy wr (some g))) (fun _ j _ _=>l.length - (intOf j).toNat)
  case atStart=>
   refine ⟨l.take k,[x],k + 1,by go_num,by go_num,by omega,by simp,by simp;omega,zH ?_,zH ?_,zH ⟨rfl,rfl,rfl,Nat.le_refl _,fun _ _ _=>rfl⟩⟩
   ·rw [List.take_add_one,HKX.out];show _ = wo x (l.take k ++ [x]);rw [ZbU,if_pos rfl,List.append_nil,Zje HKN.out]
   ·have e:l.take k ++ [x] ++ l.drop (k + 1) = l:=by
     have h1:=List.take_append_drop k l;rw [List.drop_eq_getElem_cons hk] at h1;have h2:=HKX.out;rw [gE hk] at h2;injection h2 with h2
     rw [h2] at h1;simpa using h1
    rw [e];exact HH.out
  case round=>
   obtain ⟨O,M,j0,rfl,rfl,hj,hM,hOM,HO,HR,HG⟩:=hrel;by_cases hlt:j0 < l.length
   ·have hjI:(j0:Int) < (l.length:Int):=(by omega);have hcj:wr.cell? ⟨g,j0,none⟩ = some (.string l[j0]):=by
     rw [HR.out.cellAt j0 (by omega),ZE,List.getElem?_append_right (by simp;omega),List.drop_eq_getElem_cons hlt];simp [hOM]
    have hxe:wr.cell? ⟨eb,1,none⟩ = some (.string x):=(World.cell?_of_block (a:=⟨eb,1,none⟩) (HG.out.block eb ((by have:=HX.out;exact ZaG this)) (by intro e;injection e with e;exact hge e.symm))).trans HX.out;have htk:l.take (j0 + 1) = l.take j0 ++ [l[j0]]:=List.take_succ_eq_append_getElem hlt;have HTK:=zH htk;have hdr:l.drop j0 = l[j0] :: l.drop (j0 + 1):=List.drop_eq_getElem_cons hlt;have HDR:=zH hdr;clear htk hdr;cases hq:decide (l[j0] = x) with
    | true=>
     have HQ:=zH hq;clear hq;go_wp2_with fail;refine (HP2.out _ hxe _ _ HQ.out).mono ?_;rintro e w' ⟨rfl,rfl⟩;go_wp2_with fail;refine ⟨⟨O,M ++ [l[j0]],j0 + 1,rfl,by go_num,by omega,by simp,by simp;omega,zH ?_,zH ?_,HG⟩,by simp [intOf];omega⟩
     ·rw [HTK.out,ZbU,if_pos (of_decide_eq_true HQ.out),List.append_nil];exact HO.out
     ·have:=HR.out;rw [HDR.out] at this;simpa using this
    | false=>
     have HQ:=zH hq;clear hq;obtain ⟨m,M',rfl⟩:∃ m M',M = m :: M':=by
      cases M with
      | nil=>simp at hM
      | cons m M'=>exact ⟨m,M',rfl⟩
     have hOI:(O.length:Int) < (l.length:Int):=(by simp at hOM;omega);have hco:wr.cell? ⟨g,O.length,none⟩ = some (.string m):=by
      rw [HR.out.cellAt O.length (by simp at hOM;omega)];simp
     have hfo:wr.frozen? ⟨g,O.length,none⟩ = false:=HR.out.frozenAt _;go_wp2_with fail;refine (HP2.out _ hxe _ _ HQ.out).mono ?_;rintro e w' ⟨rfl,rfl⟩;go_wp2_with fail;have hst:=HR.out.stored O.length (.string l[j0]);refine ⟨⟨O ++ [l[j0]],M' ++ [l[j0]],j0 + 1,by simp,by go_num,by omega,by simp,by simp at hOM ⊢;omega,zH ?_,zH ?_,zH ⟨hst.2.os.trans HG.out.os,hst.2.tape.trans HG.out.tape,hst.2.output.trans HG.out.output,tR HG.out.size hst.2.size,fun b h1 h2=>(hst.2.block b (Nat.lt_of_lt_of_le h1 HG.out.size) h2).trans (HG.out.block b h1 h2)⟩⟩,by simp [intOf];omega⟩
     ·rw [HTK.out,ZbU,if_neg (of_decide_eq_false HQ.out),<- HO.out]
     ·have h1:=hst.1;rw [List.append_assoc,List.cons_append,Zh4,HDR.out] at h1;simpa using h1
   ·have hjl:j0 = l.length:=(by omega);subst hjl;have hjI:¬ (l.length:Int) < (l.length:Int):=(by omega);have hr0:=HR.out;rw [List.drop_of_length_le nR,List.append_nil] at hr0;have HR0:=zH hr0;obtain ⟨W2,hW2⟩:∃ W2,W2 = wr.setCells g O.length (List.replicate (l.length - O.length) (.string ByteArray.empty)):=⟨_,rfl⟩;have hcl:∀ ty,(Builtin.clear_ #[74] ty #[.slice (some ⟨g,O.length,none⟩) (l.length - O.length) (c - O.length)]).run Tryz.prog wr = .ok (.tuple #[]) W2:=fun ty=>by
     rw [hW2];refine Lib.run_clear_slice wr 74 9 ty (.string ByteArray.empty) Tryz.underlying74 (fun w=>by kernel_rfl) rfl rfl g O.length (l.length - O.length) _ (by omega) (fun j hj=>?_) (fun j _=>HR0.out.frozenAt _);have hlt9:O.length + j < (sbs (O ++ M)).length:=(by simp;omega);rw [HR0.out.cellAt (O.length + j) (by omega),gE hlt9];rfl
    have h2:=Xd (List.replicate (l.length - O.length) (.string ByteArray.empty)) O.length _ _ hr0;rw [<- hW2,UM _ _ _ (by simp;omega)] at h2;have H2:=zH h2;have hol:O.length <= c:=(by omega);have hne9:¬ c = O.length:=(by omega);clear h2 hW2 hr0;go_wp2_with fail;go_ret;have hO:=HO.out;rw [List.take_of_length_le nR] at hO;rw [<- hO];refine ⟨rfl,?_,⟨H2.out.2.os.trans HG.out.os,H2.out.2.tape.trans HG.out.tape,H2.out.2.output.trans HG.out.output,tR HG.out.size H2.out.2.size,fun b h1 h2=>(H2.out.2.block b (Nat.lt_of_lt_of_le h1 HG.out.size) h2).trans (HG.out.block b h1 h2)⟩⟩;have h2:=H2.out.1;rw [ZE,List.take_left' (by simp),List.append_assoc] at h2;exact Vj h2 (by simp) (by omega)
 ·have hno:=Zje hm;have HN:=zH hno;have HH:=zH h;have HM:=zH hm;clear h hno hm hx hne;go_enter Tryz.func176,Tryz.ntmps176;go_wp2_with fail;refine HI.out.mono ?_;rintro e w' ⟨r,rfl,rfl,hr⟩;obtain rfl:r = -1:=by
   rcases hr with ⟨_,h1⟩ | ⟨k,h1,h2,h3,h4⟩
   ·exact h1
   ·exact absurd (List.mem_of_getElem? h3) HM.out
  clear hr;go_wp2_with fail;go_ret;rw [HN.out];exact ⟨rfl,HH.out,rfl,rfl,rfl,Nat.le_refl _,fun _ _ _=>rfl⟩
end Go.Proofs.YtcjicjfbippmnaaGreat
namespace Ear
def ZaQ (S:List PSl) (x:BA):Nat:=S.findIdx fun s=>decide (x ∈ s.vs)
def Zgm (S:List PSl) (x:BA):Int:=if ZaQ S x < S.length then (ZaQ S x:Int) else -1
theorem ZhU {S:List PSl} {x:BA} {k:Nat} (hk:k < S.length) (h:x ∈ S[k].vs) (h2:∀ (j:Nat) (hj:j < S.length),j < k -> x ∉ S[j].vs):Zgm S x = k:=by
 have e:ZaQ S x = k:=by
  unfold ZaQ;rw [List.findIdx_eq hk];exact ⟨by simpa using h,fun j hj=>by simpa using h2 j (by omega) hj⟩
 unfold Zgm;rw [e,if_pos hk]
theorem Zeq {S:List PSl} {x:BA} (h2:∀ (j:Nat) (hj:j < S.length),x ∉ S[j].vs):Zgm S x = -1:=by
 have e:ZaQ S x = S.length:=by
  unfold ZaQ;refine List.findIdx_eq_length_of_false fun y hy=>?_;obtain ⟨j,hj,rfl⟩:=List.getElem_of_mem hy;simpa using h2 j hj
 unfold Zgm;rw [e,if_neg (by omega)]
end Ear
namespace Go.Proofs.YtcjicjfbippmnaaGreat
open Go.RowKit Ear

theorem ZdA (s:SlM) (x:BA) (eb:Nat) (w:World) (h:Lies w s.A (sbs s.vs)) (hn:s.vs.length <= 1000000) (hx:w.cell? ⟨eb,1,none⟩ = some (.string x)) (r:Bool) (hr:Hid (decide (x ∈ s.vs) = r)) :
  Calls Tryz.prog 175 #[.agg #[.string s.nm,.slice s.A s.vs.length s.c,.bool s.L.neg,.slice s.L.A s.L.N.length s.L.c,.slice s.L.B s.L.D.length s.L.d,.bool s.S.neg,.slice s.S.A s.S.N.length s.S.c,.slice s.S.B s.S.D.length s.S.d],.pointer (some ⟨eb,0,none⟩)] w fun e w'=>e = .returned (.bool r) /\ Below w.heap.size w w':=by
 obtain ⟨W0,hW0⟩:∃ W0:World,W0 = w.alloc (.cells #[.string s.nm,.slice s.A s.vs.length s.c,.bool s.L.neg,.slice s.L.A s.L.N.length s.L.c,.slice s.L.B s.L.D.length s.L.d,.bool s.S.neg,.slice s.S.A s.S.N.length s.S.c,.slice s.S.B s.S.D.length s.S.d] 79):=⟨_,rfl⟩;have HB0:Hid (Below w.heap.size w W0):=zH (by rw [hW0];exact bR.alloc nR _);have HX0:Hid (W0.heap[w.heap.size]? = some (.cells #[.string s.nm,.slice s.A s.vs.length s.c,.bool s.L.neg,.slice s.L.A s.L.N.length s.L.c,.slice s.L.B s.L.D.length s.L.d,.bool s.S.neg,.slice s.S.A s.S.N.length s.S.c,.slice s.S.B s.S.D.length s.S.d] 79 (0,0))):=zH (by rw [hW0];exact heap_alloc_new w _);have c1:W0.cell? ⟨w.heap.size,1,none⟩ = some (.slice s.A s.vs.length s.c):=(cR 1 HX0.out).trans rfl;have hx0:W0.cell? ⟨eb,1,none⟩ = some (.string x):=(HB0.out.cell (p:=⟨eb,1,none⟩) (ZaG hx)).trans hx;have hxa:=hx0;rw [hW0] at hxa;have HC:=zH (YD s.A s.c s.vs x W0 (h.below HB0.out) (by omega) r hr);clear h hx hr;go_enter Tryz.func175,Tryz.ntmps175;go_wp2_with fail;rw [<- hW0];clear hW0 hxa;refine HC.out.mono ?_;rintro e w' ⟨rfl,rfl⟩;go_wp2_with fail;go_ret;exact ⟨rfl,HB0.out⟩
theorem Qh (A:Option Addr) (pc:Nat) (Ss:List SlM) (Ps:List PSl) (x:BA) (eb:Nat) (w:World) (h:PlM w A Ss Ps) (hn:Ss.length <= 1000000) (hv:∀ p ∈ Ps,p.vs.length <= 1000000) (hx:w.cell? ⟨eb,1,none⟩ = some (.string x)) (r:Int) (hr:Hid (Zgm Ps x = r)) :
  Calls Tryz.prog 174 #[.slice A Ss.length pc,.func (.func 175) #[] #[.pointer (some ⟨eb,0,none⟩)]] w fun e w'=>e = .returned (.int .i64 r) /\ Below w.heap.size w w':=by
 have heg:=enters_of Tryz.func175 (by kernel_rfl) rfl;have HO:=zH h;have HX:=zH hx;clear h hx;go_enter Tryz.func174,Tryz.ntmps174;go_wp2_with fail;go_loopw [5,8] (fun _ i wr=>∃ k:Nat,k <= Ss.length /\ i = .int .i64 k /\ Hid (∀ (j:Nat) (hj:j < Ps.length),j < k -> x ∉ Ps[j].vs) /\ Hid (Below w.heap.size w wr)) (fun _ i _=>Ss.length - (intOf i).toNat)
 case atStart=>exact ⟨0,Nat.zero_le _,rfl,zH (fun j _ h=>by omega),zH bR⟩
 case round=>
  obtain ⟨k,hk,rfl,HN,HB⟩:=hrel;by_cases hlt:k < Ss.length
  ·have hltP:k < Ps.length:=by rw [<- HO.out.len];exact hlt
   obtain ⟨gb,go,eA,hgb,hcell⟩:=(HO.out.below HB.out).at_ hlt;have hok:=(HO.out.below HB.out).ok k _ _ (gE hlt) (gE hltP);have HL:=zH hok.lies;have HVS:Hid (Ss[k].vs = Ps[k].vs):=zH hok.vs;have hvl:Ss[k].vs.length <= 1000000:=(by rw [hok.vs];exact hv _ (yM hltP));have hxr:wr.cell? ⟨eb,1,none⟩ = some (.string x):=(HB.out.cell (p:=⟨eb,1,none⟩) (ZaG HX.out)).trans HX.out;have HXR:=zH hxr;clear hok hxr;subst eA;generalize Ss[k] = s at *
   have c0:wr.cell? ⟨gb,go + k * 8,none⟩ = some (.string s.nm):=hcell 0 _ rfl;have c1:=hcell 1 _ rfl;have c2:=hcell 2 _ rfl;have c3:=hcell 3 _ rfl;have c4:=hcell 4 _ rfl;have c5:=hcell 5 _ rfl;have c6:=hcell 6 _ rfl;have c7:=hcell 7 _ rfl;clear hcell;obtain ⟨b,hb⟩:∃ b,decide (x ∈ s.vs) = b:=⟨_,rfl⟩;have HBB:=zH hb;clear hb;go_wp2_with fail;refine (ZdA s x eb wr HL.out hvl HXR.out b HBB).mono ?_;rintro e w1 ⟨rfl,hb1⟩;have HB1:=zH (HB.out.trans (hb1.mono HB.out.size));clear hb1 c0 c1 c2 c3 c4 c5 c6 c7;cases b with
   | true=>
    have hin:=of_decide_eq_true HBB.out;rw [HVS.out] at hin;have HR:Hid (r = (k:Int)):=zH (hr.out.symm.trans (ZhU hltP hin (fun j hj hjk=>HN.out j hj hjk)));clear hin;go_wp2_with fail;go_ret;exact ⟨by rw [HR.out];rfl,HB1.out⟩
   | false=>
    have hin:=of_decide_eq_false HBB.out;rw [HVS.out] at hin;have HN1:Hid (∀ (j:Nat) (hj:j < Ps.length),j < k + 1 -> x ∉ Ps[j].vs):=zH (fun j hj hjk=>by
     by_cases e:j = k
     ·subst e;exact hin
     ·exact HN.out j hj (by omega))
    clear hin;go_wp2_with fail;exact ⟨⟨k + 1,by omega,by go_num,HN1,HB1⟩,by simp [intOf];omega⟩
  ·have HR:Hid (r = -1):=zH (by
    rw [<- hr.out];exact Zeq (fun j hj=>HN.out j hj (by have:=HO.out.len;omega)))
   have hlt':¬ (k:Int) < (Ss.length:Int):=(by omega);go_wp2_with fail;go_ret;exact ⟨by rw [HR.out];rfl,HB.out⟩
end Go.Proofs.YtcjicjfbippmnaaGreat
