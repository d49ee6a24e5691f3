/- TalkNil -/
import Derived.Test.YtfbdihpllmhcnaaGreatDoorMTNil24
set_option maxRecDepth 100000
set_option maxHeartbeats 32000000
namespace Go.Proofs.YtfbdihpllmhcnaaGreatDoor
open Go.RowKit Ear

def NilAt (w:World) (p:Option Addr) (j:Nat) (v:Value):Prop:=p = none ∨ ∃ k,p = some ⟨k,0,none⟩ /\ k < w.heap.size /\ w.cell? ⟨k,j,none⟩ = some v
theorem NilAt.below {w w':World} {p:Option Addr} {j:Nat} {v:Value} (h:NilAt w p j v) (hb:Below w.heap.size w w'):NilAt w' p j v:=by
 rcases h with rfl | ⟨k,rfl,hk,hc⟩
 ·exact .inl rfl
 ·exact .inr ⟨k,rfl,Nat.lt_of_lt_of_le hk hb.size,(hb.cell (p:=⟨k,j,none⟩) hk).trans hc⟩
theorem Zfb (p:Option Addr) (w:World) (h:NilAt w p 0 (.slice none 0 0)):Calls Tryz.prog 52 #[.pointer p] w fun e w'=>e = .returned (.bool false) /\ w' = w:=by
 rcases h with rfl | ⟨k,rfl,hk,hc⟩
 ·go_enter Tryz.func52,Tryz.ntmps52
  go_wp2_with fail
  go_ret
  exact ⟨rfl,rfl⟩
 ·go_enter Tryz.func52,Tryz.ntmps52
  go_wp2_with fail
  go_ret
  exact ⟨rfl,rfl⟩
theorem ZgM (p:Option Addr) (w:World) (h:NilAt w p 4 (.slice none 0 0)):Calls Tryz.prog 56 #[.pointer p] w fun e w'=>e = .returned (.bool false) /\ w' = w:=by
 rcases h with rfl | ⟨k,rfl,hk,hc⟩
 ·go_enter Tryz.func56,Tryz.ntmps56
  go_wp2_with fail
  go_ret
  exact ⟨rfl,rfl⟩
 ·go_enter Tryz.func56,Tryz.ntmps56
  go_wp2_with fail
  go_ret
  exact ⟨rfl,rfl⟩
theorem Zcq (p:Option Addr) (w:World) (h:NilAt w p 38 (.pointer none)):Calls Tryz.prog 62 #[.pointer p] w fun e w'=>e = .returned (.bool false) /\ w' = w:=by
 rcases h with rfl | ⟨k,rfl,hk,hc⟩
 ·go_enter Tryz.func62,Tryz.ntmps62
  go_wp2_with fail
  go_ret
  exact ⟨rfl,rfl⟩
 ·go_enter Tryz.func62,Tryz.ntmps62
  go_wp2_with fail
  go_ret
  exact ⟨rfl,rfl⟩
theorem Zh8 {t:TypeId} {w:World} {k:Nat} {u0 u1 u2:Value} (h:w.heap[k]? = some (.cells #[u0,u1,u2] t (0,0))) (v0 v1 v2:Value):(((w.setCell ⟨k,0,none⟩ v0).setCell ⟨k,1,none⟩ v1).setCell ⟨k,2,none⟩ v2).heap[k]? = some (.cells #[v0,v1,v2] t (0,0)):=by
 have h0:(w.setCell ⟨k,0,none⟩ v0).heap[k]? = some (.cells #[v0,u1,u2] t (0,0)):=(Jx h 0 _).trans rfl
 have h1:((w.setCell ⟨k,0,none⟩ v0).setCell ⟨k,1,none⟩ v1).heap[k]? = some (.cells #[v0,v1,u2] t (0,0)):=(Jx h0 1 _).trans rfl
 exact (Jx h1 2 _).trans rfl
theorem Zho {t:TypeId} {w:World} {k:Nat} {u0 u1 u2 u3:Value} (h:w.heap[k]? = some (.cells #[u0,u1,u2,u3] t (0,0))) (v0 v1 v2 v3:Value):((((w.setCell ⟨k,0,none⟩ v0).setCell ⟨k,1,none⟩ v1).setCell ⟨k,2,none⟩ v2).setCell ⟨k,3,none⟩ v3).heap[k]? = some (.cells #[v0,v1,v2,v3] t (0,0)):=by
 have h0:(w.setCell ⟨k,0,none⟩ v0).heap[k]? = some (.cells #[v0,u1,u2,u3] t (0,0)):=(Jx h 0 _).trans rfl
 have h1:((w.setCell ⟨k,0,none⟩ v0).setCell ⟨k,1,none⟩ v1).heap[k]? = some (.cells #[v0,v1,u2,u3] t (0,0)):=(Jx h0 1 _).trans rfl
 have h2:(((w.setCell ⟨k,0,none⟩ v0).setCell ⟨k,1,none⟩ v1).setCell ⟨k,2,none⟩ v2).heap[k]? = some (.cells #[v0,v1,v2,u3] t (0,0)):=(Jx h1 2 _).trans rfl
 exact (Jx h2 3 _).trans rfl
theorem Zhn {t:TypeId} {w:World} {k:Nat} {u0 u1 u2 u3 u4:Value} (h:w.heap[k]? = some (.cells #[u0,u1,u2,u3,u4] t (0,0))) (v0 v1 v2 v3 v4:Value):(((((w.setCell ⟨k,0,none⟩ v0).setCell ⟨k,1,none⟩ v1).setCell ⟨k,2,none⟩ v2).setCell ⟨k,3,none⟩ v3).setCell ⟨k,4,none⟩ v4).heap[k]? = some (.cells #[v0,v1,v2,v3,v4] t (0,0)):=by
 have h0:(w.setCell ⟨k,0,none⟩ v0).heap[k]? = some (.cells #[v0,u1,u2,u3,u4] t (0,0)):=(Jx h 0 _).trans rfl
 have h1:((w.setCell ⟨k,0,none⟩ v0).setCell ⟨k,1,none⟩ v1).heap[k]? = some (.cells #[v0,v1,u2,u3,u4] t (0,0)):=(Jx h0 1 _).trans rfl
 have h2:(((w.setCell ⟨k,0,none⟩ v0).setCell ⟨k,1,none⟩ v1).setCell ⟨k,2,none⟩ v2).heap[k]? = some (.cells #[v0,v1,v2,u3,u4] t (0,0)):=(Jx h1 2 _).trans rfl
 have h3:((((w.setCell ⟨k,0,none⟩ v0).setCell ⟨k,1,none⟩ v1).setCell ⟨k,2,none⟩ v2).setCell ⟨k,3,none⟩ v3).heap[k]? = some (.cells #[v0,v1,v2,v3,u4] t (0,0)):=(Jx h2 3 _).trans rfl
 exact (Jx h3 4 _).trans rfl
theorem Zgc (p:Option Addr) (w:World) (h:NilAt w p 0 (.slice none 0 0)):Calls Tryz.prog 22 #[.pointer p] w fun e w'=>e = .returned (.tuple #[.agg #[.int .i64 0,.int .i64 0,.slice none 0 0],.int .i64 1]) /\ Below w.heap.size w w':=by
 obtain ⟨W0,hW0⟩:∃ W0:World,W0 = w.alloc (.cells #[.int .i64 0,.int .i64 0,.slice none 0 0] 57):=⟨_,rfl⟩
 have HB0:Hid (Below w.heap.size w W0):=zH (by rw [hW0];exact bR.alloc nR _)
 have HX0:Hid (W0.heap[w.heap.size]? = some (.cells #[.int .i64 0,.int .i64 0,.slice none 0 0] 57 (0,0))):=zH (by rw [hW0];exact heap_alloc_new w _)
 have C:=zH (Zfb p W0 (h.below HB0.out))
 have d0:W0.cell? ⟨w.heap.size,0,none⟩ = some (.int .i64 0):=(cR 0 HX0.out).trans rfl
 have d1:W0.cell? ⟨w.heap.size,1,none⟩ = some (.int .i64 0):=(cR 1 HX0.out).trans rfl
 have d2:W0.cell? ⟨w.heap.size,2,none⟩ = some (.slice none 0 0):=(cR 2 HX0.out).trans rfl
 have f0:=Jl HX0.out 0
 have f1:=Jl HX0.out 1
 have f2:=Jl HX0.out 2
 clear h
 go_enter Tryz.func22,Tryz.ntmps22
 go_upto_region 1 with fail
 rw [<- hW0]
 clear hW0
 go_wp2_with fail
 refine C.out.mono ?_
 rintro e w' ⟨rfl,hw⟩
 replace hw:=hw.symm
 subst hw
 go_wp2_with fail
 have hr:=Zh8 HX0.out (.int .i64 0) (.int .i64 0) (.slice none 0 0)
 have g0:=(cR 0 hr).trans rfl
 have g1:=(cR 1 hr).trans rfl
 have g2:=(cR 2 hr).trans rfl
 refine bodyPost_ret (v:=.tuple #[.agg #[.int .i64 0,.int .i64 0,.slice none 0 0],.int .i64 1]) (by simp [results,Tryz.results22,go_sem,g0,g1,g2]) rfl ?_
 exact ⟨rfl,((HB0.out.setCell nR _).setCell nR _).setCell nR _⟩
theorem Zc0 (p:Option Addr) (A:Option Addr) (n c:Nat) (w:World) (h:NilAt w p 0 (.slice none 0 0)):Calls Tryz.prog 20 #[.pointer p,.slice A n c,.int .i64 1] w fun e w'=>e = .returned (.int .i64 1) /\ w' = w:=by
 have C:=zH (Zfb p w h)
 clear h
 go_enter Tryz.func20,Tryz.ntmps20
 go_wp2_with fail
 refine C.out.mono ?_
 rintro e w' ⟨rfl,hw⟩
 replace hw:=hw.symm
 subst hw
 go_wp2_with fail
 go_ret
 exact ⟨rfl,rfl⟩
theorem Zhh (p:Option Addr) (w:World) (h:NilAt w p 0 (.slice none 0 0)):Calls Tryz.prog 26 #[.pointer p] w fun e w'=>e = .returned (.int .i64 1) /\ w' = w:=by
 have C:=zH (Zfb p w h)
 clear h
 go_enter Tryz.func26,Tryz.ntmps26
 go_wp2_with fail
 refine C.out.mono ?_
 rintro e w' ⟨rfl,hw⟩
 replace hw:=hw.symm
 subst hw
 go_wp2_with fail
 go_ret
 exact ⟨rfl,rfl⟩
theorem Zge (p:Option Addr) (w:World) (h:NilAt w p 0 (.slice none 0 0)):Calls Tryz.prog 21 #[.pointer p] w fun e w'=>e = .returned (.int .i64 0) /\ w' = w:=by
 have C:=zH (Zfb p w h)
 clear h
 go_enter Tryz.func21,Tryz.ntmps21
 go_wp2_with fail
 refine C.out.mono ?_
 rintro e w' ⟨rfl,hw⟩
 replace hw:=hw.symm
 subst hw
 go_wp2_with fail
 go_ret
 exact ⟨rfl,rfl⟩
theorem Zh6 (p:Option Addr) (w:World) (h:NilAt w p 4 (.slice none 0 0)):Calls Tryz.prog 24 #[.pointer p] w fun e w'=>e = .returned (.tuple #[.agg #[.int .i64 0,.bool false,.string ⟨#[]⟩,.int .i64 0],.int .i64 1]) /\ Below w.heap.size w w':=by
 obtain ⟨W0,hW0⟩:∃ W0:World,W0 = w.alloc (.cells #[.int .i64 0,.bool false,.string ⟨#[]⟩,.int .i64 0] 97):=⟨_,rfl⟩
 have HB0:Hid (Below w.heap.size w W0):=zH (by rw [hW0];exact bR.alloc nR _)
 have HX0:Hid (W0.heap[w.heap.size]? = some (.cells #[.int .i64 0,.bool false,.string ⟨#[]⟩,.int .i64 0] 97 (0,0))):=zH (by rw [hW0];exact heap_alloc_new w _)
 have C:=zH (ZgM p W0 (h.below HB0.out))
 have d0:W0.cell? ⟨w.heap.size,0,none⟩ = some (.int .i64 0):=(cR 0 HX0.out).trans rfl
 have f0:=Jl HX0.out 0
 have d1:W0.cell? ⟨w.heap.size,1,none⟩ = some (.bool false):=(cR 1 HX0.out).trans rfl
 have f1:=Jl HX0.out 1
 have d2:W0.cell? ⟨w.heap.size,2,none⟩ = some (.string ⟨#[]⟩):=(cR 2 HX0.out).trans rfl
 have f2:=Jl HX0.out 2
 have d3:W0.cell? ⟨w.heap.size,3,none⟩ = some (.int .i64 0):=(cR 3 HX0.out).trans rfl
 have f3:=Jl HX0.out 3
 clear h
 go_enter Tryz.func24,Tryz.ntmps24
 go_upto_region 1 with fail
 rw [<- hW0]
 clear hW0
 go_wp2_with fail
 refine C.out.mono ?_
 rintro e w' ⟨rfl,hw⟩
 replace hw:=hw.symm
 subst hw
 go_wp2_with fail
 have hr:=Zho HX0.out (.int .i64 0) (.bool false) (.string ⟨#[]⟩) (.int .i64 0)
 have g0:=(cR 0 hr).trans rfl
 have g1:=(cR 1 hr).trans rfl
 have g2:=(cR 2 hr).trans rfl
 have g3:=(cR 3 hr).trans rfl
 refine bodyPost_ret (v:=.tuple #[.agg #[.int .i64 0,.bool false,.string ⟨#[]⟩,.int .i64 0],.int .i64 1]) (by simp [results,Tryz.results24,go_sem,g0,g1,g2,g3]) rfl ?_
 exact ⟨rfl,((((HB0.out.setCell nR _).setCell nR _).setCell nR _).setCell nR _)⟩
theorem Zgd (p:Option Addr) (w:World) (h:NilAt w p 4 (.slice none 0 0)):Calls Tryz.prog 25 #[.pointer p] w fun e w'=>e = .returned (.tuple #[.agg #[.slice none 0 0,.int .i64 0,.bool false,.bool false,.int .i64 0],.int .i64 1]) /\ Below w.heap.size w w':=by
 obtain ⟨W0,hW0⟩:∃ W0:World,W0 = w.alloc (.cells #[.slice none 0 0,.int .i64 0,.bool false,.bool false,.int .i64 0] 101):=⟨_,rfl⟩
 have HB0:Hid (Below w.heap.size w W0):=zH (by rw [hW0];exact bR.alloc nR _)
 have HX0:Hid (W0.heap[w.heap.size]? = some (.cells #[.slice none 0 0,.int .i64 0,.bool false,.bool false,.int .i64 0] 101 (0,0))):=zH (by rw [hW0];exact heap_alloc_new w _)
 have C:=zH (ZgM p W0 (h.below HB0.out))
 have d0:W0.cell? ⟨w.heap.size,0,none⟩ = some (.slice none 0 0):=(cR 0 HX0.out).trans rfl
 have f0:=Jl HX0.out 0
 have d1:W0.cell? ⟨w.heap.size,1,none⟩ = some (.int .i64 0):=(cR 1 HX0.out).trans rfl
 have f1:=Jl HX0.out 1
 have d2:W0.cell? ⟨w.heap.size,2,none⟩ = some (.bool false):=(cR 2 HX0.out).trans rfl
 have f2:=Jl HX0.out 2
 have d3:W0.cell? ⟨w.heap.size,3,none⟩ = some (.bool false):=(cR 3 HX0.out).trans rfl
 have f3:=Jl HX0.out 3
 have d4:W0.cell? ⟨w.heap.size,4,none⟩ = some (.int .i64 0):=(cR 4 HX0.out).trans rfl
 have f4:=Jl HX0.out 4
 clear h
 go_enter Tryz.func25,Tryz.ntmps25
 go_upto_region 1 with fail
 rw [<- hW0]
 clear hW0
 go_wp2_with fail
 refine C.out.mono ?_
 rintro e w' ⟨rfl,hw⟩
 replace hw:=hw.symm
 subst hw
 go_wp2_with fail
 have hr:=Zhn HX0.out (.slice none 0 0) (.int .i64 0) (.bool false) (.bool false) (.int .i64 0)
 have g0:=(cR 0 hr).trans rfl
 have g1:=(cR 1 hr).trans rfl
 have g2:=(cR 2 hr).trans rfl
 have g3:=(cR 3 hr).trans rfl
 have g4:=(cR 4 hr).trans rfl
 refine bodyPost_ret (v:=.tuple #[.agg #[.slice none 0 0,.int .i64 0,.bool false,.bool false,.int .i64 0],.int .i64 1]) (by simp [results,Tryz.results25,go_sem,g0,g1,g2,g3,g4]) rfl ?_
 exact ⟨rfl,(((((HB0.out.setCell nR _).setCell nR _).setCell nR _).setCell nR _).setCell nR _)⟩
theorem Zgi (p:Option Addr) (w:World) (h:NilAt w p 38 (.pointer none)):Calls Tryz.prog 30 #[.pointer p] w fun e w'=>e = .returned (.tuple #[.agg #[.int .i64 0,.bool false,.string ⟨#[]⟩,.int .i64 0],.int .i64 1]) /\ Below w.heap.size w w':=by
 obtain ⟨W0,hW0⟩:∃ W0:World,W0 = w.alloc (.cells #[.int .i64 0,.bool false,.string ⟨#[]⟩,.int .i64 0] 97):=⟨_,rfl⟩
 have HB0:Hid (Below w.heap.size w W0):=zH (by rw [hW0];exact bR.alloc nR _)
 have HX0:Hid (W0.heap[w.heap.size]? = some (.cells #[.int .i64 0,.bool false,.string ⟨#[]⟩,.int .i64 0] 97 (0,0))):=zH (by rw [hW0];exact heap_alloc_new w _)
 have C:=zH (Zcq p W0 (h.below HB0.out))
 have d0:W0.cell? ⟨w.heap.size,0,none⟩ = some (.int .i64 0):=(cR 0 HX0.out).trans rfl
 have f0:=Jl HX0.out 0
 have d1:W0.cell? ⟨w.heap.size,1,none⟩ = some (.bool false):=(cR 1 HX0.out).trans rfl
 have f1:=Jl HX0.out 1
 have d2:W0.cell? ⟨w.heap.size,2,none⟩ = some (.string ⟨#[]⟩):=(cR 2 HX0.out).trans rfl
 have f2:=Jl HX0.out 2
 have d3:W0.cell? ⟨w.heap.size,3,none⟩ = some (.int .i64 0):=(cR 3 HX0.out).trans rfl
 have f3:=Jl HX0.out 3
 clear h
 go_enter Tryz.func30,Tryz.ntmps30
 go_upto_region 1 with fail
 rw [<- hW0]
 clear hW0
 go_wp2_with fail
 refine C.out.mono ?_
 rintro e w' ⟨rfl,hw⟩
 replace hw:=hw.symm
 subst hw
 go_wp2_with fail
 have hr:=Zho HX0.out (.int .i64 0) (.bool false) (.string ⟨#[]⟩) (.int .i64 0)
 have g0:=(cR 0 hr).trans rfl
 have g1:=(cR 1 hr).trans rfl
 have g2:=(cR 2 hr).trans rfl
 have g3:=(cR 3 hr).trans rfl
 refine bodyPost_ret (v:=.tuple #[.agg #[.int .i64 0,.bool false,.string ⟨#[]⟩,.int .i64 0],.int .i64 1]) (by simp [results,Tryz.results30,go_sem,g0,g1,g2,g3]) rfl ?_
 exact ⟨rfl,((((HB0.out.setCell nR _).setCell nR _).setCell nR _).setCell nR _)⟩
theorem Zdc (p:Option Addr) (w:World) (h:NilAt w p 38 (.pointer none)):Calls Tryz.prog 31 #[.pointer p] w fun e w'=>e = .returned (.tuple #[.agg #[.slice none 0 0,.int .i64 0,.bool false,.bool false,.int .i64 0],.int .i64 1]) /\ Below w.heap.size w w':=by
 obtain ⟨W0,hW0⟩:∃ W0:World,W0 = w.alloc (.cells #[.slice none 0 0,.int .i64 0,.bool false,.bool false,.int .i64 0] 101):=⟨_,rfl⟩
 have HB0:Hid (Below w.heap.size w W0):=zH (by rw [hW0];exact bR.alloc nR _)
 have HX0:Hid (W0.heap[w.heap.size]? = some (.cells #[.slice none 0 0,.int .i64 0,.bool false,.bool false,.int .i64 0] 101 (0,0))):=zH (by rw [hW0];exact heap_alloc_new w _)
 have C:=zH (Zcq p W0 (h.below HB0.out))
 have d0:W0.cell? ⟨w.heap.size,0,none⟩ = some (.slice none 0 0):=(cR 0 HX0.out).trans rfl
 have f0:=Jl HX0.out 0
 have d1:W0.cell? ⟨w.heap.size,1,none⟩ = some (.int .i64 0):=(cR 1 HX0.out).trans rfl
 have f1:=Jl HX0.out 1
 have d2:W0.cell? ⟨w.heap.size,2,none⟩ = some (.bool false):=(cR 2 HX0.out).trans rfl
 have f2:=Jl HX0.out 2
 have d3:W0.cell? ⟨w.heap.size,3,none⟩ = some (.bool false):=(cR 3 HX0.out).trans rfl
 have f3:=Jl HX0.out 3
 have d4:W0.cell? ⟨w.heap.size,4,none⟩ = some (.int .i64 0):=(cR 4 HX0.out).trans rfl
 have f4:=Jl HX0.out 4
 clear h
 go_enter Tryz.func31,Tryz.ntmps31
 go_upto_region 1 with fail
 rw [<- hW0]
 clear hW0
 go_wp2_with fail
 refine C.out.mono ?_
 rintro e w' ⟨rfl,hw⟩
 replace hw:=hw.symm
 subst hw
 go_wp2_with fail
 have hr:=Zhn HX0.out (.slice none 0 0) (.int .i64 0) (.bool false) (.bool false) (.int .i64 0)
 have g0:=(cR 0 hr).trans rfl
 have g1:=(cR 1 hr).trans rfl
 have g2:=(cR 2 hr).trans rfl
 have g3:=(cR 3 hr).trans rfl
 have g4:=(cR 4 hr).trans rfl
 refine bodyPost_ret (v:=.tuple #[.agg #[.slice none 0 0,.int .i64 0,.bool false,.bool false,.int .i64 0],.int .i64 1]) (by simp [results,Tryz.results31,go_sem,g0,g1,g2,g3,g4]) rfl ?_
 exact ⟨rfl,(((((HB0.out.setCell nR _).setCell nR _).setCell nR _).setCell nR _).setCell nR _)⟩
theorem ZeP (p:Option Addr) (A:Option Addr) (n c:Nat) (w:World) (h:NilAt w p 38 (.pointer none)):Calls Tryz.prog 28 #[.pointer p,.slice A n c] w fun e w'=>e = .returned (.tuple #[.slice none 0 0,.int .i64 1]) /\ w' = w:=by
 have C:=zH (Zcq p w h)
 clear h
 go_enter Tryz.func28,Tryz.ntmps28
 go_wp2_with fail
 refine C.out.mono ?_
 rintro e w' ⟨rfl,hw⟩
 replace hw:=hw.symm
 subst hw
 go_wp2_with fail
 refine bodyPost_ret (v:=.tuple #[.slice none 0 0,.int .i64 1]) (by simp [results,Tryz.results28,go_sem]) rfl ?_
 exact ⟨rfl,rfl⟩
theorem Zdd (p:Option Addr) (w:World) (h:NilAt w p 38 (.pointer none)):Calls Tryz.prog 29 #[.pointer p] w fun e w'=>e = .returned (.tuple #[.slice none 0 0,.int .i64 1]) /\ w' = w:=by
 have C:=zH (Zcq p w h)
 clear h
 go_enter Tryz.func29,Tryz.ntmps29
 go_wp2_with fail
 refine C.out.mono ?_
 rintro e w' ⟨rfl,hw⟩
 replace hw:=hw.symm
 subst hw
 go_wp2_with fail
 refine bodyPost_ret (v:=.tuple #[.slice none 0 0,.int .i64 1]) (by simp [results,Tryz.results29,go_sem]) rfl ?_
 exact ⟨rfl,rfl⟩
theorem Zah (p:Option Addr) (w:World) (h:NilAt w p 38 (.pointer none)):Calls Tryz.prog 32 #[.pointer p] w fun e w'=>e = .returned (.tuple #[.slice none 0 0,.int .i64 1]) /\ w' = w:=by
 have C:=zH (Zcq p w h)
 clear h
 go_enter Tryz.func32,Tryz.ntmps32
 go_wp2_with fail
 refine C.out.mono ?_
 rintro e w' ⟨rfl,hw⟩
 replace hw:=hw.symm
 subst hw
 go_wp2_with fail
 refine bodyPost_ret (v:=.tuple #[.slice none 0 0,.int .i64 1]) (by simp [results,Tryz.results32,go_sem]) rfl ?_
 exact ⟨rfl,rfl⟩
theorem Zdb (p:Option Addr) (w:World) (h:NilAt w p 38 (.pointer none)):Calls Tryz.prog 33 #[.pointer p] w fun e w'=>e = .returned (.slice none 0 0) /\ w' = w:=by
 have C:=zH (Zcq p w h)
 clear h
 go_enter Tryz.func33,Tryz.ntmps33
 go_wp2_with fail
 refine C.out.mono ?_
 rintro e w' ⟨rfl,hw⟩
 replace hw:=hw.symm
 subst hw
 go_wp2_with fail
 go_ret
 exact ⟨rfl,rfl⟩
theorem Zhi (p:Option Addr) (E:EvM) (w:World) (h:NilAt w p 4 (.slice none 0 0)):Calls Tryz.prog 23 #[.pointer p,E.v] w fun e w'=>e = .returned (.int .i64 1) /\ Below w.heap.size w w':=by
 obtain ⟨W0,hW0⟩:∃ W0:World,W0 = w.alloc (.cells #[.int .i64 E.kind,.string E.val,.bool E.W.neg,.slice E.W.A E.W.N.length E.W.c,.slice E.W.B E.W.D.length E.W.d,.int .i64 E.at_] 28):=⟨_,rfl⟩
 have HB0:Hid (Below w.heap.size w W0):=zH (by rw [hW0];exact bR.alloc nR _)
 have C:=zH (ZgM p W0 (h.below HB0.out))
 clear h
 unfold EvM.v
 go_enter Tryz.func23,Tryz.ntmps23
 go_upto_region 1 with fail
 rw [<- hW0]
 clear hW0
 go_wp2_with fail
 refine C.out.mono ?_
 rintro e w' ⟨rfl,hw⟩
 replace hw:=hw.symm
 subst hw
 go_wp2_with fail
 go_ret
 exact ⟨rfl,HB0.out⟩
theorem UX (p:Option Addr) (A:Option Addr) (n c:Nat) (w:World) (h:NilAt w p 0 (.slice none 0 0)):Calls Tryz.prog 6 #[.pointer p,.slice A n c] w (QZ true w):=by
 have C1:=zH (Zgc p w h)
 have HN:=zH h
 clear h
 go_enter Tryz.func6,Tryz.ntmps6
 go_wp2_with fail
 refine C1.out.mono ?_
 rintro e w1 ⟨rfl,hb1⟩
 have HB1:=zH hb1
 clear hb1 C1
 obtain ⟨W2,hW2⟩:∃ W2:World,W2 = w1.alloc (.cells #[.int .i64 0,.int .i64 0,.slice none 0 0] 57):=⟨_,rfl⟩
 have HB2:Hid (Below w.heap.size w W2):=zH (by rw [hW2];exact HB1.out.alloc HB1.out.size _)
 have HN2:=zH (HN.out.below HB2.out)
 go_upto_region 2 with fail
 rw [<- hW2]
 clear hW2
 go_wp2_with fail
 refine (Zc0 p A n c W2 HN2.out).mono ?_
 rintro e w3 ⟨rfl,hw⟩
 replace hw:=hw.symm
 subst hw
 go_wp2_with fail
 refine (Zhh p W2 HN2.out).mono ?_
 rintro e w4 ⟨rfl,hw⟩
 replace hw:=hw.symm
 subst hw
 go_wp2_with fail
 refine (Zge p W2 HN2.out).mono ?_
 rintro e w5 ⟨rfl,hw⟩
 replace hw:=hw.symm
 subst hw
 go_wp2_with fail
 go_ret
 exact ⟨rfl,HB2.out⟩
theorem ZbG (p:Option Addr) (A:Option Addr) (n c:Nat) (w:World) (h:NilAt w p 38 (.pointer none)):Calls Tryz.prog 8 #[.pointer p,.slice A n c] w (QZ true w):=by
 have HN:=zH h
 clear h
 go_enter Tryz.func8,Tryz.ntmps8
 go_wp2_with fail
 refine (ZeP p A n c w HN.out).mono ?_
 rintro e w1 ⟨rfl,hw⟩
 replace hw:=hw.symm
 subst hw
 go_wp2_with fail
 refine (Zdd p w HN.out).mono ?_
 rintro e w1 ⟨rfl,hw⟩
 replace hw:=hw.symm
 subst hw
 go_wp2_with fail
 refine (Zgi p w HN.out).mono ?_
 rintro e w1 ⟨rfl,hb1⟩
 have HB1:=zH hb1
 clear hb1
 obtain ⟨W2,hW2⟩:∃ W2:World,W2 = w1.alloc (.cells #[.int .i64 0,.bool false,.string ⟨#[]⟩,.int .i64 0] 97):=⟨_,rfl⟩
 have HB2:Hid (Below w.heap.size w W2):=zH (by rw [hW2];exact HB1.out.alloc HB1.out.size _)
 go_upto_region 4 with fail
 rw [<- hW2]
 clear hW2 HB1
 go_wp2_with fail
 refine (Zdc p W2 (HN.out.below HB2.out)).mono ?_
 rintro e w3 ⟨rfl,hb3⟩
 have HB3:Hid (Below w.heap.size w w3):=zH (HB2.out.trans (hb3.mono HB2.out.size))
 clear hb3
 obtain ⟨W4,hW4⟩:∃ W4:World,W4 = w3.alloc (.cells #[.slice none 0 0,.int .i64 0,.bool false,.bool false,.int .i64 0] 101):=⟨_,rfl⟩
 have HB4:Hid (Below w.heap.size w W4):=zH (by rw [hW4];exact HB3.out.alloc HB3.out.size _)
 have HN4:=zH (HN.out.below HB4.out)
 go_upto_region 5 with fail
 rw [<- hW4]
 clear hW4 HB3 HB2
 go_wp2_with fail
 refine (Zah p W4 HN4.out).mono ?_
 rintro e w5 ⟨rfl,hw⟩
 replace hw:=hw.symm
 subst hw
 go_wp2_with fail
 refine (Zdb p W4 HN4.out).mono ?_
 rintro e w5 ⟨rfl,hw⟩
 replace hw:=hw.symm
 subst hw
 go_wp2_with fail
 go_ret
 exact ⟨rfl,HB4.out⟩
structure Chg (w w':World) (a a':DlA):Prop where
 os:w'.os = w.os
 tape:w'.tape = w.tape
 output:w'.output = w.output
 size:w.heap.size <= w'.heap.size
 block:∀ b,b < w.heap.size -> b ≠ a.q -> b ≠ a.gF -> (∀ f ∈ a.Fm,blk f.A ≠ some b) -> w'.heap[b]? = w.heap[b]?
 fresh:∀ f ∈ a'.Fm,∀ b,blk f.A = some b -> (∃ g ∈ a.Fm,blk g.A = some b) ∨ w.heap.size <= b
 same:a'.q = a.q /\ a'.gF = a.gF
theorem Chg.of_below {w w':World} {a:DlA} (h:Below w.heap.size w w'):Chg w w' a a:=⟨h.os,h.tape,h.output,h.size,fun b hb _ _ _=>h.block b hb,fun f hf _ hb=>.inl ⟨f,hf,hb⟩,rfl,rfl⟩
theorem Chg.trans {w w' w'':World} {a a' a'':DlA} (h:Chg w w' a a') (k:Chg w' w'' a' a''):Chg w w'' a a'':=
 ⟨k.os.trans h.os,k.tape.trans h.tape,k.output.trans h.output,tR h.size k.size,fun b h1 h2 h3 h4=>(k.block b (Nat.lt_of_lt_of_le h1 h.size) (by rw [h.same.1];exact h2) (by rw [h.same.2];exact h3) (fun f hf e=>by
  rcases h.fresh f hf b e with ⟨g,hg,e2⟩ | h5
  ·exact h4 g hg e2
  ·omega)).trans (h.block b h1 h2 h3 h4),
 fun f hf b hb=>by
  rcases k.fresh f hf b hb with ⟨g,hg,e2⟩ | h5
  ·exact h.fresh g hg b e2
  ·exact .inr (tR h.size h5),
 k.same.1.trans h.same.1,k.same.2.trans h.same.2⟩
theorem Qg {Fs:List FlM} {k:Nat} {X x:FlM} (h:x ∈ Fs.set k X):x = X ∨ ∃ j,∃ hj:j < Fs.length,j ≠ k /\ x = Fs[j]:=by
 obtain ⟨j,hj,rfl⟩:=List.getElem_of_mem h
 rw [List.getElem_set]
 split
 ·exact .inl rfl
 ·rename_i e
  exact .inr ⟨j,by simpa using hj,fun e2=>e e2.symm,rfl⟩
theorem QK {Fs:List FlM} (h:Fs.Pairwise fun x y=>∀ k,blk x.A = some k -> blk y.A ≠ some k) {i j:Nat} (hi:i < Fs.length) (hj:j < Fs.length) (hne:i ≠ j):∀ k,blk Fs[i].A = some k -> blk Fs[j].A ≠ some k:=by
 intro k h1 h2
 rw [List.pairwise_iff_getElem] at h
 rcases Nat.lt_or_ge i j with hl | hl
 ·exact h i j hi hj hl k h1 h2
 ·exact h j i hj hi (by omega) k h2 h1
theorem ZaI {Fs:List FlM} {a:Nat} {X:FlM} (h:Fs.Pairwise fun x y=>∀ k,blk x.A = some k -> blk y.A ≠ some k) (hX:∀ k,blk X.A = some k -> ∀ j (hj:j < Fs.length),j ≠ a -> blk Fs[j].A ≠ some k):(Fs.set a X).Pairwise fun x y=>∀ k,blk x.A = some k -> blk y.A ≠ some k:=by
 rw [List.pairwise_iff_getElem]
 intro i j hi hj hlt k h1 h2
 simp only [List.length_set] at hi hj
 rw [List.getElem_set] at h1 h2
 split at h1
 ·split at h2
  ·omega
  ·rename_i e1 e2
   exact hX k h1 j hj (fun e=>e2 e.symm) h2
 ·split at h2
  ·rename_i e1 e2
   exact hX k h2 i hi (fun e=>e1 e.symm) h1
  ·exact QK h hi hj (by omega) k h1 h2
def DlA.put (a:DlA) (k:Nat) (Y:FlM):DlA:={ a with Fm:=a.Fm.set k Y }
def _root_.Ear.PDl.put (D:PDl) (k:Nat) (f:PFl):PDl:={ D with F:=D.F.set k f }
theorem DlM.put {w w':World} {bs:Nat} {a:DlA} {D:PDl} (h:DlM w bs a D) {k:Nat} (hk:k < a.Fm.length) (Y:FlM) (hs:w.heap.size <= w'.heap.size) (ho:w'.os = w.os) (ht:w'.tape = w.tape) (hu:w'.output = w.output)
  (hrow:w'.ownsRow 0 136 3 (.slice (some ⟨a.gF,0,none⟩) a.Fm.length a.fc) a.Fm.length (Xz (a.Fm.set k Y))) (hoth:∀ b,b < w.heap.size -> b ≠ a.gF -> blk a.Fm[k].A ≠ some b -> w'.heap[b]? = w.heap[b]?)
  (hY:w'.ownsRow bs 9 1 (.slice Y.A Y.ref.length Y.c) Y.ref.length (sbs Y.ref)) (hfr:∀ b,blk Y.A = some b -> blk a.Fm[k].A = some b ∨ w.heap.size <= b):DlM w' bs (a.put k Y) (D.put k Y.pure) /\ Chg w w' a (a.put k Y):=by
 have hbF:BT w a.gF 136:=BT.of_own h.row rfl
 have hbX:∀ b,blk a.Fm[k].A = some b -> BT w b 9 /\ bs <= b:=fun b hb=>⟨BT.of_own (h.ref _ (gM hk)) (by rw [Jm];exact hb),((h.ref _ (gM hk)).lt b (by rw [Jm];exact hb)).1⟩
 have hqb:BT w a.q 44:=⟨_,_,h.cell⟩
 have hq:w'.heap[a.q]? = w.heap[a.q]?:=hoth _ hqb.lt (hqb.ne hbF (by decide)) (fun e=>(hbX _ e).1.ne hqb (by decide) rfl)
 refine ⟨⟨?_,?_,?_,?_,?_,?_,?_,?_,h.lt.1,h.lt.2.1,tR h.lt.2.2 hs⟩,?_⟩
 ·show w'.heap[a.q]? = some (.cells #[_,_,_,_,.slice (some ⟨a.gF,0,none⟩) (a.Fm.set k Y).length a.fc,_,_,_,_,_] _ _)
  rw [List.length_set,hq]
  exact h.cell
 ·intro w2 hs2 hk2
  refine h.stab w2 (tR hs hs2) (fun b h1 h2 h3=>(hk2 b h1 h2 h3).trans (hoth b (Nat.lt_of_lt_of_le h1 h.lt.2.2) h3 (fun e=>?_)))
  have:=(hbX b e).2
  omega
 ·show w'.ownsRow 0 _ 3 (.slice _ (a.Fm.set k Y).length _) (a.Fm.set k Y).length _
  rw [List.length_set]
  exact hrow
 ·intro f hf
  rcases Qg hf with rfl | ⟨j,hj,hne,rfl⟩
  ·exact hY
  ·have ho:=h.ref _ (gM hj)
   have hgr:w.grownBy w' none ∨ True:=.inr trivial
   refine ⟨ho.1,?_⟩
   rcases ho.2 with hz | ⟨g,cap,cur,e1,e2,e3,rest⟩
   ·exact .inl hz
   ·refine .inr ⟨g,cap,cur,e1,e2,?_,rest⟩
    have hbj:blk a.Fm[j].A = some g:=by
     injection e1 with e1
     rw [e1]
     rfl
    have hgt:BT w g 9:=⟨_,_,e3⟩
    rw [hoth g hgt.lt (hgt.ne hbF (by decide)) (QK h.apart hj hk hne g hbj)]
    exact e3
 ·refine ZaI h.apart fun b hb j hj hne e=>?_
  rcases hfr b hb with h1 | h1
  ·exact QK h.apart hk hj (fun e=>hne e.symm) b h1 e
  ·have:=(BT.of_own (h.ref _ (gM hj)) (by rw [Jm];exact e)).lt
   omega
 ·show (a.Fm.set k Y).map FlM.pure = D.F.set k Y.pure
  rw [List.map_set,h.pure]
 ·show (a.Fm.set k Y).length = a.Ss.length
  rw [List.length_set]
  exact h.len
 ·show 0 < (a.Fm.set k Y).length
  rw [List.length_set]
  exact h.pos
 ·refine ⟨ho,ht,hu,hs,fun b h1 _ h3 h4=>hoth b h1 h3 (h4 _ (gM hk)),fun f hf b hb=>?_,rfl,rfl⟩
  rcases Qg hf with rfl | ⟨j,hj,hne,rfl⟩
  ·rcases hfr b hb with h1 | h1
   ·exact .inl ⟨_,gM hk,h1⟩
   ·exact .inr h1
  ·exact .inl ⟨_,gM hj,hb⟩
theorem Zbp (Fs:List FlM) {k:Nat} (hk:k < Fs.length):∃ O R,Fs = O ++ Fs[k] :: R /\ O.length = k /\ ∀ Y,Fs.set k Y = O ++ Y :: R:=by
 refine ⟨Fs.take k,Fs.drop (k + 1),?_,by simp;omega,fun Y=>?_⟩
 ·rw [<- List.drop_eq_getElem_cons hk,List.take_append_drop]
 ·exact List.set_eq_take_append_cons_drop.trans (by rw [if_pos hk])
theorem Yv (O R:List FlM) (x:FlM):Xz (O ++ x :: R) = Xz O ++ (.int .i64 x.st :: .string x.val :: .slice x.A x.ref.length x.c :: Xz R):=by simp [Xz,flc]
theorem DlM.setSt {w:World} {bs:Nat} {a:DlA} {D:PDl} (h:DlM w bs a D) {k:Nat} (hk:k < a.Fm.length) (n:Int):DlM (w.setCell ⟨a.gF,k * 3,none⟩ (.int .i64 n)) bs (a.put k { a.Fm[k] with st:=n }) (D.put k { a.Fm[k].pure with st:=n }) /\ Chg w (w.setCell ⟨a.gF,k * 3,none⟩ (.int .i64 n)) a (a.put k { a.Fm[k] with st:=n }):=by
 obtain ⟨O,R,e1,e2,e3⟩:=Zbp a.Fm hk
 have hst:=h.row.stored (k * 3) (.int .i64 n)
 have hset:(Xz a.Fm).set (k * 3) (.int .i64 n) = Xz (a.Fm.set k { a.Fm[k] with st:=n }):=by
  have hl:(Xz O).length = k * 3:=by rw [Xt,e2]
  rw [e3]
  conv=>lhs;rw [e1]
  rw [Yv,Yv,List.set_append_right _ _ (by omega),hl,Nat.sub_self]
  rfl
 rw [hset] at hst
 have hr:=h.ref _ (gM hk)
 have hbF:BT w a.gF 136:=BT.of_own h.row rfl
 refine h.put hk { a.Fm[k] with st:=n } hst.2.size hst.2.os hst.2.tape hst.2.output hst.1 (fun b h1 h2 _=>hst.2.block b h1 (by intro e;injection e with e;exact h2 e)) ?_ (fun b hb=>.inl hb)
 exact Jo hr hst.2 (fun b hb e=>by injection e with e;subst e;exact (BT.of_own hr hb).ne hbF (by decide) rfl)
theorem DlM.setVal {w:World} {bs:Nat} {a:DlA} {D:PDl} (h:DlM w bs a D) {k:Nat} (hk:k < a.Fm.length) (s:BA):DlM (w.setCell ⟨a.gF,k * 3 + 1,none⟩ (.string s)) bs (a.put k { a.Fm[k] with val:=s }) (D.put k { a.Fm[k].pure with val:=s }) /\ Chg w (w.setCell ⟨a.gF,k * 3 + 1,none⟩ (.string s)) a (a.put k { a.Fm[k] with val:=s }):=by
 obtain ⟨O,R,e1,e2,e3⟩:=Zbp a.Fm hk
 have hst:=h.row.stored (k * 3 + 1) (.string s)
 have hset:(Xz a.Fm).set (k * 3 + 1) (.string s) = Xz (a.Fm.set k { a.Fm[k] with val:=s }):=by
  have hl:(Xz O).length = k * 3:=by rw [Xt,e2]
  rw [e3]
  conv=>lhs;rw [e1]
  rw [Yv,Yv,List.set_append_right _ _ (by omega),hl,show k * 3 + 1 - k * 3 = 1 by omega]
  rfl
 rw [hset] at hst
 have hr:=h.ref _ (gM hk)
 have hbF:BT w a.gF 136:=BT.of_own h.row rfl
 refine h.put hk { a.Fm[k] with val:=s } hst.2.size hst.2.os hst.2.tape hst.2.output hst.1 (fun b h1 h2 _=>hst.2.block b h1 (by intro e;injection e with e;exact h2 e)) ?_ (fun b hb=>.inl hb)
 exact Jo hr hst.2 (fun b hb e=>by injection e with e;subst e;exact (BT.of_own hr hb).ne hbF (by decide) rfl)
def ZhY (x:BA) (l:List BA) (w:World) (e:Ending) (w':World):Prop:=∃ r:Int,e = .returned (.int .i64 r) /\ w = w' /\ decide (0 <= r) = decide (x ∈ l)
theorem ZbK {l:List BA} {k:Nat} (hk:k < l.length) {x:BA} (h:x ∉ l.take k) (h2:¬ x = l[k]):x ∉ l.take (k + 1):=by
 rw [List.take_succ_eq_append_getElem hk]
 simp only [List.mem_append,List.mem_singleton,not_or]
 exact ⟨h,h2⟩
theorem ZaO (A:Option Addr) (c:Nat) (l:List BA) (x:BA) (w:World) (h:Lies w A (sbs l)) (hn:l.length <= 9223372036854775807) :
  Calls Tryz.prog 172 #[.slice A l.length c,.string x] w (ZhY x l w):=by
 go_enter Tryz.func172,Tryz.ntmps172
 go_wp2
 go_loop [5,8] (fun _ i=>∃ k:Nat,k <= l.length /\ i = .int .i64 k /\ x ∉ l.take k) (fun _ i=>l.length - (intOf i).toNat)
 case atStart=>exact ⟨0,Nat.zero_le _,rfl,by simp⟩
 case round=>
  obtain ⟨k,hk,rfl,hp'⟩:=hrel
  have HP:=zH hp'
  clear hp'
  by_cases hlt:k < l.length
  ·obtain ⟨bk,off,rfl,hb,hc⟩:=h
    (by simpa using Nat.lt_of_le_of_lt (Nat.zero_le k) hlt)
   have hc0:=hc k (.string l[k]) (by simp [gE hlt])
   have HL:=zH (rfl:l[k] = l[k])
   clear hc
   by_cases hx:x = l[k]
   ·have HX:=zH hx
    rw [<- hx] at hc0
    clear hx
    go_wp2_with fail
    go_ret
    exact ⟨k,rfl,rfl,by rw [decide_eq_true (by omega),decide_eq_true (by rw [HX.out];exact gM hlt)]⟩
   ·have HX:=zH hx
    have hxx:(ByteArray.toList x == ByteArray.toList l[k]) = false:=by rw [beq_eq_false_iff_ne];rw [ByteArray.toList_eq,ByteArray.toList_eq];exact fun e=>hx (by cases hq:l[k];cases x;rw [hq] at e;simpa using e)
    clear hx
    go_wp2_with fail
    exact ⟨⟨k + 1,by omega,by go_num,ZbK hlt HP.out HX.out⟩,by simp [intOf];omega⟩
  ·go_wp2
   go_ret
   exact ⟨-1,rfl,rfl,by have hh:=HP.out;rw [List.take_of_length_le (by omega)] at hh;rw [dF hh];rfl⟩
theorem Yb (A:Option Addr) (c:Nat) (l:List BA) (x:BA) (w:World) (h:Lies w A (sbs l)) (hn:l.length <= 9223372036854775807) (r:Bool) (hr:Hid (decide (x ∈ l) = r)) :
  Calls Tryz.prog 141 #[.slice A l.length c,.string x] w fun e w'=>e = .returned (.bool r) /\ w = w':=by
 go_enter Tryz.func141,Tryz.ntmps141
 go_wp2_with fail
 refine (ZaO A c l x _ h hn).mono ?_
 rintro e w' ⟨r',rfl,rfl,hr'⟩
 have HR:=zH (hr'.trans hr.out)
 clear hr'
 go_wp2_with fail
 go_ret
 exact ⟨Js HR.out,rfl⟩
structure Fz (w:World) (x:Fr) (z:Int):Prop where
 ok:FrOk w x
 neg:x.neg = decide (z < 0)
 num:x.N = nd z.natAbs
 den:x.D = []
theorem Fz.boxed {w:World} {x:Fr} {z:Int} {k:Nat} (h:Fz w x z) (hb:Bx w k) (v0 v1 v2:Value):Fz (((w.setCell ⟨k,0,none⟩ v0).setCell ⟨k,1,none⟩ v1).setCell ⟨k,2,none⟩ v2) x z:=⟨h.ok.boxed hb v0 v1 v2,h.neg,h.num,h.den⟩
def ZhW (z:Int) (w:World) (e:Ending) (w':World):Prop:=∃ x:Fr,e = .returned x.val /\ Fz w' x z /\ Below w.heap.size w w'
theorem RetFr.fz {b:Bool} {n:Nat} {z:Int} {w w':World} {e:Ending} (h:RetFr b n 1 w e w') (hb:b = decide (z < 0)) (hn:n = z.natAbs):ZhW z w e w':=by
 obtain ⟨x,he,hx,h1,h2,h3,h4⟩:=h
 exact ⟨x,he,⟨hx,h1.trans hb,by rw [h2,hn],by rw [h3];rfl⟩,h4⟩
theorem Zgl (z:Int) (w:World) (h1 : -9223372036854775808 <= z) (h2:z <= 9223372036854775807):Calls Tryz.prog 18 #[.int .i64 z] w (ZhW z w):=by
 have b1:z.natAbs <= 9223372036854775808:=by omega
 have HL:Hid ((nd z.natAbs).length <= 1000000):=zH (tR (JK (k:=2) (by simp;omega)) (by decide))
 have HV:=zH (Jw z.natAbs)
 have HD:=zH (JF z.natAbs)
 have HS:=zH (fun W=>Qz z W h1 h2)
 have HE:Hid (decide (z < 0) && decide (z.natAbs ≠ 0)) = Hid (decide (z < 0)):=by
  by_cases h:z < 0
  ·have:z.natAbs ≠ 0:=by omega
   simp [h,this]
  ·simp [h]
 have HE':=zH HE
 have HB:Hid ((decide (z < 0) && decide (z.natAbs ≠ 0)) = decide (z < 0)):=zH (by
  by_cases h:z < 0
  ·have:z.natAbs ≠ 0:=by omega
   simp [h,this]
  ·simp [h])
 clear HE HE'
 go_enter Tryz.func18,Tryz.ntmps18
 go_wp2_with fail
 refine (HS.out _).mono ?_
 rintro e w' ⟨rfl,rfl⟩
 generalize hn:z.natAbs = n at *
 have HN:=zH hn
 clear hn
 go_wp2_with fail
 refine (Zs n _ (by omega)).mono ?_
 rintro e w1 ⟨A,c,rfl,hA,hc,hnil,hb⟩
 generalize hd:nd n = ds at *
 have HDS:=zH hd
 clear hd
 have hs1:w.heap.size < w1.heap.size:=by have:=hb.size;simp at this;omega
 have hb0:=zH (((Below.refl _ w).alloc nR _).trans (hb.mono (by simp)))
 have BX:=zH ((Bx.new w).below hb)
 have HM:=zH (Zaq (decide (z < 0)) A none c 0 ds [] w1 ⟨hA,HD.out,hc,hnil⟩ (Dg.none _) HL.out (by simp) n HV (zH (.inl rfl)))
 clear hb hA hnil
 go_wp2_with fail
 refine HM.out.mono ?_
 clear HM
 intro e w2 hR
 obtain ⟨x,rfl,hx,hb2⟩:=hR.fz HB.out HN.out.symm
 have BX2:=BX.out.below hb2
 obtain ⟨c0,c1,c2,f0,f1,f2⟩:=BX2.facts
 have HX:=zH hx
 have HB2:=zH (hb0.out.trans (hb2.mono hb0.out.size))
 have BXH:=zH BX2
 clear hx hb2 hR BX2 HB
 obtain ⟨xn,xA,xc,xN,xB,xd,xD⟩:=x
 go_wp2_with fail
 obtain ⟨e0,e1,e2⟩:=Zy (.bool xn) (.slice xA xN.length xc) (.slice xB xD.length xd) c0 c1 c2
 refine bodyPost_ret (v:=.agg #[.bool xn,.slice xA xN.length xc,.slice xB xD.length xd]) (by simp [results,Tryz.results18,go_sem,e0,e1,e2]) rfl ?_
 exact ⟨⟨xn,xA,xc,xN,xB,xd,xD⟩,rfl,HX.out.boxed BXH.out _ _ _,((HB2.out.setCell nR _).setCell nR _).setCell nR _⟩
end Go.Proofs.YtfbdihpllmhcnaaGreatDoor
