/- a region that draws its order: by what each slot holds once its operation has run -/
import Derived.Test.YtnflpnbpigcfhabGreatDoorMa
namespace Go
section
variable {P : Program} {ops : Array Oper} {Q : Exit → Act → World → Prop}

/-- each edge leads back -/
def Region.backB (ops : Array Oper) : Bool := (List.range ops.size).all fun i => match ops[i]? with
  | some o => o.after.all (fun e => decide (e.on < i))
  | none => false
/-- o waits for operation j -/
def Oper.waits (o : Oper) (j : Nat) : Bool := o.after.any fun e => Region.binds .any e && e.on == j
/-- no two operations write one slot, and all slots lie in the frame -/
def Region.dstB (ops : Array Oper) (N : Nat) : Bool := (List.range ops.size).all fun i => match ops[i]? with
  | some o => (match o.dst with
    | some d => decide (d < N) && (List.range ops.size).all fun j => j == i || (match ops[j]? with | some o' => o'.dst != some d | none => true)
    | none => true)
  | none => true
/-- slot k is written by no operation that does not wait for operation i -/
def Region.keptB (ops : Array Oper) (i k : Nat) : Bool := (List.range ops.size).all fun j => match ops[j]? with
  | some o => o.dst != some k || o.waits i
  | none => true
/-- slot k is written by no operation -/
def Region.freeB (ops : Array Oper) (k : Nat) : Bool := (List.range ops.size).all fun j => match ops[j]? with
  | some o => o.dst != some k
  | none => true
theorem Region.freeB_of {ops : Array Oper} {k : Nat} (h : Region.freeB ops k = true) (j : Nat) (o : Oper) (ho : ops[j]? = some o) : o.dst ≠ some k := by
  have := List.all_eq_true.1 h j (List.mem_range.2 (Array.getElem?_eq_some_iff.1 ho).1)
  simp only [ho] at this
  simpa using this
/-- what an operation has left -/
def Oper.left (o : Oper) (b : Act) : Value := match o.dst with
  | some d => b.tmps.getD d undef
  | none => undef
structure Sl (ops : Array Oper) (a : Act) (G : Nat → Value → World → Prop) (listed : Array Bool) (b : Act) (u : World) : Prop where
  size : b.tmps.size = a.tmps.size
  defers : b.defers = a.defers
  lsize : listed.size = ops.size
  closed : ∀ j o, ops[j]? = some o → listed.getD j false = true → ∀ k, o.waits k = true → listed.getD k false = true
  same : ∀ k, (∀ j o, ops[j]? = some o → o.dst = some k → listed.getD j false = false) → b.tmps.getD k undef = a.tmps.getD k undef
  slot : ∀ j o, ops[j]? = some o → listed.getD j false = true → G j (o.left b) u
theorem getD_set {l : Array Bool} {i j : Nat} : (l.setIfInBounds i true).getD j false = true ↔ (j = i ∧ i < l.size) ∨ l.getD j false = true := by
  rw [Array.getD_eq_getD_getElem?, Array.getD_eq_getD_getElem?, Array.getElem?_setIfInBounds]
  by_cases h : i = j
  · subst h
    by_cases hl : i < l.size
    · simp [hl]
    · simp [hl]
  · simp [h]
    intro e; exact absurd e.symm h
theorem getD_set_val {t : Array Value} {d k : Nat} {v : Value} (hd : d < t.size) : (t.setIfInBounds d v).getD k undef = if k = d then v else t.getD k undef := by
  rw [Array.getD_eq_getD_getElem?, Array.getD_eq_getD_getElem?, Array.getElem?_setIfInBounds]
  by_cases h : d = k
  · subst h; simp [hd]
  · rw [if_neg h, if_neg (fun e => h e.symm)]
theorem ready_mem {i : Nat} {o : Oper} {listed : Array Bool} (ho : ops[i]? = some o) : i ∈ Region.ready .any ops listed ↔ (i < ops.size ∧ listed.getD i true = false ∧ ∀ e ∈ o.after, Region.binds .any e = true → listed.getD e.on false = true) := by
  unfold Region.ready
  rw [List.mem_filter, List.mem_range]
  simp only [ho, Option.map_some, Option.getD_some, Bool.and_eq_true, Bool.not_eq_true', Array.all_eq_true', Bool.or_eq_true]
  constructor
  · rintro ⟨h1, h2, h3⟩
    refine ⟨h1, h2, fun e he hb => ?_⟩
    rcases h3 e he with h | h
    · rw [hb] at h; cases h
    · exact h
  · rintro ⟨h1, h2, h3⟩
    refine ⟨h1, h2, fun e he => ?_⟩
    by_cases hb : Region.binds .any e = true
    · exact .inr (h3 e he hb)
    · exact .inl (by simpa using hb)
theorem all_listed_of_ready (hB : Region.backB ops = true) {listed : Array Bool} (hl : listed.size = ops.size) (hr : Region.ready .any ops listed = []) : ∀ i, i < ops.size → listed.getD i false = true := by
  intro i
  induction i using Nat.strongRecOn with
  | ind i ih =>
    intro hi
    apply Decidable.byContradiction
    intro hne
    have ho : ops[i]? = some ops[i] := Array.getElem?_eq_getElem hi
    have hb : ∀ e ∈ ops[i].after, e.on < i := by
      have := List.all_eq_true.1 hB i (List.mem_range.2 hi)
      simp only [ho, Array.all_eq_true'] at this
      intro e he
      simpa using this e he
    have hm : i ∈ Region.ready .any ops listed := (ready_mem ho).2 ⟨hi, by
      rw [Array.getD_eq_getD_getElem?, Array.getElem?_eq_getElem (by omega)] at hne ⊢
      simpa using hne, fun e he _ => ih e.on (hb e he) (by have := hb e he; omega)⟩
    rw [hr] at hm
    cases hm
theorem dst_of {N : Nat} (hD : Region.dstB ops N = true) {i : Nat} {o : Oper} {d : Nat} (ho : ops[i]? = some o) (hd : o.dst = some d) : d < N ∧ ∀ j o', ops[j]? = some o' → o'.dst = some d → j = i := by
  have h := List.all_eq_true.1 hD i (List.mem_range.2 (Array.getElem?_eq_some_iff.1 ho).1)
  simp only [ho, hd, Bool.and_eq_true, decide_eq_true_eq] at h
  refine ⟨h.1, fun j o' ho' hd' => ?_⟩
  have h2 := List.all_eq_true.1 h.2 j (List.mem_range.2 (Array.getElem?_eq_some_iff.1 ho').1)
  simp only [ho', hd', Bool.or_eq_true, beq_iff_eq] at h2
  rcases h2 with h2 | h2
  · exact h2
  · simp at h2
theorem countP_set_true : ∀ (l : List Bool) (i : Nat), l[i]? = some false → (l.set i true).countP (· == false) + 1 = l.countP (· == false) := by
  intro l
  induction l with
  | nil => intro i h; simp at h
  | cons x l ih =>
    intro i h
    cases i with
    | zero => simp at h; subst h; simp
    | succ i =>
      have := ih i (by simpa using h)
      rw [List.set_cons_succ, List.countP_cons, List.countP_cons]
      omega
theorem hx0 {listed : Array Bool} {i : Nat} (hli : i < listed.size) (h : listed.getD i false = false) : listed.toList[i]? = some false := by
  rw [Array.getElem?_toList, Array.getElem?_eq_getElem hli]
  rw [Array.getD_eq_getD_getElem?, Array.getElem?_eq_getElem hli] at h
  simpa using h
/-- one step, whenever it comes up -/
def StepAt (P : Program) (ops : Array Oper) (Q : Exit → Act → World → Prop) (a : Act) (S : World → Prop) (T : World → World → Prop) (G : Nat → Value → World → Prop) (i : Nat) (o : Oper) : Prop :=
  ∀ (b : Act) (u : World), S u → (∀ j o', ops[j]? = some o' → o.waits j = true → G j (o'.left b) u) → (∀ k, Region.keptB ops i k = true → b.tmps.getD k undef = a.tmps.getD k undef) →
    ∀ K : Act → World → Prop, (∀ v u', S u' → T u u' → G i (if o.dst.isSome then v else undef) u' → K (b.put o.dst v) u') → if Region.wanted o (yielded ops b.tmps) = true then o.wp P b u K Q else K (b.put o.dst undef) u
/-- all steps from one on -/
def StepsFrom (P : Program) (ops : Array Oper) (Q : Exit → Act → World → Prop) (a : Act) (S : World → Prop) (T : World → World → Prop) (G : Nat → Value → World → Prop) : List Oper → Nat → Prop
  | [], _ => True
  | o :: l, i => StepAt P ops Q a S T G i o ∧ StepsFrom P ops Q a S T G l (i + 1)
theorem steps_get {a : Act} {S : World → Prop} {T : World → World → Prop} {G : Nat → Value → World → Prop} : ∀ (l : List Oper) (i : Nat), StepsFrom P ops Q a S T G l i → ∀ k o, l[k]? = some o → StepAt P ops Q a S T G (i + k) o := by
  intro l
  induction l with
  | nil => intro i _ k o h; simp at h
  | cons x l ih =>
    intro i h k o hk
    cases k with
    | zero => simp at hk; subst hk; exact h.1
    | succ k =>
      have := ih (i + 1) h.2 k o (by simpa using hk)
      rwa [show i + 1 + k = i + (k + 1) by omega] at this
theorem wpAny_slots {a : Act} (N : Nat) (hN : a.tmps.size = N) (hB : Region.backB ops = true) (hD : Region.dstB ops N = true) (S : World → Prop) (T : World → World → Prop) (G : Nat → Value → World → Prop)
    (hG : ∀ j v w w', G j v w → T w w' → G j v w') (hs : StepsFrom P ops Q a S T G ops.toList 0)
    (hend : ∀ b u, b.tmps.size = N → b.defers = a.defers → S u → (∀ j o, ops[j]? = some o → G j (o.left b) u) → (∀ k, Region.freeB ops k = true → b.tmps.getD k undef = a.tmps.getD k undef) → Q .normal b u) :
    ∀ (f : Nat) (listed : Array Bool) (b : Act) (u : World), S u → Sl ops a G listed b u → (f = 0 → Region.ready .any ops listed = []) → (listed.toList.countP (· == false) ≤ f) → wpAny P .any ops Q f listed b u := by
  have fin : ∀ (listed : Array Bool) (b : Act) (u : World), S u → Sl ops a G listed b u → Region.ready .any ops listed = [] → Q .normal b u := by
    intro listed b u hS hSl hr
    have hall := all_listed_of_ready hB hSl.lsize hr
    refine hend b u (hSl.size.trans hN) hSl.defers hS (fun j o ho => hSl.slot j o ho (hall j (Array.getElem?_eq_some_iff.1 ho).1)) (fun k hk => hSl.same k fun j o ho hd => absurd hd (Region.freeB_of hk j o ho))
  intro f
  induction f with
  | zero => intro listed b u hS hSl h0 _; exact ⟨h0 rfl, fin listed b u hS hSl (h0 rfl)⟩
  | succ f ih =>
    intro listed b u hS hSl _ hc
    refine ⟨fin listed b u hS hSl, fun i hi => ?_⟩
    have hlt : i < ops.size := by
      unfold Region.ready at hi
      exact List.mem_range.1 (List.mem_filter.1 hi).1
    have ho : ops[i]? = some ops[i] := Array.getElem?_eq_getElem hlt
    generalize ops[i] = o at ho
    obtain ⟨_, hun, hdep⟩ := (ready_mem ho).1 hi
    have hli : i < listed.size := by rw [hSl.lsize]; exact hlt
    have hunf : listed.getD i false = false := by
      rw [Array.getD_eq_getD_getElem?, Array.getElem?_eq_getElem hli] at hun ⊢
      simpa using hun
    have hdep' : ∀ j, o.waits j = true → listed.getD j false = true := by
      intro j hj
      obtain ⟨e, he, hb⟩ := Array.any_eq_true'.1 hj
      simp only [Bool.and_eq_true, beq_iff_eq] at hb
      rw [← hb.2]
      exact hdep e he hb.1
    have step := steps_get _ _ hs i o (by rw [Array.getElem?_toList]; exact ho)
    rw [Nat.zero_add] at step
    refine wpOp_step ho (fun K hK => ?_)
    refine step b u hS (fun j o' ho' hw => hSl.slot j o' ho' (hdep' j hw)) (fun k hk => hSl.same k fun j o' ho' hd' => ?_) K (fun v u' hS' hT' hG' => ?_)
    · have h := List.all_eq_true.1 hk j (List.mem_range.2 (Array.getElem?_eq_some_iff.1 ho').1)
      simp only [ho', hd', Bool.or_eq_true] at h
      rcases h with h | h
      · simp at h
      · cases hlj : listed.getD j false with
        | false => rfl
        | true => have := hSl.closed j o' ho' hlj i h; rw [hunf] at this; cases this
    · refine hK _ _ (ih _ _ _ hS' ?_ ?_ ?_)
      · have hput : ∀ d, o.dst = some d → d < b.tmps.size := fun d hd => by rw [hSl.size, hN]; exact (dst_of hD ho hd).1
        refine ⟨?_, ?_, by simp [hSl.lsize], ?_, ?_, ?_⟩
        · unfold Act.put; cases o.dst <;> simp [hSl.size]
        · unfold Act.put; cases o.dst <;> simp [hSl.defers]
        · intro j o' ho' hl k hw
          rw [getD_set] at hl ⊢
          rcases hl with ⟨rfl, _⟩ | hl
          · rw [ho] at ho'; cases ho'; exact .inr (hdep' k hw)
          · exact .inr (hSl.closed j o' ho' hl k hw)
        · intro k hk
          have h1 : listed.getD i false = false := hunf
          have hne : o.dst ≠ some k := fun hd => by
            have := hk i o ho hd
            have h2 : (listed.setIfInBounds i true).getD i false = true := getD_set.2 (.inl ⟨rfl, hli⟩)
            rw [h2] at this; cases this
          have h3 := hSl.same k fun j o' ho' hd' => by
            have := hk j o' ho' hd'
            cases hlj : listed.getD j false with
            | false => rfl
            | true => rw [getD_set.2 (.inr hlj)] at this; cases this
          rw [← h3]
          unfold Act.put
          cases hdd : o.dst with
          | none => rfl
          | some d =>
            simp only
            rw [getD_set_val (hput d hdd), if_neg (fun e => hne (by rw [hdd, e]))]
        · intro j o' ho' hl
          rw [getD_set] at hl
          by_cases hji : j = i
          · subst hji
            rw [ho] at ho'
            cases ho'
            unfold Oper.left Act.put
            cases hdd : o.dst with
            | none => rw [hdd] at hG'; simpa using hG'
            | some d =>
              rw [hdd] at hG'
              simp only
              rw [getD_set_val (hput d hdd), if_pos rfl]
              simpa using hG'
          · have hl' : listed.getD j false = true := by
              rcases hl with ⟨e, _⟩ | hl
              · exact absurd e hji
              · exact hl
            have hold := hG _ _ _ _ (hSl.slot j o' ho' hl') hT'
            have e : o'.left (b.put o.dst v) = o'.left b := by
              unfold Oper.left Act.put
              cases hdd' : o'.dst with
              | none => rfl
              | some d' =>
                cases hdd : o.dst with
                | none => rfl
                | some d =>
                  simp only
                  rw [getD_set_val (hput d hdd), if_neg]
                  intro e2
                  subst e2
                  exact hji ((dst_of hD ho hdd).2 j o' ho' hdd')
            rw [e]
            exact hold
      · intro hf
        subst hf
        have hz : (listed.setIfInBounds i true).toList.countP (· == false) = 0 := by
          have := countP_set_true listed.toList i (hx0 hli hunf)
          rw [Array.toList_setIfInBounds]
          omega
        rw [List.countP_eq_zero] at hz
        unfold Region.ready
        rw [List.filter_eq_nil_iff]
        intro j hj
        rw [List.mem_range] at hj
        have hjl : j < (listed.setIfInBounds i true).size := by simp [hSl.lsize]; exact hj
        have := hz ((listed.setIfInBounds i true)[j]) (Array.mem_toList_iff.2 (Array.getElem_mem hjl))
        rw [Array.getD_eq_getD_getElem?, Array.getElem?_eq_getElem hjl]
        simp only [Option.getD_some]
        cases hv : (listed.setIfInBounds i true)[j] with
        | true => simp
        | false => rw [hv] at this; exact absurd rfl this
      · have := countP_set_true listed.toList i (hx0 hli hunf)
        rw [Array.toList_setIfInBounds]
        omega
/-- the region as a whole -/
theorem wp_region_slots {id : Nat} {a : Act} {w : World} (N : Nat) (hN : a.tmps.size = N) (hm : P.follows .mixedOrders = true) (hB : Region.backB ops = true) (hD : Region.dstB ops N = true) (S : World → Prop) (T : World → World → Prop) (G : Nat → Value → World → Prop)
    (hG : ∀ j v w w', G j v w → T w w' → G j v w') (hS : S w.drew) (hs : StepsFrom P ops Q a S T G ops.toList 0)
    (hend : ∀ b u, b.tmps.size = N → b.defers = a.defers → S u → (∀ j o, ops[j]? = some o → G j (o.left b) u) → (∀ k, Region.freeB ops k = true → b.tmps.getD k undef = a.tmps.getD k undef) → Q .normal b u) : (Code.region id ops true).wp P Q a w := by
  refine wp_region_any hm ?_
  refine wpAny_slots N hN hB hD S T G hG hs hend _ _ _ _ hS ⟨rfl, rfl, by simp, ?_, fun _ _ => rfl, ?_⟩ ?_ ?_
  · intro j o ho hl
    rw [Array.getD_eq_getD_getElem?, Array.getElem?_replicate] at hl
    split at hl <;> simp at hl
  · intro j o ho hl
    rw [Array.getD_eq_getD_getElem?, Array.getElem?_replicate] at hl
    split at hl <;> simp at hl
  · intro h0
    unfold Region.ready
    rw [h0]; rfl
  · simp only [Array.toList_replicate, List.countP_replicate]
    split <;> omega
/-- the same where the last operation waits for all others -/
theorem wp_region_slots_pop {id : Nat} {a : Act} {w : World} (n N : Nat) (hN : a.tmps.size = N) (hm : P.follows .mixedOrders = true) (hP : Region.popB .any ops n = true) (hB : Region.backB ops.pop = true) (hD : Region.dstB ops.pop N = true) (S : World → Prop) (T : World → World → Prop) (G : Nat → Value → World → Prop)
    (hG : ∀ j v w w', G j v w → T w w' → G j v w') (hS : S w.drew) (hs : StepsFrom P ops.pop (PopQ P ops n Q) a S T G ops.pop.toList 0)
    (hend : ∀ b u, b.tmps.size = N → b.defers = a.defers → S u → (∀ j o, ops.pop[j]? = some o → G j (o.left b) u) → (∀ k, Region.freeB ops.pop k = true → b.tmps.getD k undef = a.tmps.getD k undef) → PopQ P ops n Q .normal b u) : (Code.region id ops true).wp P Q a w := by
  have hs' := Region.popB_size hP
  have hsz : ops.pop.size = n := by simp [hs']
  refine wp_region_any hm ?_
  have key := wpAny_slots (P := P) (ops := ops.pop) (Q := PopQ P ops n Q) (a := a) N hN hB hD S T G hG hs hend n (Array.replicate n false) a w.drew hS ⟨rfl, rfl, by simp [hs'], ?_, fun _ _ => rfl, ?_⟩ ?_ ?_
  · have := wpAny_pop hP n (Array.replicate n false) a w.drew (by simp) key
    rw [hs', show (Array.replicate (n + 1) false) = (Array.replicate n false).push false from Array.replicate_succ]
    exact this
  · intro j o ho hl
    rw [Array.getD_eq_getD_getElem?, Array.getElem?_replicate] at hl
    split at hl <;> simp at hl
  · intro j o ho hl
    rw [Array.getD_eq_getD_getElem?, Array.getElem?_replicate] at hl
    split at hl <;> simp at hl
  · intro h0
    unfold Region.ready
    rw [hsz, h0]; rfl
  · simp only [Array.toList_replicate, List.countP_replicate]
    split <;> omega
theorem frame_lit (b : Act) (N : Nat) (h : b.tmps.size = N) : b = ⟨((List.range N).map fun k => b.tmps.getD k undef).toArray, b.defers⟩ := by
  obtain ⟨t, d⟩ := b
  simp only at h ⊢
  congr
  apply Array.ext
  · simp [h]
  · intro i h1 h2
    simp [Array.getD_eq_getD_getElem?, Array.getElem?_eq_getElem h1]
end
end Go
