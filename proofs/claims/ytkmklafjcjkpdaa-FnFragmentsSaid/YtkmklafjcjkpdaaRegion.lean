/- A rule for regions that draw their order: each operation of the head leaves a value and a world that extends the old one; what is known of each value is kept when the world grows; the operations behind the head wait for all of it. Then one walk serves every order. -/
import Derived.Orders
import Derived.StillTail
import Derived.Below
import Derived.Deep.Draws
namespace Go.Proofs.Ytkmklafjcjkpdaa
open Go.RowKit
set_option linter.unusedVariables false
set_option linter.unusedSimpArgs false

/-- The world grows: whatever was there is as it was. -/
def Ext (w w' : World) : Prop := Below w.heap.size w w'
theorem Ext.refl (w : World) : Ext w w := Below.refl _ _
theorem Ext.trans {a b c : World} (h : Ext a b) (k : Ext b c) : Ext a c := Below.trans h (Below.mono k h.size)
theorem Ext.drew {a w : World} (h : Ext a w) : Ext a w.drew := Below.drew h

section
variable {P : Program} {ops : Array Oper} {md : Region.Mode}

def growUpon (P : Program) (T : Value → World → Prop) (w : World) : Result Next → Prop
  | .ok (.value v) w' => Ext w w' ∧ T v w'
  | .ok .skip w' => Ext w w' ∧ T undef w'
  | .ok (.enter f args) w' => Calls P f args w' (fun e w'' => ∃ v, e = .returned v ∧ Ext w w'' ∧ T v w'')
  | _ => False

def growAt (P : Program) (o : Oper) (a : Act) (w : World) (T : Value → World → Prop) : Prop := growUpon P T w ((execOp a.eval o).run P w)

def growOp (P : Program) (ops : Array Oper) (o : Oper) (a : Act) (w : World) (T : Value → World → Prop) : Prop :=
  if Region.wanted o (yielded ops a.tmps) then growAt P o a w T else T undef w

theorem wp_of_grow {i : Nat} {o : Oper} {a : Act} {w : World} {T : Value → World → Prop} {K : Act → World → Prop} {Q : Exit → Act → World → Prop} (hi : ops[i]? = some o)
    (h : growOp P ops o a w T) (hK : ∀ v w', Ext w w' → T v w' → K (a.put o.dst v) w') : wpOp P ops Q i K a w := by
  unfold wpOp
  simp only [hi]
  unfold growOp at h
  split
  · rename_i hw
    simp only [hw, if_true] at h
    refine .inl ?_
    unfold growAt at h
    unfold Oper.wp
    generalize (execOp a.eval o).run P w = r at *
    cases r with
    | ok n w' =>
      cases n <;> simp only [growUpon] at h <;> simp only [Oper.upon]
      case value v => exact hK _ _ h.1 h.2
      case skip => exact hK _ _ h.1 h.2
      case enter f args =>
        refine h.mono fun e w'' he => ?_
        obtain ⟨v, rfl, h1, h2⟩ := he
        exact hK _ _ h1 h2
    | halt x w' => simp only [growUpon] at h
  · rename_i hw
    simp only [hw] at h
    exact hK _ _ (Ext.refl _) h

/-- The frame with the values of the head's operations in their slots. -/
def putAll : List Oper → Nat → (Nat → Value) → Act → Act
  | [], _, _, a => a
  | o :: l, k, vs, a => putAll l (k + 1) vs (a.put o.dst (vs k))

def slotOf (ops : Array Oper) (i : Nat) : Option Tmp := (ops[i]?).bind (·.dst)

theorem put_tmps_other {a : Act} {d : Option Tmp} {v : Value} {t : Nat} (h : d ≠ some t) : (a.put d v).tmps[t]? = a.tmps[t]? := by
  cases d with
  | none => rfl
  | some d =>
    have : d ≠ t := fun e => h (by rw [e])
    simp [Act.put, Array.getElem?_setIfInBounds_ne this]
theorem put_tmps_same {a : Act} {t : Nat} {v : Value} (h : t < a.tmps.size) : (a.put (some t) v).tmps[t]? = some v := by
  simp [Act.put, Array.getElem?_setIfInBounds, h]
theorem put_size {a : Act} {d : Option Tmp} {v : Value} : (a.put d v).tmps.size = a.tmps.size := by
  cases d <;> simp [Act.put]
theorem put_defers {a : Act} {d : Option Tmp} {v : Value} : (a.put d v).defers = a.defers := by
  cases d <;> rfl

/-- What a frame holds when just the operations of 'L' have been carried out. -/
structure Holds (ops : Array Oper) (n : Nat) (a : Act) (L : Nat → Prop) (vs : Nat → Value) (a' : Act) : Prop where
  defers : a'.defers = a.defers
  size : a'.tmps.size = a.tmps.size
  got : ∀ i, i < n → L i → ∀ t, slotOf ops i = some t → t < a.tmps.size → a'.tmps[t]? = some (vs i)
  rest : ∀ t, (∀ i, i < n → L i → slotOf ops i ≠ some t) → a'.tmps[t]? = a.tmps[t]?

theorem Holds.start (ops : Array Oper) (n : Nat) (a : Act) (vs : Nat → Value) : Holds ops n a (fun _ => False) vs a :=
  ⟨rfl, rfl, fun _ _ h => h.elim, fun _ _ => rfl⟩

def distinctB (ops : Array Oper) (n : Nat) : Bool :=
  (List.range n).all fun i => (List.range n).all fun j => i == j || (slotOf ops i).isNone || slotOf ops i != slotOf ops j

theorem distinctB_spec {n : Nat} (h : distinctB ops n = true) {i j : Nat} (hi : i < n) (hj : j < n) {t : Tmp} (h1 : slotOf ops i = some t) (h2 : slotOf ops j = some t) : i = j := by
  have h3 := List.all_eq_true.1 (List.all_eq_true.1 h i (List.mem_range.2 hi)) j (List.mem_range.2 hj)
  simp [h1, h2] at h3
  exact h3

theorem Holds.step {n : Nat} (hd : distinctB ops n = true) {a a' : Act} {L : Nat → Prop} {vs : Nat → Value} (h : Holds ops n a L vs a') {i : Nat} (hi : i < n) (hL : ¬ L i) (v : Value) :
    Holds ops n a (fun j => L j ∨ j = i) (fun j => if j = i then v else vs j) (a'.put (slotOf ops i) v) := by
  refine ⟨put_defers.trans h.defers, put_size.trans h.size, ?_, ?_⟩
  · intro j hj hLj t ht hlt
    by_cases hji : j = i
    · subst hji
      rw [ht, put_tmps_same (by rw [h.size]; exact hlt)]
      simp
    · have hne : slotOf ops i ≠ some t := fun e => hji (distinctB_spec hd hj hi ht e)
      rw [put_tmps_other hne]
      simp only [hji, if_false]
      exact h.got j hj (hLj.resolve_right hji) t ht hlt
  · intro t ht
    have hne : slotOf ops i ≠ some t := ht i hi (.inr rfl)
    rw [put_tmps_other hne]
    exact h.rest t fun j hj hLj => ht j hj (.inl hLj)

/-- Two frames that hold the same for every head operation are one. -/
theorem Holds.unique {n : Nat} {a a' a'' : Act} {L : Nat → Prop} {vs : Nat → Value} (h : Holds ops n a L vs a') (k : Holds ops n a L vs a'') : a' = a'' := by
  obtain ⟨t', d'⟩ := a'
  obtain ⟨t'', d''⟩ := a''
  have h1 : d' = d'' := h.defers.trans k.defers.symm
  have h2 : t' = t'' := by
    refine Array.ext_getElem? fun t => ?_
    by_cases hc : ∃ i, i < n ∧ L i ∧ slotOf ops i = some t
    · obtain ⟨i, hi, hL, ht⟩ := hc
      by_cases hlt : t < a.tmps.size
      · exact (h.got i hi hL t ht hlt).trans (k.got i hi hL t ht hlt).symm
      · have e1 := h.size
        have e2 := k.size
        simp only at e1 e2
        rw [Array.getElem?_eq_none (by omega), Array.getElem?_eq_none (by omega)]
    · have hn : ∀ i, i < n → L i → slotOf ops i ≠ some t := fun i hi hL ht => hc ⟨i, hi, hL, ht⟩
      exact (h.rest t hn).trans (k.rest t hn).symm
  rw [h1, h2]

theorem Holds.congr {n : Nat} {a a' : Act} {L L' : Nat → Prop} {vs vs' : Nat → Value} (h : Holds ops n a L vs a') (hL : ∀ i, i < n → (L i ↔ L' i)) (hv : ∀ i, i < n → L i → vs i = vs' i) : Holds ops n a L' vs' a' :=
  ⟨h.defers, h.size, fun i hi hLi t ht hlt => by rw [h.got i hi ((hL i hi).2 hLi) t ht hlt, hv i hi ((hL i hi).2 hLi)],
    fun t ht => h.rest t fun i hi hLi => ht i hi ((hL i hi).1 hLi)⟩

theorem putAll_holds {n : Nat} (hd : distinctB ops n = true) (a : Act) (vs : Nat → Value) : ∀ (l : List Oper) (k : Nat) (a' : Act), (∀ j, j < l.length → ops[k + j]? = l[j]?) → k + l.length = n →
    Holds ops n a (fun i => i < k) vs a' → Holds ops n a (fun i => i < n) vs (putAll l k vs a')
  | [], k, a', _, hk, h => by
    have : k = n := by simpa using hk
    subst this
    exact h
  | o :: l, k, a', hl, hk, h => by
    have h0 : ops[k]? = some o := by simpa using hl 0 (by simp)
    have hkn : k < n := by simp only [List.length_cons] at hk; omega
    have h1 := Holds.step hd h hkn (by omega) (vs k)
    have hs : slotOf ops k = o.dst := by simp [slotOf, h0]
    rw [hs] at h1
    refine putAll_holds hd a vs l (k + 1) _ (fun j hj => ?_) (by simp only [List.length_cons] at hk; omega) (h1.congr (fun i _ => by constructor <;> intro h <;> omega) (fun i _ _ => by split <;> simp_all))
    have := hl (j + 1) (by simp; omega)
    simpa [Nat.add_assoc, Nat.add_comm 1 j] using this

/-- The head's operations on which operation 'i' waits. -/
def depsOf (ops : Array Oper) (i : Nat) : List Nat := (List.range ops.size).filter fun j => Region.waitsFor .any ops i j

def looksB (ops : Array Oper) (n : Nat) : Bool :=
  (List.range n).all fun i => match ops[i]? with
    | some o => (List.range n).all fun j => match slotOf ops j with
      | some t => !(o.looksAt ops).contains t || Region.waitsFor .any ops i j
      | none => true
    | none => true

def doneArr (ops : Array Oper) (n : Nat) : Array Bool := (Array.range ops.size).map fun j => decide (j < n)
def sinkAllB (ops : Array Oper) (n : Nat) : Bool :=
  (n == ops.size || (List.range n).all fun i => Region.waitsFor .any ops n i || (List.range n).any fun j => decide (i < j) && Region.waitsFor .any ops j i) && Region.chainB .any ops n && Region.seqB .any ops (ops.size - n) n (doneArr ops n)

def orderB (ops : Array Oper) (n : Nat) : Bool :=
  (List.range n).all fun i => match ops[i]? with
    | some o => o.after.all fun e => !Region.binds .any e || decide (e.on < i)
    | none => true

def growB (ops : Array Oper) (n : Nat) : Bool :=
  Region.noSelect ops && decide (n ≤ ops.size) && distinctB ops n && looksB ops n && sinkAllB ops n && orderB ops n

theorem waits_lt {ops : Array Oper} {n : Nat} (h : orderB ops n = true) {i j : Nat} (hi : i < n) (hw : Region.waitsFor .any ops i j = true) : j < i := by
  obtain ⟨o, ho, e, he, hb, hon⟩ := Region.waitsFor_spec hw
  have h1 := List.all_eq_true.1 h i (List.mem_range.2 hi)
  simp only [ho] at h1
  have h2 := Array.all_eq_true_iff_forall_mem.1 h1 e he
  simp only [hb, Bool.not_true, Bool.false_or, decide_eq_true_eq] at h2
  omega

theorem least {p : Nat → Prop} : ∀ n, p n → ∃ u, u ≤ n ∧ p u ∧ ∀ v, v < u → ¬ p v := by
  intro n
  induction n using Nat.strongRecOn with
  | _ n ih =>
    intro h
    by_cases hx : ∃ v, v < n ∧ p v
    · obtain ⟨v, hv, hp⟩ := hx
      obtain ⟨u, hu, h1, h2⟩ := ih v hv hp
      exact ⟨u, by omega, h1, h2⟩
    · exact ⟨n, Nat.le_refl _, h, fun v hv hp => hx ⟨v, hv, hp⟩⟩

/-- Two frames that agree on what the operation looks at. -/
theorem growOp_congr {o : Oper} (hs : ∀ cs b, o.op ≠ .select cs b) {a a' : Act} {w : World} {T : Value → World → Prop} (h : ∀ t : Nat, t ∈ o.looksAt ops → a'.tmps[t]? = a.tmps[t]?) (hh : growOp P ops o a w T) :
    growOp P ops o a' w T := by
  have he : execOp a'.eval o = execOp a.eval o := execOp_congr o hs fun x hx => by
    cases x with
    | tmp t =>
      have ht : t ∈ o.looksAt ops := List.mem_append_left _ (List.mem_filterMap.2 ⟨.tmp t, by simpa using hx, rfl⟩)
      simp [Act.eval, Array.getD_eq_getD_getElem?, h t ht]
    | _ => rfl
  have hw : Region.wanted o (yielded ops a'.tmps) = Region.wanted o (yielded ops a.tmps) := by
    unfold Region.wanted
    cases hg : o.guard with
    | none => rfl
    | some gw =>
      obtain ⟨g, want⟩ := gw
      have hy : yielded ops a'.tmps g = yielded ops a.tmps g := by
        unfold yielded
        cases ht : (ops[g]?).bind (·.dst) with
        | none => rfl
        | some t =>
          have := h t (by simp [Oper.looksAt, hg, ht])
          simp [this]
      simp only [hy]
  unfold growOp growAt at *
  rw [hw, he]
  exact hh

def cnt (n : Nat) (listed : Array Bool) : Nat := (List.range n).countP fun j => listed.getD j false

theorem cnt_set {listed : Array Bool} {i : Nat} (hs : i < listed.size) (h : listed.getD i false = false) : ∀ n, cnt n (listed.setIfInBounds i true) = cnt n listed + if i < n then 1 else 0 := by
  intro n
  induction n with
  | zero => simp [cnt]
  | succ n ih =>
    unfold cnt at *
    rw [List.range_succ, List.countP_append, List.countP_append, ih]
    by_cases hin : i = n
    · subst hin
      have : (listed.setIfInBounds i true).getD i false = true := by simp [Array.getElem?_setIfInBounds, hs]
      simp only [List.countP_cons, List.countP_nil, this, h]
      simp
    · have e := getD_set_ne (listed := listed) (i := i) (j := n) false hin
      simp only [List.countP_cons, List.countP_nil, e]
      by_cases hlt : i < n
      · simp only [hlt, if_true, show i < n + 1 by omega]; omega
      · simp only [hlt, if_false, show ¬ i < n + 1 by omega]; omega

theorem waits_of {i : Nat} {o : Oper} (hi : ops[i]? = some o) {j : Nat} (h : Region.waitsFor .any ops i j = true) : ∃ e ∈ o.after, Region.binds .any e = true ∧ e.on = j := by
  obtain ⟨o', ho', e, he, hb, hon⟩ := Region.waitsFor_spec h
  have : o' = o := Option.some.inj (ho'.symm.trans hi)
  subst this
  exact ⟨e, he, hb, hon⟩

theorem cnt_all {n : Nat} {listed : Array Bool} (h : cnt n listed = n) : ∀ j, j < n → listed.getD j false = true := by
  intro j hj
  have h1 : (List.range n).countP (fun j => listed.getD j false) = (List.range n).length := by simpa [cnt] using h
  exact List.countP_eq_length.1 h1 j (List.mem_range.2 hj)

theorem cnt_le (n : Nat) (listed : Array Bool) : cnt n listed ≤ n := by
  have := List.countP_le_length (p := fun j => listed.getD j false) (l := List.range n)
  simpa [cnt] using this

theorem wpAny_grow {n : Nat} {a : Act} {w0 : World} {Q : Exit → Act → World → Prop} {l : List Oper} (hl : ops = l.toArray) (T : Nat → Value → World → Prop) (hB : growB ops n = true)
    (hst : ∀ i v w w', i < n → Ext w w' → T i v w → T i v w')
    (hstep : ∀ i o, ops[i]? = some o → i < n → ∀ (vs : Nat → Value) w, Ext w0 w → (∀ j, j ∈ depsOf ops i → j < n → T j (vs j) w) → growOp P ops o (putAll (l.take n) 0 vs a) w (T i))
    (htail : ∀ vs w, Ext w0 w → (∀ j, j < n → T j (vs j) w) → wpList P ops Q (l.drop n) (putAll (l.take n) 0 vs a) w) :
    ∀ (m fuel : Nat) (listed : Array Bool) (a' : Act) (w : World) (vs : Nat → Value), m = n - cnt n listed → fuel = ops.size - cnt n listed → listed.size = ops.size →
      (∀ t, n ≤ t → t < ops.size → listed.getD t false = false) → Ext w0 w → Holds ops n a (fun i => listed.getD i false = true) vs a' →
      (∀ j, j < n → listed.getD j false = true → T j (vs j) w) → (∀ j i, j < n → listed.getD j false = true → Region.waitsFor .any ops j i = true → listed.getD i false = true) → wpAny P .any ops Q fuel listed a' w := by
  simp only [growB, Bool.and_eq_true, decide_eq_true_eq] at hB
  obtain ⟨⟨⟨⟨⟨hsel, hn⟩, hdis⟩, hlook⟩, hsink⟩, hord⟩ := hB
  simp only [sinkAllB, Bool.and_eq_true, Bool.or_eq_true, beq_iff_eq] at hsink
  obtain ⟨⟨hsink, hchain⟩, hseq⟩ := hsink
  have hfull : ∀ vs, Holds ops n a (fun i => i < n) vs (putAll (l.take n) 0 vs a) := fun vs => by
    refine putAll_holds hdis a vs (l.take n) 0 a (fun j hj => ?_) ?_ ((Holds.start ops n a vs).congr (fun i _ => by simp) (fun i _ h => h.elim))
    · have : j < n := by simp at hj; omega
      subst hl
      simp [this]
    · subst hl
      simp at hn ⊢
      omega
  intro m
  induction m with
  | zero =>
    intro fuel listed a' w vs hm hf hsz htl hE hH hT hdc
    have hc : cnt n listed = n := by have := cnt_le n listed; omega
    have hall := cnt_all hc
    have hlisted : listed = doneArr ops n := by
      refine Array.ext (by simp [doneArr, hsz]) fun j h1 h2 => ?_
      have hj : j < ops.size := by omega
      by_cases hjn : j < n
      · have := hall j hjn
        simp [h1] at this
        simp [doneArr, hjn, this]
      · have := htl j (by omega) hj
        simp [h1] at this
        simp [doneArr, hjn, this]
    have ha : a' = putAll (l.take n) 0 vs a := (hH.congr (L' := fun i => i < n) (fun i hi => by simp [hall i hi, hi]) (fun _ _ _ => rfl)).unique (hfull vs)
    subst ha
    have hlen : (l.drop n).length = ops.size - n := by subst hl; simp
    rw [hf, hc, ← hlen, hlisted]
    refine wpAny_of_seq (l.drop n) n _ _ w (fun j => ?_) (by rw [hlen]; exact hseq) (htail vs w hE fun j hj => hT j hj (hall j hj))
    subst hl
    simp [List.getElem?_drop]
  | succ m ih =>
    intro fuel listed a' w vs hm hf hsz htl hE hH hT hdc
    have hc : cnt n listed < n := by omega
    obtain ⟨fuel', hf'⟩ : ∃ f, fuel = f + 1 := ⟨fuel - 1, by omega⟩
    -- some head operation is not listed
    obtain ⟨u, hun, huf⟩ : ∃ u, u < n ∧ listed.getD u false = false := by
      by_cases hx : ∃ u, u < n ∧ listed.getD u false = false
      · exact hx
      · exfalso
        have : cnt n listed = n := by
          have h1 : (List.range n).countP (fun j => listed.getD j false) = (List.range n).length := by
            refine List.countP_eq_length.2 fun j hj => ?_
            have hj' := List.mem_range.1 hj
            cases hv : listed.getD j false with
            | true => rfl
            | false => exact absurd ⟨j, hj', hv⟩ hx
          simpa [cnt] using h1
        omega
    have hready : ∀ i, i ∈ Region.ready .any ops listed → i < n := by
      intro i hi
      rcases Nat.lt_or_ge i n with h | h
      · exact h
      · exfalso
        obtain ⟨hi0, o, ho, hall⟩ := mem_ready.1 hi
        have hilt : i < ops.size := (Array.getElem?_eq_some_iff.1 ho).1
        by_cases hin : i = n
        · subst hin
          rcases hsink with h1 | h1
          · omega
          · have hlst : ∀ t u, u < i → i - u ≤ t → listed.getD u false = true := by
              intro t
              induction t with
              | zero => intro u hu ht; omega
              | succ t iht =>
                intro u hu ht
                have h2 := List.all_eq_true.1 h1 u (List.mem_range.2 hu)
                simp only [Bool.or_eq_true] at h2
                rcases h2 with h2 | h2
                · obtain ⟨e, he, hb, hon⟩ := waits_of ho h2
                  rw [← hon]
                  exact hall e he hb
                · obtain ⟨j, hj, hj2⟩ := List.any_eq_true.1 h2
                  simp only [Bool.and_eq_true, decide_eq_true_eq] at hj2
                  have hjn := List.mem_range.1 hj
                  exact hdc j u hjn (iht j hjn (by omega)) hj2.2
            have := hlst i u hun (by omega)
            rw [huf] at this
            cases this
        · have h1 := List.all_eq_true.1 hchain i (List.mem_range.2 hilt)
          simp only [Bool.or_eq_true, decide_eq_true_eq] at h1
          obtain ⟨e, he, hb, hon⟩ := waits_of ho (h1.resolve_left (by omega))
          have := hall e he hb
          rw [hon, htl (i - 1) (by omega) (by omega)] at this
          cases this
    subst hf'
    refine ⟨fun h0 => ?_, fun i hi => ?_⟩
    · -- there is always one that may come up: the lexical order is one of the orders
      exfalso
      obtain ⟨x, hxu, hxf, hxm⟩ := least (p := fun u => listed.getD u false = false) u huf
      have hxs : x < ops.size := by omega
      have hx : ops[x]? = some ops[x] := Array.getElem?_eq_getElem hxs
      have hmem : x ∈ Region.ready .any ops listed := by
        refine mem_ready.2 ⟨getD_in (by omega) hxf, _, hx, fun e he hb => ?_⟩
        have h1 := List.all_eq_true.1 hord x (List.mem_range.2 (by omega))
        simp only [hx] at h1
        have h2 := Array.all_eq_true_iff_forall_mem.1 h1 e he
        simp only [hb, Bool.not_true, Bool.false_or, decide_eq_true_eq] at h2
        have h3 := hxm e.on h2
        simpa using h3
      rw [h0] at hmem
      cases hmem
    · have hin := hready i hi
      obtain ⟨hi0, o, ho, hall⟩ := mem_ready.1 hi
      have hif : listed.getD i false = false := getD_both hi0
      have hilt : i < listed.size := by omega
      have hdeps : ∀ j, j ∈ depsOf ops i → listed.getD j false = true := fun j hj => by
        obtain ⟨_, hw⟩ := List.mem_filter.1 hj
        obtain ⟨e, he, hb, hon⟩ := waits_of ho hw
        rw [← hon]
        exact hall e he hb
      have h1 := hstep i o ho hin vs w hE fun j hj hjn => hT j hjn (hdeps j hj)
      refine wp_of_grow ho (growOp_congr (fun cs b => Region.noSelect_spec hsel i o cs b ho) (fun t ht => ?_) h1) fun v w' hE' hT' => ?_
      · -- what it looks at is a slot of one that is listed, or of none
        by_cases hc : ∃ j, j < n ∧ slotOf ops j = some t
        · obtain ⟨j, hj, hjt⟩ := hc
          have hwf : Region.waitsFor .any ops i j = true := by
            have h2 := List.all_eq_true.1 hlook i (List.mem_range.2 hin)
            simp only [ho] at h2
            have h3 := List.all_eq_true.1 h2 j (List.mem_range.2 hj)
            simp only [hjt, Bool.or_eq_true, Bool.not_eq_true'] at h3
            rcases h3 with h3 | h3
            · simp at h3
              exact absurd ht h3
            · exact h3
          have hjl := hdeps j (List.mem_filter.2 ⟨List.mem_range.2 (by omega), hwf⟩)
          by_cases hlt : t < a.tmps.size
          · rw [hH.got j hj hjl t hjt hlt, (hfull vs).got j hj hj t hjt hlt]
          · have e1 := hH.size
            have e2 := (hfull vs).size
            rw [Array.getElem?_eq_none (by omega), Array.getElem?_eq_none (by omega)]
        · have hno : ∀ j, j < n → slotOf ops j ≠ some t := fun j hj e => hc ⟨j, hj, e⟩
          rw [hH.rest t fun j hj _ => hno j hj, (hfull vs).rest t fun j hj _ => hno j hj]
      · have hs : slotOf ops i = o.dst := by simp [slotOf, ho]
        have hH' := Holds.step hdis hH hin (by simp [hif]) v
        rw [hs] at hH'
        have hcs := cnt_set hilt hif n
        simp only [hin, if_true] at hcs
        refine ih fuel' (listed.setIfInBounds i true) _ w' (fun j => if j = i then v else vs j) (by omega) (by omega) (by simp [hsz]) (fun t ht ht' => ?_) (hE.trans hE') (hH'.congr (fun j hj => ?_) (fun _ _ _ => rfl)) (fun j hj hjl => ?_) (fun j i' hj hjl hw => ?_)
        · rw [getD_set_ne false (by omega)]
          exact htl t ht ht'
        · by_cases hji : j = i
          · subst hji
            simp [Array.getElem?_setIfInBounds, hilt]
          · rw [getD_set_ne false (Ne.symm hji)]
            simp [hji]
        · by_cases hji : j = i
          · subst hji
            simpa using hT'
          · rw [getD_set_ne false (Ne.symm hji)] at hjl
            simp only [hji, if_false]
            exact hst j _ _ _ hj hE' (hT j hj hjl)
        · have hmono : listed.getD i' false = true → (listed.setIfInBounds i true).getD i' false = true := by
            intro h
            by_cases hii : i' = i
            · subst hii
              simp [Array.getElem?_setIfInBounds, hilt]
            · rw [getD_set_ne false (Ne.symm hii)]
              exact h
          by_cases hji : j = i
          · subst hji
            refine hmono (hdeps i' (List.mem_filter.2 ⟨List.mem_range.2 ?_, hw⟩))
            have h5 := waits_lt hord hin hw
            omega
          · rw [getD_set_ne false (Ne.symm hji)] at hjl
            exact hmono (hdc j i' hj hjl hw)

/-- THE RULE. -/
theorem wp_region_grow {id : Nat} {a : Act} {w0 : World} {Q : Exit → Act → World → Prop} {l : List Oper} (n : Nat) (T : Nat → Value → World → Prop) (hm : P.follows .mixedOrders = true) (hB : growB l.toArray n = true)
    (hst : ∀ i v w w', i < n → Ext w w' → T i v w → T i v w')
    (hstep : ∀ i o, l.toArray[i]? = some o → i < n → ∀ (vs : Nat → Value) w, Ext w0 w → (∀ j, j ∈ depsOf l.toArray i → j < n → T j (vs j) w) → growOp P l.toArray o (putAll (l.take n) 0 vs a) w (T i))
    (htail : ∀ vs w, Ext w0 w → (∀ j, j < n → T j (vs j) w) → wpList P l.toArray Q (l.drop n) (putAll (l.take n) 0 vs a) w) : (Code.region id l.toArray true).wp P Q a w0 := by
  refine wp_region_any hm ?_
  have hc : cnt n (Array.replicate l.toArray.size false) = 0 := by
    unfold cnt
    refine List.countP_eq_zero.2 fun j _ => ?_
    rw [getD_replicate_false]
    simp
  exact wpAny_grow rfl T hB hst hstep htail n l.toArray.size _ a _ (fun _ => undef) (by omega) (by omega) (by simp) (fun t _ _ => getD_replicate_false _ _) (Ext.drew (Ext.refl _))
    ((Holds.start _ n a (fun _ => undef)).congr (fun i _ => by rw [getD_replicate_false]; simp) (fun _ _ h => h.elim)) (fun j _ h => by rw [getD_replicate_false] at h; cases h) (fun j i _ h => by rw [getD_replicate_false] at h; cases h)

/-- The steps of the head, one at a time. -/
def GrowSteps (P : Program) (ops : Array Oper) (T : Nat → Value → World → Prop) (full : (Nat → Value) → Act) (w0 : World) : List Oper → Nat → Prop
  | [], _ => True
  | o :: l, k => (∀ (vs : Nat → Value) (w : World), Ext w0 w → (∀ j, Region.waitsFor .any ops k j = true → T j (vs j) w) → growOp P ops o (full vs) w (T k)) ∧ GrowSteps P ops T full w0 l (k + 1)

theorem GrowSteps.get {T : Nat → Value → World → Prop} {full : (Nat → Value) → Act} {w0 : World} : ∀ (l : List Oper) (k : Nat), GrowSteps P ops T full w0 l k → ∀ i o, l[i]? = some o →
    ∀ (vs : Nat → Value) (w : World), Ext w0 w → (∀ j, Region.waitsFor .any ops (k + i) j = true → T j (vs j) w) → growOp P ops o (full vs) w (T (k + i))
  | [], _, _, i, o, h => by simp at h
  | o' :: l, k, hs, 0, o, h => by
    have : o' = o := by simpa using h
    subst this
    exact hs.1
  | o' :: l, k, hs, i + 1, o, h => by
    have h2 := GrowSteps.get l (k + 1) hs.2 i o (by simpa using h)
    rw [show k + 1 + i = k + (i + 1) by omega] at h2
    exact h2

theorem wp_region_steps {id : Nat} {a : Act} {w0 : World} {Q : Exit → Act → World → Prop} {l : List Oper} (n : Nat) (T : Nat → Value → World → Prop) (hm : P.follows .mixedOrders = true) (hB : growB l.toArray n = true)
    (hst : ∀ i v w w', i < n → Ext w w' → T i v w → T i v w')
    (hstep : GrowSteps P l.toArray T (fun vs => putAll (l.take n) 0 vs a) w0 (l.take n) 0)
    (htail : ∀ vs w, Ext w0 w → (∀ j, j < n → T j (vs j) w) → wpList P l.toArray Q (l.drop n) (putAll (l.take n) 0 vs a) w) : (Code.region id l.toArray true).wp P Q a w0 := by
  refine wp_region_grow n T hm hB hst (fun i o ho hi vs w hE hd => ?_) htail
  have h1 : (l.take n)[i]? = some o := by
    have : l[i]? = some o := by simpa using ho
    simpa [List.getElem?_take, hi] using this
  have h2 := GrowSteps.get (l.take n) 0 hstep i o h1 vs w hE
  rw [Nat.zero_add] at h2
  refine h2 fun j hj => hd j ?_ ?_
  · obtain ⟨_, _, e, _, _, hon⟩ := Region.waitsFor_spec hj
    simp only [growB, Bool.and_eq_true, decide_eq_true_eq] at hB
    refine List.mem_filter.2 ⟨List.mem_range.2 ?_, hj⟩
    have := waits_lt hB.2 hi hj
    have h3 := hB.1.1.1.1.2
    omega
  · simp only [growB, Bool.and_eq_true, decide_eq_true_eq] at hB
    have := waits_lt hB.2 hi hj
    omega

theorem growUpon_value (T : Value → World → Prop) (w w' : World) (v : Value) : growUpon P T w (.ok (.value v) w') = (Ext w w' ∧ T v w') := rfl
theorem growUpon_skip (T : Value → World → Prop) (w w' : World) : growUpon P T w (.ok .skip w') = (Ext w w' ∧ T undef w') := rfl
theorem growUpon_enter (T : Value → World → Prop) (w w' : World) (f : FuncId) (args : Array Value) : growUpon P T w (.ok (.enter f args) w') = Calls P f args w' (fun e w'' => ∃ v, e = .returned v ∧ Ext w w'' ∧ T v w'') := rfl
attribute [go_sem] growUpon_value growUpon_skip growUpon_enter
/-- Taken up by the walk: the guard first, then the operation itself. -/
theorem growOp_go {o : Oper} {a : Act} {w : World} {T : Value → World → Prop} (h : if Region.wanted o (yielded ops a.tmps) then growUpon P T w ((execOp a.eval o).run P w) else T undef w) : growOp P ops o a w T := by
  unfold growOp growAt
  exact h
attribute [irreducible] growOp

/-- A property of a value and a world that is kept when the world grows. 'pick': the value itself, where the property says which it is. -/
structure SP where
  p : Value → World → Prop
  st : ∀ v w w', Ext w w' → p v w → p v w'
  pick : Value → Value := id
  pick_eq : ∀ v w, p v w → pick v = v := by intros; rfl

def SP.top : SP := { p := fun _ _ => True, st := fun _ _ _ _ _ => trivial }
def SP.is (V : Value) : SP := { p := fun v _ => v = V, st := fun _ _ _ _ h => h, pick := fun _ => V, pick_eq := fun _ _ h => h.symm }
/-- A pointer to a block of its own, from block B on. -/
def SP.box (B : Nat) (cs : Array Value) (t : TypeId) : SP :=
  { p := fun v w => ∃ g, v = .pointer (some ⟨g, 0, none⟩) ∧ B ≤ g ∧ w.heap[g]? = some (.cells cs t (0, 0))
    st := fun v w w' hE ⟨g, h1, h2, h3⟩ => ⟨g, h1, h2, by
      have hlt : g < w.heap.size := by
        rcases Nat.lt_or_ge g w.heap.size with h | h
        · exact h
        · rw [Array.getElem?_eq_none h] at h3
          cases h3
      rw [hE.block g hlt]
      exact h3⟩ }

def getT (T : List SP) (i : Nat) : Value → World → Prop := (T.getD i SP.top).p

theorem wp_region_sp {id : Nat} {a : Act} {w0 : World} {Q : Exit → Act → World → Prop} {l : List Oper} (n : Nat) (T : List SP) (hm : P.follows .mixedOrders = true) (hB : growB l.toArray n = true)
    (hstep : GrowSteps P l.toArray (getT T) (fun vs => putAll (l.take n) 0 vs a) w0 (l.take n) 0)
    (htail : ∀ vs w, Ext w0 w → (∀ j, j < n → getT T j (vs j) w) → wpList P l.toArray Q (l.drop n) (putAll (l.take n) 0 vs a) w) : (Code.region id l.toArray true).wp P Q a w0 :=
  wp_region_steps n (getT T) hm hB (fun i v w w' _ => (T.getD i SP.top).st v w w') hstep htail

/-- THE SAME IN THE ORDER OF THE TEXT: one operation after the other, each in the frame that those before it have left. -/
def Chain (P : Program) (ops : Array Oper) (Q : Exit → Act → World → Prop) (w0 : World) (tail : List Oper) : Nat → List Oper → List SP → ((Nat → Value) → Act) → Prop
  | _, [], T, A => ∀ vs w, Ext w0 w → (∀ j, getT T j (vs j) w) → wpList P ops Q tail (A vs) w
  | k, o :: l, T, A => ∃ t : SP, (∀ vs w, Ext w0 w → (∀ j, Region.waitsFor .any ops k j = true → getT T j (vs j) w) → growOp P ops o (A vs) w t.p) ∧
      Chain P ops Q w0 tail (k + 1) l (T ++ [t]) (fun vs => (A vs).put o.dst (t.pick (vs k)))

theorem Chain.quiet {Q : Exit → Act → World → Prop} {w0 : World} {tail : List Oper} {k : Nat} {o : Oper} {l : List Oper} {T : List SP} {A : (Nat → Value) → Act} {V : Value}
    (h1 : ∀ vs w, Ext w0 w → (∀ j, Region.waitsFor .any ops k j = true → getT T j (vs j) w) → growOp P ops o (A vs) w (fun v _ => v = V))
    (h2 : Chain P ops Q w0 tail (k + 1) l (T ++ [.is V]) (fun vs => (A vs).put o.dst V)) : Chain P ops Q w0 tail k (o :: l) T A := ⟨.is V, h1, h2⟩
theorem Chain.sp {Q : Exit → Act → World → Prop} {w0 : World} {tail : List Oper} {k : Nat} {o : Oper} {l : List Oper} {T : List SP} {A : (Nat → Value) → Act} (t : SP)
    (h1 : ∀ vs w, Ext w0 w → (∀ j, Region.waitsFor .any ops k j = true → getT T j (vs j) w) → growOp P ops o (A vs) w t.p)
    (h2 : Chain P ops Q w0 tail (k + 1) l (T ++ [t]) (fun vs => (A vs).put o.dst (t.pick (vs k)))) : Chain P ops Q w0 tail k (o :: l) T A := ⟨t, h1, h2⟩
theorem Chain.done {Q : Exit → Act → World → Prop} {w0 : World} {tail : List Oper} {k : Nat} {T : List SP} {A : (Nat → Value) → Act}
    (h : ∀ vs w, Ext w0 w → (∀ j, getT T j (vs j) w) → wpList P ops Q tail (A vs) w) : Chain P ops Q w0 tail k [] T A := h

/-- What the chain's frames hold, where the values are as their properties say. -/
theorem chain_holds {n : Nat} (hd : distinctB ops n = true) {a : Act} {k : Nat} {o : Oper} (ho : ops[k]? = some o) (hk : k < n) {vs : Nat → Value} {A : (Nat → Value) → Act} {t : SP} {us : Nat → Value}
    (h : Holds ops n a (fun i => i < k) us (A vs)) : Holds ops n a (fun i => i < k + 1) (fun i => if i = k then t.pick (vs k) else us i) ((A vs).put o.dst (t.pick (vs k))) := by
  have h1 := Holds.step hd h hk (by omega) (t.pick (vs k))
  have hs : slotOf ops k = o.dst := by simp [slotOf, ho]
  rw [hs] at h1
  exact h1.congr (fun i _ => by constructor <;> intro h <;> omega) (fun i _ _ => rfl)

theorem chain_sound {n : Nat} {a : Act} {w0 : World} {Q : Exit → Act → World → Prop} {tail : List Oper} (hB : growB ops n = true) : ∀ (l : List Oper) (k : Nat) (T : List SP) (A : (Nat → Value) → Act), T.length = k → k + l.length = n →
    (∀ j, j < l.length → ops[k + j]? = l[j]?) → (∀ vs, Holds ops n a (fun i => i < k) (fun i => (T.getD i SP.top).pick (vs i)) (A vs)) → Chain P ops Q w0 tail k l T A →
    ∃ (T' : List SP) (A' : (Nat → Value) → Act), (∀ i, i < k → T'.getD i SP.top = T.getD i SP.top) ∧ T'.length = n ∧
      (∀ vs, Holds ops n a (fun i => i < n) (fun i => (T'.getD i SP.top).pick (vs i)) (A' vs)) ∧
      (∀ (i : Nat) (o : Oper), k ≤ i → i < n → ops[i]? = some o → ∀ (vs : Nat → Value) (w : World), Ext w0 w → (∀ j, Region.waitsFor .any ops i j = true → getT T' j (vs j) w) →
        ∃ A'', Holds ops n a (fun j => j < i) (fun j => (T'.getD j SP.top).pick (vs j)) A'' ∧ growOp P ops o A'' w (getT T' i)) ∧
      (∀ vs w, Ext w0 w → (∀ j, getT T' j (vs j) w) → wpList P ops Q tail (A' vs) w)
  | [], k, T, A, hT, hk, _, hA, h => by
    have : k = n := by simpa using hk
    subst this
    exact ⟨T, A, fun _ _ => rfl, hT, hA, fun i o h1 h2 => absurd h2 (by omega), h⟩
  | o :: l, k, T, A, hT, hk, hl, hA, h => by
    obtain ⟨t, h1, h2⟩ := h
    have ho : ops[k]? = some o := by simpa using hl 0 (by simp)
    have hkn : k < n := by simp only [List.length_cons] at hk; omega
    have hdis : distinctB ops n = true := by simp only [growB, Bool.and_eq_true] at hB; exact hB.1.1.1.2
    have hgetk : (T ++ [t]).getD k SP.top = t := by simp [List.getD, ← hT]
    have hgetl : ∀ i, i < k → (T ++ [t]).getD i SP.top = T.getD i SP.top := fun i hi => by
      simp only [List.getD_eq_getElem?_getD]
      rw [List.getElem?_append_left (by omega)]
    obtain ⟨T', A', e1, e2, e3, e4, e5⟩ := chain_sound hB l (k + 1) (T ++ [t]) (fun vs => (A vs).put o.dst (t.pick (vs k))) (by simp [hT]) (by simp only [List.length_cons] at hk; omega)
      (fun j hj => by have := hl (j + 1) (by simp; omega); simpa [Nat.add_assoc, Nat.add_comm 1 j] using this)
      (fun vs => (chain_holds hdis ho hkn (hA vs)).congr (fun _ _ => Iff.rfl) (fun i _ hi => by
        by_cases hik : i = k
        · subst hik; rw [if_pos rfl, hgetk]
        · simp only [hik, if_false]; rw [hgetl i (by omega)])) h2
    have e1' : ∀ i, i < k → T'.getD i SP.top = T.getD i SP.top := fun i hi => (e1 i (by omega)).trans (hgetl i hi)
    have ek : T'.getD k SP.top = t := (e1 k (by omega)).trans hgetk
    refine ⟨T', A', e1', e2, e3, fun i o' hki hin ho' vs w hE hd => ?_, e5⟩
    by_cases hik : i = k
    · subst hik
      have : o' = o := Option.some.inj (ho'.symm.trans ho)
      subst this
      refine ⟨A vs, (hA vs).congr (fun _ _ => Iff.rfl) (fun j _ hj => by rw [e1' j hj]), ?_⟩
      have hh := h1 vs w hE fun j hj => by
        have hlt : j < i := waits_lt (by simp only [growB, Bool.and_eq_true] at hB; exact hB.2) hin hj
        have := hd j hj
        unfold getT at this ⊢
        rw [e1' j hlt] at this
        exact this
      unfold getT
      rw [ek]
      exact hh
    · exact e4 i o' (by omega) hin ho' vs w hE hd

/-- THE RULE, BY A CHAIN. -/
theorem wp_region_chain {id : Nat} {a : Act} {w0 : World} {Q : Exit → Act → World → Prop} {l : List Oper} (n : Nat) (hm : P.follows .mixedOrders = true) (hB : growB l.toArray n = true)
    (h : Chain P l.toArray Q w0 (l.drop n) 0 (l.take n) [] (fun _ => a)) : (Code.region id l.toArray true).wp P Q a w0 := by
  have hn : n ≤ l.length := by simp only [growB, Bool.and_eq_true, decide_eq_true_eq] at hB; simpa using hB.1.1.1.1.2
  have hdis : distinctB l.toArray n = true := by simp only [growB, Bool.and_eq_true] at hB; exact hB.1.1.1.2
  have hlook : looksB l.toArray n = true := by simp only [growB, Bool.and_eq_true] at hB; exact hB.1.1.2
  have hsel : Region.noSelect l.toArray = true := by simp only [growB, Bool.and_eq_true] at hB; exact hB.1.1.1.1.1
  have hord : orderB l.toArray n = true := by simp only [growB, Bool.and_eq_true] at hB; exact hB.2
  have htl : (l.take n).length = n := by simp; omega
  obtain ⟨T, A, _, e2, e3, e4, e5⟩ := chain_sound (a := a) hB (l.take n) 0 [] (fun _ => a) rfl (by simpa using htl) (fun j hj => by
      have : j < n := by rw [htl] at hj; exact hj
      simp [this]) (fun vs => (Holds.start _ n a (fun _ => undef)).congr (fun _ _ => by simp) (fun _ _ h => h.elim)) h
  have hfull : ∀ vs, Holds l.toArray n a (fun i => i < n) vs (putAll (l.take n) 0 vs a) := fun vs => by
    refine putAll_holds hdis a vs (l.take n) 0 a (fun j hj => ?_) (by simpa using htl) ((Holds.start _ n a vs).congr (fun i _ => by simp) (fun i _ h => h.elim))
    have : j < n := by rw [htl] at hj; exact hj
    simp [this]
  refine wp_region_grow n (getT T) hm hB (fun i v w w' _ => (T.getD i SP.top).st v w w') (fun i o ho hi vs w hE hd => ?_) (fun vs w hE hd => ?_)
  · have hwd : ∀ j, Region.waitsFor .any l.toArray i j = true → getT T j (vs j) w := fun j hj => by
      have hlt := waits_lt hord hi hj
      exact hd j (List.mem_filter.2 ⟨List.mem_range.2 (by simp; omega), hj⟩) (by omega)
    obtain ⟨A'', hA, hg⟩ := e4 i o (Nat.zero_le _) hi ho vs w hE hwd
    refine growOp_congr (fun cs b => Region.noSelect_spec hsel i o cs b ho) (fun t ht => ?_) hg
    by_cases hc : ∃ j, j < n ∧ slotOf l.toArray j = some t
    · obtain ⟨j, hj, hjt⟩ := hc
      have hwf : Region.waitsFor .any l.toArray i j = true := by
        have h2 := List.all_eq_true.1 hlook i (List.mem_range.2 hi)
        simp only [ho] at h2
        have h3 := List.all_eq_true.1 h2 j (List.mem_range.2 hj)
        simp only [hjt, Bool.or_eq_true, Bool.not_eq_true'] at h3
        rcases h3 with h3 | h3
        · simp at h3
          exact absurd ht h3
        · exact h3
      have hlt := waits_lt hord hi hwf
      have hpick : (T.getD j SP.top).pick (vs j) = vs j := (T.getD j SP.top).pick_eq _ _ (hwd j hwf)
      by_cases hsz : t < a.tmps.size
      · rw [(hfull vs).got j hj hj t hjt hsz, hA.got j hj hlt t hjt hsz, hpick]
      · have z1 := (hfull vs).size
        have z2 := hA.size
        rw [Array.getElem?_eq_none (by omega), Array.getElem?_eq_none (by omega)]
    · have hno : ∀ j, j < n → slotOf l.toArray j ≠ some t := fun j hj e => hc ⟨j, hj, e⟩
      rw [(hfull vs).rest t fun j hj _ => hno j hj, hA.rest t fun j hj _ => hno j hj]
  · have hall : ∀ j, getT T j (vs j) w := fun j => by
      by_cases hj : j < n
      · exact hd j hj
      · unfold getT
        rw [show T.getD j SP.top = SP.top from by simp [List.getD, List.getElem?_eq_none (show T.length ≤ j by omega)]]
        trivial
    have hu : putAll (l.take n) 0 vs a = A vs := (hfull vs).unique ((e3 vs).congr (fun _ _ => Iff.rfl) (fun i _ _ => (T.getD i SP.top).pick_eq _ _ (hall i)))
    rw [hu]
    exact e5 vs w hE hall

attribute [irreducible] Chain

end
end Go.Proofs.Ytkmklafjcjkpdaa
