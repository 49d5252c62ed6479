/- Words for memory: the cells behind a slice's address; rows of the call's own; append. -/
import Derived.Test.YtkmklafjcjkpdaaBase
import Derived.Test.YtkmklafjcjkpdaaInts
import Derived.Maps.AppendAt
import Derived.Laws.OwnMore
import Derived.OwnWalk
namespace Go.Proofs.Ytkmklafjcjkpdaa
open Go.RowKit
set_option linter.unusedVariables false
set_option linter.unusedSimpArgs false

/-- From the slice's address on lie the cells xs. -/
def Cel (w : World) (A : Option Addr) (xs : List Value) : Prop :=
  xs = [] ∨ ∃ b off, A = some ⟨b, off, none⟩ ∧ b < w.heap.size ∧ ∀ j u, xs[j]? = some u → w.cell? ⟨b, off + j, none⟩ = some u

section
variable {w w' : World} {A : Option Addr} {xs : List Value}
theorem Cel.nil : Cel w A [] := .inl rfl
theorem Cel.keep (h : Cel w A xs) (hz : w.heap.size ≤ w'.heap.size) (hk : ∀ b, b < w.heap.size → w'.heap[b]? = w.heap[b]?) : Cel w' A xs := by
  rcases h with h | ⟨b, off, h1, h2, h3⟩
  · exact .inl h
  · exact .inr ⟨b, off, h1, by omega, fun j u hu => (World.cell?_of_block (a := ⟨b, off + j, none⟩) (hk b h2)).trans (h3 j u hu)⟩
theorem Cel.ext (h : Cel w A xs) (hE : Ext w w') : Cel w' A xs := h.keep hE.size hE.block
theorem Cel.at_ (h : Cel w A xs) (hx : xs ≠ []) : ∃ b off, A = some ⟨b, off, none⟩ ∧ b < w.heap.size ∧ ∀ j u, xs[j]? = some u → w.cell? ⟨b, off + j, none⟩ = some u :=
  h.resolve_left hx
theorem Cel.map_at {α : Type} {f : α → Value} {l : List α} (h : Cel w A (l.map f)) (hl : l ≠ []) : ∃ b off, A = some ⟨b, off, none⟩ ∧ b < w.heap.size ∧ ∀ j (hj : j < l.length), w.cell? ⟨b, off + j, none⟩ = some (f l[j]) := by
  obtain ⟨b, off, h1, h2, h3⟩ := h.at_ (by simpa using hl)
  exact ⟨b, off, h1, h2, fun j hj => h3 j _ (by simp [hj])⟩

theorem Ext.own {B : Nat} {e : TypeId} {size : Nat} {v : Value} {n : Nat} (hE : Ext w w') (h : w.ownsRow B e size v n xs) : w'.ownsRow B e size v n xs := by
  obtain ⟨h1, h2⟩ := h
  refine ⟨h1, ?_⟩
  rcases h2 with h2 | ⟨g, cap, cur, hv, hg, hh, r⟩
  · exact .inl h2
  · refine .inr ⟨g, cap, cur, hv, hg, ?_, r⟩
    have := (blk_cells hh).2.2
    rw [hE.block g this]
    exact hh

/-- What is owned: its value's form, its cells. -/
theorem own_form {B : Nat} {e : TypeId} {size : Nat} {v : Value} {n : Nat} (h : w.ownsRow B e size v n xs) : ∃ A c, v = .slice A n c ∧ n ≤ c ∧ c ≤ maxLen ∧ Cel w A xs ∧ (A = none → n = 0) := by
  obtain ⟨h1, h2⟩ := h
  rcases h2 with ⟨rfl, rfl⟩ | ⟨g, cap, cur, rfl, hg, hh, hc, hm, hs, ht⟩
  · have : xs = [] := List.eq_nil_of_length_eq_zero (by simpa using h1)
    subst this
    exact ⟨none, 0, rfl, Nat.le_refl _, Nat.zero_le _, .nil, fun _ => rfl⟩
  · refine ⟨some ⟨g, 0, none⟩, cap, rfl, hc, hm, ?_, fun h => by cases h⟩
    obtain ⟨hb, _, hlt⟩ := blk_cells hh
    refine .inr ⟨g, 0, rfl, hlt, fun j u hu => ?_⟩
    rw [Nat.zero_add, hb j]
    rw [← ht] at hu
    have := List.getElem?_take_of_lt (l := cur.toList) (i := j) (j := n * size) (by
      rcases Nat.lt_or_ge j (n * size) with h | h
      · exact h
      · rw [List.getElem?_eq_none (by simp; omega)] at hu
        cases hu)
    rw [this] at hu
    simpa using hu

theorem ext_grown {w0 : World} {B : Nat} {e : TypeId} {size : Nat} {v : Value} {n : Nat} (hE : Ext w0 w) (hg : w.grownBy w' v.ownBlock) (hown : w.ownsRow B e size v n xs) (hB : w0.heap.size ≤ B) : Ext w0 w' := by
  refine Below.grown hE hg hE.size fun k hk => ?_
  have := (World.ownsRow.lt hown k hk).1
  omega

/-- A slice type, its element type: closed facts of the program. -/
structure ElemTy (P : Program) (t e : TypeId) (size bytes : Nat) : Prop where
  und : P.underlying t = some (.slice e)
  info : ∃ i z, P.info? e = some i ∧ i.zero = some z ∧ i.size = size ∧ i.bytes = bytes ∧ z.cells.size = size
  pos : 0 < size

theorem ElemTy.mk_ {P : Program} {t e : TypeId} {size bytes : Nat} {z : Value} (hu : P.underlying t = some (.slice e)) (h : (P.info? e).map (fun i => (i.zero, i.size, i.bytes)) = some (some z, size, bytes)) (hz : z.cells.size = size) (hp : 0 < size) :
    ElemTy P t e size bytes := by
  obtain ⟨i, h1, h2, h3, h4⟩ := info_parts h
  exact ⟨hu, ⟨i, z, h1, h2, h3, h4, hz⟩, hp⟩

theorem add_zero_addr (b off j : Nat) : (⟨b, off, none⟩ : Addr).add j = ⟨b, off + j, none⟩ := by
  unfold Addr.add
  split
  · rename_i h; subst h; rfl
  · rfl

/-- append onto a row of the call's own, the source nil, empty or not. -/
theorem wpApp {P : Program} {ops : Array Oper} {rest : List Oper} {o : Oper} {a : Act} {w : World} {Q : Exit → Act → World → Prop} (s x : Operand) {t e : TypeId} {size bytes : Nat} (hT : ElemTy P t e size bytes) (hgd : o.guard = none)
    (ho : o.op = .call { callee := .builtin .append, args := #[s, x], argTypes := #[t, t] }) (base : Nat)
    (v : Value) (n : Nat) (xs : List Value) (hs : a.eval s = v) (hown : w.ownsRow base e size v n xs)
    (A : Option Addr) (m c : Nat) (news : List Value) (hx : a.eval x = .slice A m c) (hr : Cel w A news) (hm : news.length = m * size) (hA : A = none → c = 0) (h1 : ∀ u ∈ news, u.oneCell' = true)
    (h63 : n + m ≤ maxLen) (hbytes : (n + m) * bytes ≤ 140737488355328) (hbase : base ≤ w.heap.size)
    (h : ∀ v' w', w'.ownsRow base e size v' (n + m) (xs ++ news) → w.grownBy w' v.ownBlock → (v'.ownBlock = v.ownBlock ∨ v'.ownBlock = some w.heap.size) → wpList P ops Q rest (a.put o.dst v') w') : wpList P ops Q (o :: rest) a w := by
  obtain ⟨ht, ⟨i, z, hi, hz, hsize, hby, hzs⟩, hsz⟩ := hT
  rcases A with _ | ad
  · have hm0 : m = 0 := by
      rcases hr with hr | ⟨b, off, h, _⟩
      · rw [hr] at hm
        simp only [List.length_nil] at hm
        rcases Nat.eq_zero_or_pos m with h0 | h0
        · exact h0
        · have := Nat.mul_pos h0 hsz
          omega
      · cases h
    have hc0 := hA rfl
    subst hm0 hc0
    have hn : news = [] := List.eq_nil_of_length_eq_zero (by simpa using hm)
    subst hn
    have hrun := run_append_owned_none (P := P) w base t o.type e i size ht hi v n xs hown
    refine wpList_plain hgd fun K hK => ?_
    unfold Oper.wp
    simp only [execOp, ho, resolve, invoke, builtin, Sem.run_bind, Sem.run_pure, Result.andThen_ok, List.map_toArray, List.map_cons, List.map_nil, hs, hx, hrun, Oper.upon]
    exact hK _ _ (h v w (by simpa using hown) (World.grownBy.refl w _) (.inl rfl))
  · have hcells : ∀ j u, news[j]? = some u → w.cell? (ad.add j) = some u := by
      intro j u hu
      rcases hr with hr | ⟨b, off, h, _, h3⟩
      · subst hr
        simp at hu
      · injection h with h
        subst h
        rw [add_zero_addr]
        exact h3 j u hu
    exact wpList_append_own_at (P := P) w hgd s x t ho base e i z size bytes ht hi hz hsize hby hzs hsz v n xs hs hown ad m c news hx hm hcells h1 h63 hbytes hbase fun v' w' a1 a2 _ a4 => h v' w' a1 a2 a4

/-- A slice literal of one element: a new block. -/
theorem own_lit1 (w : World) {base : Nat} (e : TypeId) (u : Value) (hb : base ≤ w.heap.size) : (w.alloc (.cells #[u] e)).ownsRow base e 1 (.slice (some ⟨w.heap.size, 0, none⟩) 1 1) 1 [u] :=
  World.ownsRow_lit w #[u] 1 hb (by unfold maxLen; omega) (by simp)
theorem cel_lit (w : World) (e : TypeId) (cs : Array Value) : Cel (w.alloc (.cells cs e)) (some ⟨w.heap.size, 0, none⟩) cs.toList := by
  obtain ⟨hb, _, hlt⟩ := blk_cells (heap_alloc_new w (.cells cs e (0, 0)))
  refine .inr ⟨_, 0, rfl, hlt, fun j u hu => ?_⟩
  rw [Nat.zero_add, hb j]
  simpa using hu
end

theorem take_snoc_get {α : Type} (l : List α) (k : Nat) (h : k < l.length) : l.take (k + 1) = l.take k ++ [l[k]] := by
  rw [List.take_succ_eq_append_getElem h]
theorem elInt : ElemTy Try.prog 52 3 1 8 := ElemTy.mk_ (z := .int .i64 0) Try.underlying52 (by kernel_rfl) rfl (by decide)
end Go.Proofs.Ytkmklafjcjkpdaa
