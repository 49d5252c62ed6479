/- One element of a row taken out: append of what lies behind it onto what lies before it. -/
import Derived.Test.YtkmklafjcjkpdaaCpQ
import Derived.Test.YtkmklafjcjkpdaaSt
namespace Go.Proofs.Ytkmklafjcjkpdaa
open Go.RowKit
set_option linter.unusedVariables false
set_option linter.unusedSimpArgs false

theorem AppR.addX {α : Type} {K : Kind α} {T : TypeId} {w : World} {B : Nat} {X : Nat → Prop} {v : Value} {l : List α} (h : AppR K T w B X v l) : AppR K T w B (fun x => w.heap.size ≤ x) v l := by
  obtain ⟨es, h1, h2, h3, h4⟩ := h
  refine ⟨es, h1, fun G hG => ⟨fun hx => by have := (h1.lt G hG).2; omega, (h2 G hG).2⟩, fun e he h0 hx => ?_, h4⟩
  rcases h1.2 with ⟨_, h5⟩ | ⟨g, cap, cur, rfl, _⟩
  · rw [List.eq_nil_of_length_eq_zero h5] at he
    simp at he
  · have := (h2 g rfl).2.lt he h0
    omega
theorem own_weak {w : World} {B B' : Nat} {T : TypeId} {s : Nat} {v : Value} {n : Nat} {xs : List Value} (h : w.ownsRow B T s v n xs) (hB : B' ≤ B) : w.ownsRow B' T s v n xs := by
  refine ⟨h.1, h.2.imp_right ?_⟩
  rintro ⟨g, cap, cur, a, b, c⟩
  exact ⟨g, cap, cur, a, by omega, c⟩
/-- What is left of a row when element i is gone. -/
theorem AppR.del {α : Type} {K : Kind α} {T : TypeId} {w w' : World} {B G0 i m : Nat} {rv : Option Nat} {X : Nat → Prop} {v' : Value} {es : List (El α)} (hi : i < es.length) (hm : m = es.length - 1) (hO : w'.ownsRow B T K.size v' m (rowOf K (es.take i) ++ rowOf K (es.drop (i + 1)))) (hg : w.grownBy w' rv)
    (hq : v'.ownBlock = rv ∨ v'.ownBlock = some w.heap.size) (hB : Bod K w B w.heap.size G0 es) (hne : ∀ e ∈ es, K.bd e.x ≠ [] → rv ≠ some e.g) (hXG : ∀ G, rv = some G → ¬ X G) (hX : ∀ x, X x → x < w.heap.size) (hXe : ∀ e ∈ es, K.bd e.x ≠ [] → ¬ X e.g) : AppR K T w' B X v' ((es.map (·.x)).eraseIdx i) := by
  have hes : es.take i ++ es.drop (i + 1) = es.eraseIdx i := (List.eraseIdx_eq_take_drop_succ es i).symm
  have hsub : (es.eraseIdx i).Sublist es := List.eraseIdx_sublist es i
  have hl : (es.eraseIdx i).length = m := by rw [List.length_eraseIdx_of_lt hi, hm]
  refine ⟨es.eraseIdx i, by rw [hl, ← hes, rowOf_append]; exact hO, fun G hG => ⟨?_, ?_⟩, fun e he h0 => hXe e (hsub.subset he) h0, by simp only [List.eraseIdx_eq_take_drop_succ, List.map_append, List.map_take, List.map_drop]⟩
  · rcases hq with hq | hq
    · exact hXG G (by rw [← hq]; exact hG)
    · rw [hq] at hG
      injection hG with hG
      subst hG
      intro hx
      have := hX _ hx
      omega
  · refine ⟨fun e he => ?_, hB.2.sublist hsub⟩
    obtain ⟨z1, z2, z3⟩ := hB.1 e (hsub.subset he)
    refine ⟨z1, z2, ?_⟩
    by_cases h0 : K.bd e.x = []
    · exact .inl h0
    · obtain ⟨a1, a2, a3, a4, cs, T', a5, a6⟩ := z3.resolve_left h0
      have h7 := hne e (hsub.subset he) h0
      refine .inr ⟨a1, a2, Nat.lt_of_lt_of_le a3 hg.size, ?_, cs, T', ?_, a6⟩
      · rcases hq with hq | hq
        · intro h
          exact h7 (by rw [← hq, hG, h])
        · rw [hq] at hG
          injection hG with hG
          omega
      · rw [hg.block _ a3 (fun h => h7 h.symm), a5]
/-- append of cells onto an empty row without room: the world only grows. -/
theorem run_app0S {P : Program} {w : World} {t ty e : TypeId} {s bytes : Nat} (hT : ElemTy P t e s bytes) (g : Nat) (hg : w.heap[g]? = some (.cells #[] e (0, 0))) (A : Option Addr) (m c : Nat) (news : List Value) (hr : Cel w A news) (hA : A = none → c = 0) (hm : news.length = m * s) (h1 : ∀ u ∈ news, u.oneCell' = true) (hl : m ≤ 1048577) (hby : bytes ≤ 100) (B : Nat) (hB : B ≤ g) :
    ∃ v' w', (Builtin.append_ #[t, t] ty #[.slice (some ⟨g, 0, none⟩) 0 0, .slice A m c]).run P w = .ok v' w' ∧ Ext w w' ∧ w'.ownsRow B e s v' m news := by
  obtain ⟨ht, ⟨i, z, hi, hz, hsize, hbyt, hzs⟩, hsz⟩ := hT
  have hown : w.ownsRow B e s (.slice (some ⟨g, 0, none⟩) 0 0) 0 [] := ⟨by simp, .inr ⟨g, 0, #[], rfl, hB, hg, Nat.le_refl _, by unfold maxLen; omega, by simp, by simp⟩⟩
  have hlt := heap_lt hg
  by_cases hm0 : m = 0
  · subst hm0
    have h0 : news = [] := List.eq_nil_of_length_eq_zero (by simpa using hm)
    subst h0
    rcases A with _ | ad
    · have hc0 := hA rfl
      subst hc0
      exact ⟨_, _, run_append_owned_none (P := P) w B t ty e i s ht hi _ 0 [] hown, Ext.refl _, hown⟩
    · have hrun := run_append_room (P := P) w t ty e i ht hi g 0 0 #[] hg ad 0 c [] (by simp) (fun j u h => by simp at h) (fun u h => by simp at h) (Nat.le_refl _) (by simp)
      have hs := setRow_self w g #[] e (0, 0) hg
      refine ⟨_, _, hrun, ?_, ?_⟩
      · simp [hs]; exact Ext.refl _
      · simp [hs]; exact hown
  · obtain ⟨b, off, rfl, e2, e3⟩ := hr.at_ (by intro h; subst h; have := Nat.mul_pos (Nat.pos_of_ne_zero hm0) hsz; simp only [List.length_nil] at hm; omega)
    have hrun := run_append_grow (P := P) w t ty e i z ht hi hz ⟨g, 0, none⟩ 0 0 [] (by simp) (fun j v h => by simp at h) ⟨b, off, none⟩ m c news (by rw [hsize]; exact hm) (fun j v hj => by rw [add_zero_addr]; exact e3 j v hj) (by omega) (by omega) (growslice_fits (by omega) (by
      rw [hbyt, Nat.zero_add]
      calc m * bytes ≤ 1048577 * 100 := Nat.mul_le_mul hl hby
        _ ≤ 140737488355328 := by omega))
    rw [Nat.zero_add] at hrun
    have hge := grownCap_ge w m 0 e
    have hcm : grownCap w m 0 e ≤ maxLen := grownCap_le_maxLen w m 0 e (by unfold maxLen; omega)
    refine ⟨_, _, hrun, Ext.trans (Ext.drew (Ext.refl _)) (Ext.alloc_ _ _), hm, .inr ⟨w.heap.size, _, _, rfl, by omega, heap_alloc_new w.drew _, hge, hcm, ?_, ?_⟩⟩
    · simp only [Array.size_append, List.size_toArray, List.length_nil, size_zeroCells, hzs, hm, Nat.zero_add]
      rw [← Nat.add_mul]
      congr 1
      omega
    · simp only [Array.toList_append, List.nil_append]
      rw [List.take_append_of_le_length (by simpa using (Nat.le_of_eq hm.symm)), List.take_of_length_le (by simpa using (Nat.le_of_eq hm))]
theorem grow_app0S {P : Program} {ops : Array Oper} {o : Oper} {a : Act} {w : World} {T : Value → World → Prop} (s x : Operand) {t e : TypeId} {sz bytes : Nat} (hT : ElemTy P t e sz bytes) (hgd : o.guard = none)
    (ho : o.op = .call { callee := .builtin .append, args := #[s, x], argTypes := #[t, t] }) (g : Nat) (hs : a.eval s = .slice (some ⟨g, 0, none⟩) 0 0) (hg : w.heap[g]? = some (.cells #[] e (0, 0))) (A : Option Addr) (m c : Nat) (news : List Value) (hx : a.eval x = .slice A m c) (hr : Cel w A news) (hA : A = none → c = 0) (hm : news.length = m * sz) (h1 : ∀ u ∈ news, u.oneCell' = true) (hl : m ≤ 1048577) (hby : bytes ≤ 100) (B : Nat) (hB : B ≤ g)
    (h : ∀ v' w', w'.ownsRow B e sz v' m news → T v' w') : growOp P ops o a w T := by
  obtain ⟨v', w', hrun, hE, hN⟩ := run_app0S (P := P) (ty := o.type) hT g hg A m c news hr hA hm h1 hl hby B hB
  refine growOp_go ?_
  have hw : Region.wanted o (yielded ops a.tmps) = true := by simp [Region.wanted, hgd]
  rw [if_pos hw]
  have : (execOp a.eval o).run P w = .ok (.value v') w' := by
    simp only [execOp, ho, resolve, invoke, builtin, Sem.run_bind, Sem.run_pure, Result.andThen_ok, List.map_toArray, List.map_cons, List.map_nil, hs, hx, hrun]
  rw [this]
  exact ⟨hE, h v' w' hN⟩
/-- A row that is owned. -/
def SP.own (B : Nat) (T : TypeId) (s n : Nat) (xs : List Value) : SP :=
  { p := fun v w => w.ownsRow B T s v n xs
    st := fun v w w' hE h => Ext.own hE h }
theorem row_one {es : List (El Msg)} : ∀ u ∈ rowOf kMsg es, u.oneCell' = true := by
  intro u hu
  simp only [rowOf, List.mem_flatten, List.mem_map] at hu
  obtain ⟨cs, ⟨e, _, rfl⟩, hu⟩ := hu
  exact msg_one e.x e.A _ e.c u (by simpa [El.cells] using hu)
/-- The parts of a row of an owned block. -/
theorem cel_part {α : Type} {K : Kind α} {w : World} {B : Nat} {T : TypeId} {G n cap : Nat} {es : List (El α)} (h : w.ownsRow B T K.size (.slice (some ⟨G, 0, none⟩) n cap) n (rowOf K es)) (i : Nat) (hi : i + 1 ≤ n) (hn : es.length = n) :
    Cel w (some ⟨G, 0, none⟩) (rowOf K (es.take i)) ∧ Cel w (if cap = i + 1 then some ⟨G, 0, none⟩ else some ⟨G, (i + 1) * K.size, none⟩) (rowOf K (es.drop (i + 1))) := by
  rcases h.2 with ⟨h0, _⟩ | ⟨g, cp, cur, e1, hB, hg, hc, hm, hs, ht⟩
  · cases h0
  · injection e1 with e1 e2 e3
    injection e1 with e1
    injection e1 with e1
    subst e1 e3
    obtain ⟨q1, _, q3⟩ := blk_cells hg
    have hall : ∀ (j : Nat) (u : Value), (rowOf K es)[j]? = some u → w.cell? ⟨G, j, none⟩ = some u := fun j u hu => by
      rw [q1]
      rw [← ht] at hu
      have hj : j < n * K.size := by
        rcases Nat.lt_or_ge j (n * K.size) with h | h
        · exact h
        · rw [List.getElem?_eq_none (by simp; omega)] at hu
          cases hu
      rw [List.getElem?_take_of_lt hj] at hu
      simpa using hu
    refine ⟨.inr ⟨G, 0, rfl, q3, fun j u hu => ?_⟩, ?_⟩
    · rw [Nat.zero_add]
      refine hall j u ?_
      rw [rowOf_take, List.getElem?_take] at hu
      split at hu
      · exact hu
      · cases hu
    · by_cases hcap : cap = i + 1
      · refine .inl ?_
        rw [List.drop_eq_nil_of_le (by omega)]
        rfl
      · rw [if_neg hcap]
        refine .inr ⟨G, _, rfl, q3, fun j u hu => hall _ u ?_⟩
        rw [rowOf_drop, List.getElem?_drop] at hu
        exact hu
end Go.Proofs.Ytkmklafjcjkpdaa
