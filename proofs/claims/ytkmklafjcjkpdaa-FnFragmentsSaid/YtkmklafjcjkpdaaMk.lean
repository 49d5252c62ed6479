/- Marks of messages, reassemblies, frames, seen frames: what the rows hold then, and that the check sees it. -/
import Derived.Test.YtkmklafjcjkpdaaMark
import Derived.Test.YtkmklafjcjkpdaaSeen
import Derived.Test.YtkmklafjcjkpdaaMac
namespace Go.Proofs.Ytkmklafjcjkpdaa
open Go.RowKit
set_option linter.unusedVariables false
set_option linter.unusedSimpArgs false

section
variable {α : Type} {K : Kind α} {w w' : World} {B C G : Nat} {T : TypeId} {es : List (El α)}
theorem OwnE.body (h : OwnE K w B C G T es) (i : Nat) (hi : i < es.length) : (K.bd es[i].x).length = 0 ∨ es[i].A = some ⟨es[i].g, 0, none⟩ ∧ ∃ (cs : Array Value) (T : TypeId), w.heap[es[i].g]? = some (.cells cs T (0, 0)) ∧ (K.bd es[i].x).length ≤ cs.size := by
  obtain ⟨_, _, _, hB⟩ := h
  obtain ⟨_, _, q⟩ := hB.1 es[i] (List.getElem_mem _)
  rcases q with q | ⟨a, b, c, d, cs, T, e, f⟩
  · exact .inl (by rw [q]; rfl)
  · refine .inr ⟨a, cs, T, e, ?_⟩
    rcases Nat.lt_or_ge cs.size (K.bd es[i].x).length with h | h
    · have := f cs.size _ (List.getElem?_eq_getElem h)
      rw [Array.getElem?_eq_none (Nat.le_refl _)] at this
      cases this
    · exact h
theorem OwnE.chgS (h : OwnE K w B C G T es) (i : Nat) (hi : i < es.length) (h0 : (K.bd es[i].x).length ≠ 0) : B ≤ es[i].g ∧ es[i].g < C := by
  obtain ⟨_, _, _, hB⟩ := h
  obtain ⟨_, _, q⟩ := hB.1 es[i] (List.getElem_mem _)
  obtain ⟨a, b, c, _⟩ := q.resolve_left (by intro h; exact h0 (by rw [h]; rfl))
  exact ⟨b, c⟩
theorem map_set_x (i : Nat) (e' : El α) : (es.set i e').map (·.x) = (es.map (·.x)).set i e'.x := List.map_set
theorem chg_body {n g : Nat} {S : Nat → Prop} (h : Chg w w' (fun b => b = g)) (h0 : n = 0 → w' = w) (hS : n ≠ 0 → S g) : Chg w w' S := by
  by_cases hn : n = 0
  · rw [h0 hn]; exact Chg.refl _ _
  · exact h.mono fun x hx => by rw [hx]; exact hS hn
theorem mem_get {l l' : List α} {m : Nat} (h : l = l') (h1 : m < l.length) (h2 : m < l'.length) : l[m] = l'[m] := by subst h; rfl
theorem Own.nil' {A : Option Addr} : Own K w B C A [] := .inl rfl
end

def mkMsg (k : Int) (m : Msg) : Msg := ⟨k, k + 1, k + 1 + 1, bytesK (k + 1 + 1 + 1) m.body.length⟩
def cMsg (m : Msg) : Nat := 3 + m.body.length
theorem ownE_msg {w : World} {B C G : Nat} {T : TypeId} {es : List (El Msg)} (h : OwnE kMsg w B C G T es) {i : Nat} (hi : i < es.length) :
    w.cell? ⟨G, i * 4, none⟩ = some (.int .i64 es[i].x.to) ∧ w.cell? ⟨G, i * 4 + 1, none⟩ = some (.int .i64 es[i].x.cat) ∧ w.cell? ⟨G, i * 4 + 2, none⟩ = some (.int .i64 es[i].x.dl) ∧ w.cell? ⟨G, i * 4 + 3, none⟩ = some (.slice es[i].A es[i].x.body.length es[i].c) ∧ (∀ p, w.frozen? ⟨G, p, none⟩ = false) ∧ G < w.heap.size :=
  ⟨(h.at_ hi (j := 0) (by decide)).1, (h.at_ hi (j := 1) (by decide)).1, (h.at_ hi (j := 2) (by decide)).1, (h.at_ hi (j := 3) (by decide)).1, (h.at_ hi (j := 3) (by decide)).2⟩
theorem ownE_msg3 {w : World} {B C G : Nat} {T : TypeId} {es : List (El Msg)} (h : OwnE kMsg w B C G T es) {i : Nat} (hi : i < es.length) (x y z : Int) :
    OwnE kMsg (((w.setCell ⟨G, i * 4, none⟩ (.int .i64 x)).setCell ⟨G, i * 4 + 1, none⟩ (.int .i64 y)).setCell ⟨G, i * 4 + 2, none⟩ (.int .i64 z)) B C G T (es.set i { es[i] with x := ⟨x, y, z, es[i].x.body⟩ }) := by
  have h1 := h.setHd i hi 0 (by decide) { es[i].x with to := x } (.int .i64 x) rfl (fun v => rfl)
  have h2 := h1.setHd i (by simpa using hi) 1 (by decide) ⟨x, y, es[i].x.dl, es[i].x.body⟩ (.int .i64 y) (by simp [kMsg]) (fun v => by simp [kMsg])
  have h3 := h2.setHd i (by simpa using hi) 2 (by decide) ⟨x, y, z, es[i].x.body⟩ (.int .i64 z) (by simp [kMsg]) (fun v => by simp [kMsg])
  simpa [show kMsg.size = 4 from rfl] using h3
end Go.Proofs.Ytkmklafjcjkpdaa
