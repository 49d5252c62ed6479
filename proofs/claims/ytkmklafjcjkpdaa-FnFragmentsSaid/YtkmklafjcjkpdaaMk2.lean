/- Marks of reassemblies and of seen frames; marks of one record's body. -/
import Derived.Test.YtkmklafjcjkpdaaMk
namespace Go.Proofs.Ytkmklafjcjkpdaa
open Go.RowKit
set_option linter.unusedVariables false
set_option linter.unusedSimpArgs false

def mkRea (k : Int) (m : Rea) : Rea := ⟨k, k + 1, k + 1 + 1, k + 1 + 1 + 1 + m.body.length, bytesK (k + 1 + 1 + 1) m.body.length⟩
def cRea (m : Rea) : Nat := 4 + m.body.length
theorem ownE_rea {w : World} {B C G : Nat} {T : TypeId} {es : List (El Rea)} (h : OwnE kRea w B C G T es) {i : Nat} (hi : i < es.length) :
    w.cell? ⟨G, i * 5, none⟩ = some (.int .i64 es[i].x.frm) ∧ w.cell? ⟨G, i * 5 + 1, none⟩ = some (.int .i64 es[i].x.sq) ∧ w.cell? ⟨G, i * 5 + 2, none⟩ = some (.int .i64 es[i].x.nx) ∧ w.cell? ⟨G, i * 5 + 3, none⟩ = some (.slice es[i].A es[i].x.body.length es[i].c) ∧ w.cell? ⟨G, i * 5 + 4, none⟩ = some (.int .i64 es[i].x.st) ∧ (∀ p, w.frozen? ⟨G, p, none⟩ = false) ∧ G < w.heap.size :=
  ⟨(h.at_ hi (j := 0) (by decide)).1, (h.at_ hi (j := 1) (by decide)).1, (h.at_ hi (j := 2) (by decide)).1, (h.at_ hi (j := 3) (by decide)).1, (h.at_ hi (j := 4) (by decide)).1, (h.at_ hi (j := 3) (by decide)).2⟩
theorem ownE_rea3 {w : World} {B C G : Nat} {T : TypeId} {es : List (El Rea)} (h : OwnE kRea w B C G T es) {i : Nat} (hi : i < es.length) (x y z : Int) :
    OwnE kRea (((w.setCell ⟨G, i * 5, none⟩ (.int .i64 x)).setCell ⟨G, i * 5 + 1, none⟩ (.int .i64 y)).setCell ⟨G, i * 5 + 2, none⟩ (.int .i64 z)) B C G T (es.set i { es[i] with x := ⟨x, y, z, es[i].x.st, es[i].x.body⟩ }) := by
  have h1 := h.setHd i hi 0 (by decide) { es[i].x with frm := x } (.int .i64 x) rfl (fun v => rfl)
  have h2 := h1.setHd i (by simpa using hi) 1 (by decide) ⟨x, y, es[i].x.nx, es[i].x.st, es[i].x.body⟩ (.int .i64 y) (by simp [kRea]) (fun v => by simp [kRea])
  have h3 := h2.setHd i (by simpa using hi) 2 (by decide) ⟨x, y, z, es[i].x.st, es[i].x.body⟩ (.int .i64 z) (by simp [kRea]) (fun v => by simp [kRea])
  simpa [show kRea.size = 5 from rfl] using h3
def mkSeen (k : Int) (m : Seen) : Seen := ⟨k, k + 1, k + 1 + 1, k + 1 + 1 + 1⟩
def cSeen (m : Seen) : Nat := 4
theorem ownE_seen {w : World} {B C G : Nat} {T : TypeId} {es : List (El Seen)} (h : OwnE kSeen w B C G T es) {i : Nat} (hi : i < es.length) :
    w.cell? ⟨G, i * 4, none⟩ = some (.int .i64 es[i].x.frm) ∧ w.cell? ⟨G, i * 4 + 1, none⟩ = some (.int .i64 es[i].x.cat) ∧ w.cell? ⟨G, i * 4 + 2, none⟩ = some (.int .i64 es[i].x.sq) ∧ w.cell? ⟨G, i * 4 + 3, none⟩ = some (.int .i64 es[i].x.fr) ∧ (∀ p, w.frozen? ⟨G, p, none⟩ = false) ∧ G < w.heap.size :=
  ⟨(h.at_ hi (j := 0) (by decide)).1, (h.at_ hi (j := 1) (by decide)).1, (h.at_ hi (j := 2) (by decide)).1, (h.at_ hi (j := 3) (by decide)).1, (h.at_ hi (j := 3) (by decide)).2⟩
theorem ownE_seen3 {w : World} {B C G : Nat} {T : TypeId} {es : List (El Seen)} (h : OwnE kSeen w B C G T es) {i : Nat} (hi : i < es.length) (x y z u : Int) :
    OwnE kSeen ((((w.setCell ⟨G, i * 4, none⟩ (.int .i64 x)).setCell ⟨G, i * 4 + 1, none⟩ (.int .i64 y)).setCell ⟨G, i * 4 + 2, none⟩ (.int .i64 z)).setCell ⟨G, i * 4 + 3, none⟩ (.int .i64 u)) B C G T (es.set i { es[i] with x := ⟨x, y, z, u⟩ }) := by
  have h1 := h.setHd i hi 0 (by decide) { es[i].x with frm := x } (.int .i64 x) rfl (fun v => rfl)
  have h2 := h1.setHd i (by simpa using hi) 1 (by decide) ⟨x, y, es[i].x.sq, es[i].x.fr⟩ (.int .i64 y) (by simp [kSeen]) (fun v => by simp [kSeen])
  have h3 := h2.setHd i (by simpa using hi) 2 (by decide) ⟨x, y, z, es[i].x.fr⟩ (.int .i64 z) (by simp [kSeen]) (fun v => by simp [kSeen])
  have h3 := h3.setHd i (by simpa using hi) 3 (by decide) ⟨x, y, z, u⟩ (.int .i64 u) (by simp [kSeen]) (fun v => by simp [kSeen])
  simpa [show kSeen.size = 4 from rfl] using h3
end Go.Proofs.Ytkmklafjcjkpdaa
