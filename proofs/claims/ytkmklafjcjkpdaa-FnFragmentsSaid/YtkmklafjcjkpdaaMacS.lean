/- Rows of frames: what is read, compared, marked. -/
import Derived.Test.YtkmklafjcjkpdaaNb
namespace Go.Proofs.Ytkmklafjcjkpdaa
open Go.RowKit
set_option linter.unusedVariables false
set_option linter.unusedSimpArgs false

theorem els_mac {w : World} {b off : Nat} {l : List Mac} (h : ∀ i (h : i < l.length), ∃ cs, kE kMac w l[i] cs ∧ ∀ j u, cs[j]? = some u → w.cell? ⟨b, off + i * 9 + j, none⟩ = some u) (k : Nat) (hk : k < l.length) :
    ∃ A c, RB w A c l[k].body ∧ w.cell? ⟨b, off + k * 9, none⟩ = some (.int .i64 l[k].kd) ∧ w.cell? ⟨b, off + k * 9 + 1, none⟩ = some (.int .i64 l[k].fm) ∧ w.cell? ⟨b, off + k * 9 + 2, none⟩ = some (.int .i64 l[k].to) ∧ w.cell? ⟨b, off + k * 9 + 3, none⟩ = some (.int .i64 l[k].sq) ∧ w.cell? ⟨b, off + k * 9 + 4, none⟩ = some (.int .i64 l[k].fr) ∧ w.cell? ⟨b, off + k * 9 + 5, none⟩ = some (.bool l[k].mo) ∧ w.cell? ⟨b, off + k * 9 + 6, none⟩ = some (.bool l[k].re) ∧ w.cell? ⟨b, off + k * 9 + 7, none⟩ = some (.int .i64 l[k].du) ∧ w.cell? ⟨b, off + k * 9 + 8, none⟩ = some (.slice A l[k].body.length c) := by
  obtain ⟨cs, ⟨A, c, rfl, hr⟩, h2⟩ := h k hk
  exact ⟨A, c, hr, h2 0 _ rfl, h2 1 _ rfl, h2 2 _ rfl, h2 3 _ rfl, h2 4 _ rfl, h2 5 _ rfl, h2 6 _ rfl, h2 7 _ rfl, h2 8 _ rfl⟩
theorem mac_one (m : Mac) (A : Option Addr) (n c : Nat) : ∀ u ∈ kMac.hd m (.slice A n c), u.oneCell' = true := by
  intro u hu
  simp [kMac] at hu
  rcases hu with rfl | rfl | rfl | rfl | rfl | rfl | rfl | rfl | rfl <;> rfl
theorem elMac : ElemTy Try.prog 105 66 9 80 := ElemTy.mk_ (z := .agg #[.int .i64 0, .int .i64 0, .int .i64 0, .int .i64 0, .int .i64 0, .bool false, .bool false, .int .i64 0, .slice none 0 0]) Try.underlying105 (by kernel_rfl) (by kernel_rfl) (by decide)
def mkMac (k : Int) (m : Mac) : Mac := ⟨k, k + 1, k + 1 + 1, k + 1 + 1 + 1, k + 1 + 1 + 1 + 1, ((k + 1 + 1 + 1 + 1 + 1) % 3 == 0), ((k + 1 + 1 + 1 + 1 + 1 + 1) % 3 == 0), k + 1 + 1 + 1 + 1 + 1 + 1 + 1, bytesK (k + 1 + 1 + 1 + 1 + 1 + 1 + 1 + 1) m.body.length⟩
def cMac (m : Mac) : Nat := 8 + m.body.length
theorem ownE_mac {w : World} {B C G : Nat} {T : TypeId} {es : List (El Mac)} (h : OwnE kMac w B C G T es) {i : Nat} (hi : i < es.length) :
    w.cell? ⟨G, i * 9, none⟩ = some (.int .i64 es[i].x.kd) ∧ w.cell? ⟨G, i * 9 + 1, none⟩ = some (.int .i64 es[i].x.fm) ∧ w.cell? ⟨G, i * 9 + 2, none⟩ = some (.int .i64 es[i].x.to) ∧ w.cell? ⟨G, i * 9 + 3, none⟩ = some (.int .i64 es[i].x.sq) ∧ w.cell? ⟨G, i * 9 + 4, none⟩ = some (.int .i64 es[i].x.fr) ∧ w.cell? ⟨G, i * 9 + 5, none⟩ = some (.bool es[i].x.mo) ∧ w.cell? ⟨G, i * 9 + 6, none⟩ = some (.bool es[i].x.re) ∧ w.cell? ⟨G, i * 9 + 7, none⟩ = some (.int .i64 es[i].x.du) ∧ w.cell? ⟨G, i * 9 + 8, none⟩ = some (.slice es[i].A es[i].x.body.length es[i].c) ∧ (∀ p, w.frozen? ⟨G, p, none⟩ = false) ∧ G < w.heap.size :=
  ⟨(h.at_ hi (j := 0) (by decide)).1, (h.at_ hi (j := 1) (by decide)).1, (h.at_ hi (j := 2) (by decide)).1, (h.at_ hi (j := 3) (by decide)).1, (h.at_ hi (j := 4) (by decide)).1, (h.at_ hi (j := 5) (by decide)).1, (h.at_ hi (j := 6) (by decide)).1, (h.at_ hi (j := 7) (by decide)).1, (h.at_ hi (j := 8) (by decide)).1, (h.at_ hi (j := 8) (by decide)).2⟩
theorem ownE_mac8 {w : World} {B C G : Nat} {T : TypeId} {es : List (El Mac)} (h : OwnE kMac w B C G T es) {i : Nat} (hi : i < es.length) (x0 x1 x2 x3 x4 : Int) (x5 x6 : Bool) (x7 : Int) :
    OwnE kMac ((((((((w.setCell ⟨G, i * 9, none⟩ (.int .i64 x0)).setCell ⟨G, i * 9 + 1, none⟩ (.int .i64 x1)).setCell ⟨G, i * 9 + 2, none⟩ (.int .i64 x2)).setCell ⟨G, i * 9 + 3, none⟩ (.int .i64 x3)).setCell ⟨G, i * 9 + 4, none⟩ (.int .i64 x4)).setCell ⟨G, i * 9 + 5, none⟩ (.bool x5)).setCell ⟨G, i * 9 + 6, none⟩ (.bool x6)).setCell ⟨G, i * 9 + 7, none⟩ (.int .i64 x7)) B C G T (es.set i { es[i] with x := ⟨x0, x1, x2, x3, x4, x5, x6, x7, es[i].x.body⟩ }) := by
  have h1 := h.setHd i (by simpa using hi) 0 (by decide) ⟨x0, es[i].x.fm, es[i].x.to, es[i].x.sq, es[i].x.fr, es[i].x.mo, es[i].x.re, es[i].x.du, es[i].x.body⟩ (.int .i64 x0) (by simp [kMac]) (fun v => by simp [kMac])
  have h2 := h1.setHd i (by simpa using hi) 1 (by decide) ⟨x0, x1, es[i].x.to, es[i].x.sq, es[i].x.fr, es[i].x.mo, es[i].x.re, es[i].x.du, es[i].x.body⟩ (.int .i64 x1) (by simp [kMac]) (fun v => by simp [kMac])
  have h3 := h2.setHd i (by simpa using hi) 2 (by decide) ⟨x0, x1, x2, es[i].x.sq, es[i].x.fr, es[i].x.mo, es[i].x.re, es[i].x.du, es[i].x.body⟩ (.int .i64 x2) (by simp [kMac]) (fun v => by simp [kMac])
  have h4 := h3.setHd i (by simpa using hi) 3 (by decide) ⟨x0, x1, x2, x3, es[i].x.fr, es[i].x.mo, es[i].x.re, es[i].x.du, es[i].x.body⟩ (.int .i64 x3) (by simp [kMac]) (fun v => by simp [kMac])
  have h5 := h4.setHd i (by simpa using hi) 4 (by decide) ⟨x0, x1, x2, x3, x4, es[i].x.mo, es[i].x.re, es[i].x.du, es[i].x.body⟩ (.int .i64 x4) (by simp [kMac]) (fun v => by simp [kMac])
  have h6 := h5.setHd i (by simpa using hi) 5 (by decide) ⟨x0, x1, x2, x3, x4, x5, es[i].x.re, es[i].x.du, es[i].x.body⟩ (.bool x5) (by simp [kMac]) (fun v => by simp [kMac])
  have h7 := h6.setHd i (by simpa using hi) 6 (by decide) ⟨x0, x1, x2, x3, x4, x5, x6, es[i].x.du, es[i].x.body⟩ (.bool x6) (by simp [kMac]) (fun v => by simp [kMac])
  have h8 := h7.setHd i (by simpa using hi) 7 (by decide) ⟨x0, x1, x2, x3, x4, x5, x6, x7, es[i].x.body⟩ (.int .i64 x7) (by simp [kMac]) (fun v => by simp [kMac])
  simpa [show kMac.size = 9 from rfl] using h8
end Go.Proofs.Ytkmklafjcjkpdaa
