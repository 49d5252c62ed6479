/- Lists of messages and of reassemblies: the size check, the copy and the comparison of the laws. -/
import Derived.Test.YtkmklafjcjkpdaaEls2
namespace Go.Proofs.Ytkmklafjcjkpdaa
open Go.RowKit
set_option linter.unusedVariables false
set_option linter.unusedSimpArgs false

def tot {α : Type} (K : Kind α) (l : List α) : Int := (l.map fun m => ((K.bd m).length : Int)).sum
section
variable {α : Type} {K : Kind α}
theorem tot_nonneg (l : List α) : 0 ≤ tot K l := by
  induction l with
  | nil => simp [tot]
  | cons m ms ih => simp [tot] at ih ⊢; omega
theorem tot_append (a b : List α) : tot K (a ++ b) = tot K a + tot K b := by simp [tot]
theorem tot_take_le (l : List α) (k : Nat) : tot K (l.take k) ≤ tot K l := by
  have h : tot K l = tot K (l.take k) + tot K (l.drop k) := by rw [← tot_append, List.take_append_drop]
  have := tot_nonneg (K := K) (l.drop k)
  omega
theorem tot_next (l : List α) (k : Nat) (h : k < l.length) : tot K (l.take (k + 1)) = tot K (l.take k) + (K.bd l[k]).length := by
  rw [take_snoc_get l k h, tot_append]
  simp [tot]
theorem tot_one_le (l : List α) (k : Nat) (h : k < l.length) : ((K.bd l[k]).length : Int) ≤ tot K l := by
  have h1 := tot_next (K := K) l k h
  have h2 := tot_take_le (K := K) l (k + 1)
  have h3 := tot_nonneg (K := K) (l.take k)
  omega
end

def kMsg : Kind Msg := { size := 4, hd := fun m v => [.int .i64 m.to, .int .i64 m.cat, .int .i64 m.dl, v], bd := fun m => m.body, hlen := fun _ _ => rfl }
structure Rea where
  frm : Int
  sq : Int
  nx : Int
  st : Int
  body : List Int
def kRea : Kind Rea := { size := 5, hd := fun m v => [.int .i64 m.frm, .int .i64 m.sq, .int .i64 m.nx, v, .int .i64 m.st], bd := fun m => m.body, hlen := fun _ _ => rfl }
theorem kMsg_bd (m : Msg) : kMsg.bd m = m.body := rfl
theorem kRea_bd (m : Rea) : kRea.bd m = m.body := rfl

/-- The cells of element k. -/
theorem els_msg {w : World} {b off : Nat} {l : List Msg} (h : ∀ i (h : i < l.length), ∃ cs, kE kMsg w l[i] cs ∧ ∀ j u, cs[j]? = some u → w.cell? ⟨b, off + i * 4 + j, none⟩ = some u) (k : Nat) (hk : k < l.length) :
    ∃ A c, RB w A c l[k].body ∧ w.cell? ⟨b, off + k * 4, none⟩ = some (.int .i64 l[k].to) ∧ w.cell? ⟨b, off + k * 4 + 1, none⟩ = some (.int .i64 l[k].cat) ∧ w.cell? ⟨b, off + k * 4 + 2, none⟩ = some (.int .i64 l[k].dl) ∧
      w.cell? ⟨b, off + k * 4 + 3, none⟩ = some (.slice A l[k].body.length c) := by
  obtain ⟨cs, ⟨A, c, rfl, hr⟩, h2⟩ := h k hk
  exact ⟨A, c, hr, h2 0 _ rfl, h2 1 _ rfl, h2 2 _ rfl, h2 3 _ rfl⟩
theorem els_rea {w : World} {b off : Nat} {l : List Rea} (h : ∀ i (h : i < l.length), ∃ cs, kE kRea w l[i] cs ∧ ∀ j u, cs[j]? = some u → w.cell? ⟨b, off + i * 5 + j, none⟩ = some u) (k : Nat) (hk : k < l.length) :
    ∃ A c, RB w A c l[k].body ∧ w.cell? ⟨b, off + k * 5, none⟩ = some (.int .i64 l[k].frm) ∧ w.cell? ⟨b, off + k * 5 + 1, none⟩ = some (.int .i64 l[k].sq) ∧ w.cell? ⟨b, off + k * 5 + 2, none⟩ = some (.int .i64 l[k].nx) ∧
      w.cell? ⟨b, off + k * 5 + 3, none⟩ = some (.slice A l[k].body.length c) ∧ w.cell? ⟨b, off + k * 5 + 4, none⟩ = some (.int .i64 l[k].st) := by
  obtain ⟨cs, ⟨A, c, rfl, hr⟩, h2⟩ := h k hk
  exact ⟨A, c, hr, h2 0 _ rfl, h2 1 _ rfl, h2 2 _ rfl, h2 3 _ rfl, h2 4 _ rfl⟩
theorem elMsg : ElemTy Try.prog 53 59 4 48 := ElemTy.mk_ (z := .agg #[.int .i64 0, .int .i64 0, .int .i64 0, .slice none 0 0]) Try.underlying53 (by kernel_rfl) (by kernel_rfl) (by decide)
theorem elRea : ElemTy Try.prog 107 114 5 56 := ElemTy.mk_ (z := .agg #[.int .i64 0, .int .i64 0, .int .i64 0, .slice none 0 0, .int .i64 0]) Try.underlying107 (by kernel_rfl) (by kernel_rfl) (by decide)
/-- A new element whose body is a block that is known whole. -/
theorem ok_new {α : Type} {K : Kind α} {w : World} {B C G g n : Nat} {x : α} {T : TypeId} (hn : (K.bd x).length = n) (h : w.heap[g]? = some (.cells ((K.bd x).map (Value.int .u8)).toArray T (0, 0))) (hB : B ≤ g) (hC : g < C) (hG : g ≠ G) :
    (⟨x, g, some ⟨g, 0, none⟩, n⟩ : El α).ok K w B C G := ⟨(by intro h; cases h), by simp [hn], .inr ⟨rfl, hB, hC, hG, _, _, h, fun j u hu => by simp [hu]⟩⟩
end Go.Proofs.Ytkmklafjcjkpdaa
