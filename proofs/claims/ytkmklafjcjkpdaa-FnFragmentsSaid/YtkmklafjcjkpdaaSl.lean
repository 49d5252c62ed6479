/- Slices of numbers: what came in, copies, comparisons. -/
import Derived.Test.YtkmklafjcjkpdaaMem
import Derived.Test.YtkmklafjcjkpdaaBlk
import Derived.LoopTactic
import Derived.Deep.QuietTactic
import Derived.BigQuiet
namespace Go.Proofs.Ytkmklafjcjkpdaa
open Go.RowKit
set_option linter.unusedVariables false
set_option linter.unusedSimpArgs false

theorem rd_list {α : Type} {p : Nat → α → Prop} : ∀ n, (∀ i, i < n → ∃ x, p i x) → ∃ l : List α, l.length = n ∧ ∀ i (hi : i < l.length), p i l[i]
  | 0, _ => ⟨[], rfl, fun i hi => absurd hi (by simp)⟩
  | n + 1, h => by
    obtain ⟨l, hl, hp⟩ := rd_list n fun i hi => h i (by omega)
    obtain ⟨x, hx⟩ := h n (by omega)
    refine ⟨l ++ [x], by simp [hl], fun i hi => ?_⟩
    by_cases hin : i < l.length
    · rw [List.getElem_append_left hin]
      exact hp i hin
    · have : i = n := by simp at hi; omega
      subst this
      rw [List.getElem_append_right (by omega)]
      simpa using hx

theorem Ext.drewN_ {a w : World} (h : Ext a w) (n : Nat) : Ext a (w.drewN n) := ⟨h.os, h.tape, h.output, h.size, h.block⟩

/-- A slice of one-cell numbers that came in. -/
theorem view_nums {P : Program} {w : World} {t e : TypeId} {k : IntKind} {A : Option Addr} {n c : Nat} (ht : P.underlying t = some (.slice e)) (he : P.underlying e = some (.int k)) (hc : P.cellsOf e = 1)
    (h : Rd P w t [.slice A n c]) : ∃ zs : List Int, zs.length = n ∧ Cel w A (zs.map (Value.int k)) ∧ (∀ z ∈ zs, (Lit.int k z).wf = true) ∧ (A = none → c = 0) ∧ n ≤ c ∧ c ≤ maxLen := by
  rcases Rd.slice ht h with h0 | ⟨a, n', c', hcs, h1, h2, h3⟩
  · simp at h0
    obtain ⟨rfl, rfl, rfl⟩ := h0
    exact ⟨[], rfl, .nil, fun z hz => by simp at hz, fun _ => rfl, Nat.le_refl _, Nat.zero_le _⟩
  · simp at hcs
    obtain ⟨rfl, rfl, rfl⟩ := hcs
    rw [hc] at h3
    obtain ⟨zs, hl, hz⟩ := rd_list (p := fun i z => w.cell? (a.add i) = some (.int k z) ∧ (Lit.int k z).wf = true) n fun i hi => by
      obtain ⟨es, l1, c1, r1⟩ := h3 i hi
      obtain ⟨z, rfl, wz⟩ := Rd.int he r1
      have := c1 0 (by omega)
      simp at this
      exact ⟨z, this, wz⟩
    refine ⟨zs, hl, ?_, fun z hz' => ?_, fun h => by simp at h, h1, h2⟩
    · rcases Nat.eq_zero_or_pos zs.length with h0 | h0
      · exact .inl (by simpa using h0)
      · obtain ⟨b, off, spot⟩ := a
        have h00 := (hz 0 h0).1
        have hspot : spot = none := by simpa [Addr.add] using World.cell?_spot h00
        subst hspot
        have hlt : b < w.heap.size := by
          rcases Nat.lt_or_ge b w.heap.size with h | h
          · exact h
          · rw [add_zero_addr] at h00
            simp [World.cell?, Array.getElem?_eq_none h] at h00
        refine .inr ⟨b, off, rfl, hlt, fun j u hu => ?_⟩
        have hj : j < zs.length := by
          rcases Nat.lt_or_ge j zs.length with h | h
          · exact h
          · rw [List.getElem?_eq_none (by simpa using h)] at hu
            cases hu
        have := (hz j hj).1
        rw [add_zero_addr] at this
        rw [this]
        simpa [hj] using hu
    · obtain ⟨i, hi, rfl⟩ := List.getElem_of_mem hz'
      exact (hz i hi).2

/-- A new row while it is filled: the first k cells are copied, the others are as made. -/
def cpy (zs : List Value) (z : Value) (k : Nat) : Array Value := (zs.take k ++ List.replicate (zs.length - k) z).toArray
theorem cpy_zero (zs : List Value) (z : Value) : cpy zs z 0 = (List.replicate zs.length z).toArray := by simp [cpy]
theorem cpy_all (zs : List Value) (z : Value) : cpy zs z zs.length = zs.toArray := by simp [cpy]
theorem cpy_size (zs : List Value) (z : Value) {k : Nat} (hk : k ≤ zs.length) : (cpy zs z k).size = zs.length := by simp [cpy]; omega
theorem cpy_set (zs : List Value) (z : Value) (k : Nat) (hk : k < zs.length) : (cpy zs z k).setIfInBounds k zs[k] = cpy zs z (k + 1) := by
  unfold cpy
  rw [List.setIfInBounds_toArray]
  congr 1
  have h1 : zs.length - k = (zs.length - (k + 1)) + 1 := by omega
  have h2 : k - (zs.take k).length = 0 := by simp; omega
  rw [h1, List.replicate_succ, List.set_append_right _ _ (by simp; omega), h2, List.set_cons_zero, take_snoc_get zs k hk, List.append_assoc]
  rfl

theorem made_one (z : Value) (n : Nat) : madeCells #[z] n = (List.replicate n z).toArray := by
  apply Array.ext'
  rw [toList_madeCells_one]

/-- make([]T, n) of one-cell elements: closed but for n and the world. -/
theorem make_one {P : Program} {t e : TypeId} {bytes : Nat} {z : Value} (hT : ElemTy P t e 1 bytes) (hz : (P.info? e).map (fun i => i.zero) = some (some z)) (hz1 : z.cells = #[z]) (n : Nat) (hn : bytes * n ≤ 281474976710656) (h63 : n ≤ 9223372036854775807) (W : World) :
    (Instr.makeSlice t (.int .i64 (n : Int)) (.int .i64 (n : Int))).run P W = .ok (.slice (some ⟨W.heap.size, 0, none⟩) n n) (W.alloc (.cells (List.replicate n z).toArray e)) := by
  obtain ⟨i, z', hi, hz', hs, hb, _⟩ := hT.info
  have hzz : z' = z := by
    rw [hi] at hz
    simp only [Option.map_some, Option.some.injEq] at hz
    rw [hz'] at hz
    exact Option.some.inj hz
  subst hzz
  have hbn : (i.bytes : Int) * (n : Int) ≤ 281474976710656 := by
    rw [hb]
    have h0 : ((bytes * n : Nat) : Int) ≤ 281474976710656 := by omega
    rwa [Int.natCast_mul] at h0
  have h := run_make (P := P) W t e i _ hT.und hi hz' .i64 .i64 (n : Int) (n : Int) (by omega) (by omega) hbn (by omega)
  rw [h, hs, hz1, Int.toNat_natCast, Nat.mul_one, made_one]
theorem elByte : ElemTy Try.prog 22 5 1 1 := ElemTy.mk_ (z := .int .u8 0) Try.underlying22 (by kernel_rfl) rfl (by decide)
end Go.Proofs.Ytkmklafjcjkpdaa
