/- Fragments: both sides make the same row of frames. -/
import Derived.Test.YtkmklafjcjkpdaaMacS
import Derived.Test.YtkmklafjcjkpdaaSt
import Derived.Test.YtkmklafjcjkpdaaG5
namespace Go.Proofs.Ytkmklafjcjkpdaa
open Go.RowKit
set_option linter.unusedVariables false
set_option linter.unusedSimpArgs false

def frgAt (m : Mac) (N : Int) (t : Nat) (i : Nat) : Mac := { m with fr := i, mo := decide ((i : Int) < N - 1), body := (m.body.drop (i * t)).take (min ((i + 1) * t) m.body.length - i * t) }
def frgL (m : Mac) (t : Int) : List Mac := (List.range (fragV m.body.length t).toNat).map (frgAt m (fragV m.body.length t) t.toNat)
/-- How many fragments: none, or their places lie in the body. -/
theorem fragV_cases (b : Nat) (t : Int) : (fragV b t = 0) ∨ (∃ N tn : Nat, fragV b t = N ∧ t = tn ∧ 1 ≤ tn ∧ tn ≤ 100 ∧ 1 ≤ N ∧ N ≤ 16 ∧ b ≤ 16 * tn ∧ ∀ k, k < N → k * tn ≤ b ∧ (b = 0 ∨ k * tn < b)) := by
  by_cases h2 : inB t 1 100 = true
  · have hb := inB_true h2
    by_cases h3 : 16 * t < b
    · exact .inl (by simp [fragV, h3])
    · refine .inr ?_
      obtain ⟨tn, rfl⟩ : ∃ tn : Nat, t = tn := ⟨t.toNat, by omega⟩
      by_cases h4 : (b : Int) = 0
      · refine ⟨1, tn, ?_, rfl, by omega, by omega, by omega, by omega, by omega, fun k hk => ?_⟩
        · simp [fragV, h2, h4]; omega
        · have : k = 0 := by omega
          subst this
          simp
          omega
      · have e1 : fragV b tn = ((b : Int) + tn - 1) / tn := by
          simp [fragV, h2, h4]
          omega
        have hd := div_bd (b := b) (t := tn) (by omega) (by omega) (by omega)
        refine ⟨(((b : Int) + tn - 1) / tn).toNat, tn, by rw [e1]; omega, rfl, by omega, by omega, by omega, by omega, by omega, fun k hk => ?_⟩
        have hk' : (k : Int) + 1 ≤ ((b : Int) + tn - 1) / tn := by omega
        have h5 := (Int.le_ediv_iff_mul_le (by omega : (0 : Int) < tn)).1 hk'
        have h6 : ((k : Int) + 1) * tn = k * tn + tn := by rw [Int.add_mul]; omega
        have h7 : ((k * tn : Nat) : Int) = (k : Int) * tn := by rw [Int.natCast_mul]
        omega
  · exact .inl (by simp [fragV, show inB t 1 100 = false by simpa using h2])
theorem frgL_len (m : Mac) (t : Int) : (frgL m t).length = (fragV m.body.length t).toNat := by simp [frgL]
def SP.newBn (B n : Nat) (l : List Int) : SP :=
  { p := fun v w => ∃ g A c, v = .slice A n c ∧ NewB w B g A c l
    st := fun v w w' hE ⟨g, A, c, h1, h2⟩ => ⟨g, A, c, h1, h2.ext hE⟩ }
theorem rb_piece {w : World} {g n lo hi : Nat} {l : List Int} (h : RB w (some ⟨g, 0, none⟩) n l) (hn : l.length = n) (h1 : lo ≤ hi) (h2 : hi ≤ n) : RB w (if n = lo then some ⟨g, 0, none⟩ else some ⟨g, lo, none⟩) (n - lo) ((l.drop lo).take (hi - lo)) := by
  refine ⟨?_, fun h => (by split at h <;> cases h), by simp; omega⟩
  by_cases h0 : n = lo
  · refine .inl ?_
    have : hi - lo = 0 := by omega
    simp [this]
  · rw [if_neg h0]
    rcases h.1 with h3 | ⟨b, off, e1, e2, e3⟩
    · have : l = [] := by simpa using h3
      subst this
      exact .inl (by simp)
    · injection e1 with e1
      injection e1 with e4 e5
      subst e4 e5
      refine .inr ⟨g, lo, rfl, e2, fun j u hu => ?_⟩
      have hu' : (l.map (Value.int .u8))[lo + j]? = some u := by
        rw [List.map_take, List.map_drop] at hu
        rw [List.getElem?_take] at hu
        split at hu
        · rwa [List.getElem?_drop] at hu
        · cases hu
      have := e3 (lo + j) u hu'
      rwa [Nat.zero_add] at this
/-- make([]T, 0, n): a new block. -/
theorem make_cap {P : Program} {t e : TypeId} {size bytes : Nat} (hT : ElemTy P t e size bytes) (n : Nat) (hn : bytes * n ≤ 281474976710656) (h63 : n ≤ 9223372036854775807) :
    ∃ cs : Array Value, cs.size = n * size ∧ ∀ W : World, (Instr.makeSlice t (.int .i64 0) (.int .i64 (n : Int))).run P W = .ok (.slice (some ⟨W.heap.size, 0, none⟩) 0 n) (W.alloc (.cells cs e)) := by
  obtain ⟨i, z, hi, hz, hs, hb, _⟩ := hT.info
  have hbn : (i.bytes : Int) * (n : Int) ≤ 281474976710656 := by
    rw [hb]
    have h0 : ((bytes * n : Nat) : Int) ≤ 281474976710656 := by omega
    rwa [Int.natCast_mul] at h0
  refine ⟨madeCells z.cells (n * size), size_madeCells _ _, fun W => ?_⟩
  have h := run_make (P := P) W t e i _ hT.und hi hz .i64 .i64 0 (n : Int) (by omega) (by omega) hbn (by omega)
  rw [h, hs, Int.toNat_natCast]
  rfl
end Go.Proofs.Ytkmklafjcjkpdaa
