/- The plain law on who is received: the nearest of several senders. -/
import Derived.Test.YtkmklafjcjkpdaaBase
import Derived.Test.YtkmklafjcjkpdaaInts
namespace Go.Proofs.Ytkmklafjcjkpdaa
open Go.RowKit
set_option linter.unusedVariables false
set_option linter.unusedSimpArgs false
def plB (P : List Int) (a : Int) : Bool := decide (0 ≤ a) && decide (a < P.length)
def posV (P : List Int) (a : Int) : Int := P[a.toNat]?.getD 0
def dstV (P : List Int) (a b : Int) : Int := if (plB P a && plB P b) = true then wrap64 (max (posV P a) (posV P b) - min (posV P a) (posV P b)) else -1
def crB (P : List Int) (rg a b : Int) : Bool := (a != b) && plB P a && plB P b && decide (dstV P a b ≤ rg)
theorem plB_true {P : List Int} {a : Int} (h : plB P a = true) : ∃ k : Nat, a = (k : Int) ∧ k < P.length := by
  simp [plB] at h
  exact ⟨a.toNat, by omega, by omega⟩
theorem crB_pl {P : List Int} {rg a b : Int} (h : crB P rg a b = true) : plB P a = true ∧ plB P b = true ∧ a ≠ b := by
  unfold crB at h
  simp only [Bool.and_eq_true, bne_iff_ne, ne_eq] at h
  exact ⟨h.1.1.2, h.1.2, h.1.1.1⟩
/-- The nearest of those that are heard, by the senders' order. -/
def bst (D : Int → Int) (S : Int → Bool) (L : List Int) : Nat → Int
  | 0 => -1
  | k + 1 => match L[k]? with
    | some s => if S s = true ∧ (bst D S L k < 0 ∨ D s < D (bst D S L k) ∨ (D s = D (bst D S L k) ∧ s < bst D S L k)) then s else bst D S L k
    | none => bst D S L k
/-- The nearest of those that are marked, by the stations' order. -/
def nrs (D : Int → Int) (M : Nat → Bool) : Nat → Int
  | 0 => -1
  | s + 1 => if M s = true ∧ (nrs D M s < 0 ∨ D s < D (nrs D M s)) then (s : Int) else nrs D M s
def mrk (S : Int → Bool) (L : List Int) (s : Nat) : Bool := L.any fun z => z == (s : Int) && S z
def capB (D : Int → Int) (S : Int → Bool) (L : List Int) (b : Int) : Bool := L.any fun s => s != b && S s && decide (D s < wrap64 (2 * D b))
def Lex (D : Int → Int) (a b : Int) : Prop := D a < D b ∨ D a = D b ∧ a ≤ b
theorem bst_char (D : Int → Int) (S : Int → Bool) (L : List Int) (h0 : ∀ s ∈ L, S s = true → 0 ≤ s) : ∀ k, k ≤ L.length →
    (bst D S L k = -1 ∧ ∀ s ∈ L.take k, S s = false) ∨ (0 ≤ bst D S L k ∧ bst D S L k ∈ L.take k ∧ S (bst D S L k) = true ∧ ∀ s ∈ L.take k, S s = true → Lex D (bst D S L k) s)
  | 0, _ => .inl ⟨rfl, by simp⟩
  | k + 1, hk => by
    have hk' : k < L.length := by omega
    have ih := bst_char D S L h0 k (by omega)
    have hm : L[k] ∈ L := List.getElem_mem hk'
    unfold bst
    rw [List.getElem?_eq_getElem hk', show L.take (k + 1) = L.take k ++ [L[k]] by rw [List.take_succ_eq_append_getElem hk']]
    simp only [List.mem_append, List.mem_singleton]
    generalize L[k] = s at *
    generalize bst D S L k = b at *
    by_cases hS : S s = true
    · by_cases hc : b < 0 ∨ D s < D b ∨ (D s = D b ∧ s < b)
      · rw [if_pos ⟨hS, hc⟩]
        refine .inr ⟨h0 s hm hS, .inr rfl, hS, fun x hx hx2 => ?_⟩
        rcases hx with hx | rfl
        · rcases ih with ⟨_, i2⟩ | ⟨i1, i2, i3, i4⟩
          · rw [i2 x hx] at hx2; cases hx2
          · have := i4 x hx hx2
            unfold Lex at *
            omega
        · exact .inr ⟨rfl, Int.le_refl _⟩
      · rw [if_neg (fun h => hc h.2)]
        rcases ih with ⟨i1, i2⟩ | ⟨i1, i2, i3, i4⟩
        · exact absurd (.inl (by omega)) hc
        · refine .inr ⟨i1, .inl i2, i3, fun x hx hx2 => ?_⟩
          rcases hx with hx | rfl
          · exact i4 x hx hx2
          · unfold Lex
            omega
    · rw [if_neg (fun h => hS h.1)]
      rcases ih with ⟨i1, i2⟩ | ⟨i1, i2, i3, i4⟩
      · refine .inl ⟨i1, fun x hx => ?_⟩
        rcases hx with hx | rfl
        · exact i2 x hx
        · simpa using hS
      · refine .inr ⟨i1, .inl i2, i3, fun x hx hx2 => ?_⟩
        rcases hx with hx | rfl
        · exact i4 x hx hx2
        · exact absurd hx2 hS
theorem nrs_char (D : Int → Int) (M : Nat → Bool) : ∀ n : Nat,
    (nrs D M n = -1 ∧ ∀ s : Nat, s < n → M s = false) ∨ (∃ b : Nat, b < n ∧ nrs D M n = (b : Int) ∧ M b = true ∧ ∀ s : Nat, s < n → M s = true → Lex D (b : Int) (s : Int))
  | 0 => .inl ⟨rfl, fun s h => by omega⟩
  | n + 1 => by
    have ih := nrs_char D M n
    unfold nrs
    by_cases hS : M n = true
    · by_cases hc : nrs D M n < 0 ∨ D n < D (nrs D M n)
      · rw [if_pos ⟨hS, hc⟩]
        refine .inr ⟨n, by omega, rfl, hS, fun x hx hx2 => ?_⟩
        by_cases hxn : x = n
        · subst hxn; exact .inr ⟨rfl, Int.le_refl _⟩
        · rcases ih with ⟨_, i2⟩ | ⟨b, i1, i2, i3, i4⟩
          · rw [i2 x (by omega)] at hx2; cases hx2
          · have := i4 x (by omega) hx2
            rw [i2] at hc
            unfold Lex at *
            omega
      · rw [if_neg (fun h => hc h.2)]
        rcases ih with ⟨i1, i2⟩ | ⟨b, i1, i2, i3, i4⟩
        · exact absurd (.inl (by omega)) hc
        · refine .inr ⟨b, by omega, i2, i3, fun x hx hx2 => ?_⟩
          by_cases hxn : x = n
          · subst hxn
            rw [i2] at hc
            unfold Lex
            omega
          · exact i4 x (by omega) hx2
    · rw [if_neg (fun h => hS h.1)]
      rcases ih with ⟨i1, i2⟩ | ⟨b, i1, i2, i3, i4⟩
      · refine .inl ⟨i1, fun x hx => ?_⟩
        by_cases hxn : x = n
        · subst hxn; simpa using hS
        · exact i2 x (by omega)
      · refine .inr ⟨b, by omega, i2, i3, fun x hx hx2 => ?_⟩
        by_cases hxn : x = n
        · subst hxn; exact absurd hx2 hS
        · exact i4 x (by omega) hx2
theorem mrk_iff {S : Int → Bool} {L : List Int} {s : Nat} : mrk S L s = true ↔ (s : Int) ∈ L ∧ S s = true := by
  unfold mrk
  rw [List.any_eq_true]
  constructor
  · rintro ⟨z, h1, h2⟩
    simp only [Bool.and_eq_true, beq_iff_eq] at h2
    obtain ⟨rfl, h3⟩ := h2
    exact ⟨h1, h3⟩
  · rintro ⟨h1, h2⟩
    exact ⟨_, h1, by simp [h2]⟩
/-- Both ways find the same station. -/
theorem bst_nrs (D : Int → Int) (S : Int → Bool) (L : List Int) (n : Nat) (h0 : ∀ s ∈ L, S s = true → 0 ≤ s ∧ s < n) : nrs D (mrk S L) n = bst D S L L.length := by
  have h1 := bst_char D S L (fun s hs h => (h0 s hs h).1) L.length (Nat.le_refl _)
  have h2 := nrs_char D (mrk S L) n
  rw [List.take_length] at h1
  rcases h1 with ⟨a1, a2⟩ | ⟨a1, a2, a3, a4⟩
  · rcases h2 with ⟨b1, b2⟩ | ⟨b, b1, b2, b3, b4⟩
    · rw [a1, b1]
    · rw [mrk_iff] at b3
      rw [a2 _ b3.1] at b3
      cases b3.2
  · have hx := h0 _ a2 a3
    obtain ⟨k, hk⟩ : ∃ k : Nat, bst D S L L.length = (k : Int) := ⟨_, (Int.toNat_of_nonneg a1).symm⟩
    rw [hk] at a2 a3 a4 hx ⊢
    have hm : mrk S L k = true := mrk_iff.2 ⟨a2, a3⟩
    rcases h2 with ⟨b1, b2⟩ | ⟨b, b1, b2, b3, b4⟩
    · rw [b2 k (by omega)] at hm; cases hm
    · have h3 := b4 k (by omega) hm
      rw [mrk_iff] at b3
      have h4 := a4 _ b3.1 b3.2
      rw [b2]
      unfold Lex at h3 h4
      omega
theorem cap_mrk (D : Int → Int) (S : Int → Bool) (L : List Int) (n : Nat) (h0 : ∀ s ∈ L, S s = true → 0 ≤ s ∧ s < n) (b : Int) : capB D S L b = true ↔ ∃ s : Nat, s < n ∧ mrk S L s = true ∧ (s : Int) ≠ b ∧ D s < wrap64 (2 * D b) := by
  unfold capB
  rw [List.any_eq_true]
  constructor
  · rintro ⟨z, h1, h2⟩
    simp only [Bool.and_eq_true, bne_iff_ne, ne_eq, decide_eq_true_eq] at h2
    obtain ⟨⟨h3, h4⟩, h5⟩ := h2
    have h6 := h0 z h1 h4
    obtain ⟨k, rfl⟩ : ∃ k : Nat, z = (k : Int) := ⟨_, (Int.toNat_of_nonneg h6.1).symm⟩
    exact ⟨k, by omega, mrk_iff.2 ⟨h1, h4⟩, h3, h5⟩
  · rintro ⟨s, h1, h2, h3, h4⟩
    rw [mrk_iff] at h2
    exact ⟨_, h2.1, by simp [h2.2, h3, h4]⟩
/-- Who is received. -/
def rfV (P : List Int) (rg sn : Int) (L : List Int) (r : Int) : Int :=
  if plB P r = false then -1 else if r ∈ L then -1 else
    if bst (fun s => dstV P s r) (fun s => crB P sn s r) L L.length < 0 ∨ crB P rg (bst (fun s => dstV P s r) (fun s => crB P sn s r) L L.length) r = false ∨ capB (fun s => dstV P s r) (fun s => crB P sn s r) L (bst (fun s => dstV P s r) (fun s => crB P sn s r) L L.length) = true then -1
    else bst (fun s => dstV P s r) (fun s => crB P sn s r) L L.length
def exB (P : List Int) (rg sn a b x y : Int) : Bool :=
  (a != b && a != x && a != y && b != x && b != y && x != y) && crB P rg a x && crB P rg b y && crB P sn a b && decide (rfV P rg sn [a, b] x = a) && decide (rfV P rg sn [a, b] y = b)
theorem cr_h0 (P : List Int) (sn r : Int) (L : List Int) : ∀ s ∈ L, crB P sn s r = true → 0 ≤ s ∧ s < P.length := by
  intro s _ h
  obtain ⟨k, rfl, h2⟩ := plB_true (crB_pl h).1
  omega
theorem rf_pos {P : List Int} {rg sn : Int} {L : List Int} {r : Int} (h : 0 ≤ rfV P rg sn L r) :
    rfV P rg sn L r ∈ L ∧ r ∉ L ∧ crB P rg (rfV P rg sn L r) r = true ∧ ∀ s ∈ L, s ≠ rfV P rg sn L r → crB P sn s r = true → ¬ dstV P s r < wrap64 (2 * dstV P (rfV P rg sn L r) r) := by
  unfold rfV at h ⊢
  split at h
  · omega
  split at h
  · omega
  rename_i h1 h2
  rw [if_neg h1, if_neg h2]
  have hc := bst_char (fun s => dstV P s r) (fun s => crB P sn s r) L (fun s hs h => (cr_h0 P sn r L s hs h).1) L.length (Nat.le_refl _)
  rw [List.take_length] at hc
  generalize bst (fun s => dstV P s r) (fun s => crB P sn s r) L L.length = b at *
  split at h
  · omega
  rename_i h3
  rw [if_neg h3]
  simp only [not_or, Bool.not_eq_false, Bool.not_eq_true] at h3
  obtain ⟨h4, h5, h6⟩ := h3
  refine ⟨?_, h2, h5, fun s hs hne hsn hlt => ?_⟩
  · rcases hc with ⟨c1, _⟩ | ⟨_, c2, _⟩
    · omega
    · exact c2
  · unfold capB at h6
    rw [List.any_eq_false] at h6
    have := h6 s hs
    simp [hsn, hlt, hne] at this
/-- One sender. -/
theorem rf_one {P : List Int} {rg sn a b : Int} (ha : plB P a = true) (hb : plB P b = true) (hrs : rg ≤ sn) : rfV P rg sn [a] b = if crB P rg a b = true then a else -1 := by
  obtain ⟨k, rfl, hk⟩ := plB_true ha
  unfold rfV
  rw [if_neg (by rw [hb]; decide)]
  by_cases hab : b = (k : Int)
  · subst hab
    rw [if_pos (by simp), if_neg (by simp [crB])]
  rw [if_neg (by simpa using hab)]
  by_cases hc : crB P sn k b = true
  · have e1 : bst (fun s => dstV P s b) (fun s => crB P sn s b) [(k : Int)] [(k : Int)].length = (k : Int) := by
      simp [bst, hc]
    have e2 : capB (fun s => dstV P s b) (fun s => crB P sn s b) [(k : Int)] (k : Int) = false := by simp [capB]
    rw [e1, e2]
    by_cases hr : crB P rg k b = true
    · rw [if_pos hr, if_neg (by simp [hr])]
    · rw [if_neg hr, if_pos (by simp at hr; simp [hr])]
  · have e1 : bst (fun s => dstV P s b) (fun s => crB P sn s b) [(k : Int)] [(k : Int)].length = -1 := by
      simp [bst, hc]
    rw [e1, if_pos (by simp)]
    have hr : ¬ crB P rg k b = true := by
      intro h
      apply hc
      unfold crB at h ⊢
      simp only [Bool.and_eq_true, decide_eq_true_eq] at h ⊢
      exact ⟨h.1, by omega⟩
    rw [if_neg hr]
theorem rf_in {P : List Int} {rg sn r : Int} {L : List Int} (h : r ∈ L) : rfV P rg sn L r = -1 := by
  unfold rfV
  by_cases h1 : plB P r = false
  · rw [if_pos h1]
  · rw [if_neg h1, if_pos h]
end Go.Proofs.Ytkmklafjcjkpdaa
