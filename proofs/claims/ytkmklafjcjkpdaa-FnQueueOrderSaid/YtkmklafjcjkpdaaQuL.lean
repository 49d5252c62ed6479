/- The plain law on transmit queues. -/
import Derived.Test.YtkmklafjcjkpdaaTakI
namespace Go.Proofs.Ytkmklafjcjkpdaa
open Go.RowKit
set_option linter.unusedVariables false
set_option linter.unusedSimpArgs false
theorem nxt_best (l : List Msg) : ∀ k, k ≤ l.length → 0 < k → ∃ b : Nat, ∃ hb : b < l.length, b < k ∧ nxt l k = b ∧ ∀ i (hi : i < l.length), i < k → l[i].cat ≤ l[b].cat ∧ (i < b → l[i].cat < l[b].cat)
  | 0, _, h => absurd h (by omega)
  | k + 1, hk, _ => by
    have hk' : k < l.length := by omega
    rcases Nat.eq_zero_or_pos k with h0 | h0
    · subst h0
      refine ⟨0, by omega, by omega, nxt_neg l 0 (by omega) (by simp [nxt]), fun i hi h => ?_⟩
      obtain rfl : i = 0 := by omega
      exact ⟨Int.le_refl _, fun h => by omega⟩
    · obtain ⟨b, hb, hbk, e, h⟩ := nxt_best l k (by omega) h0
      by_cases hc : l[b].cat < l[k].cat
      · refine ⟨k, hk', by omega, nxt_gt l k b hk' hb e hc, fun i hi h1 => ?_⟩
        by_cases hik : i = k
        · subst hik; exact ⟨Int.le_refl _, fun h => by omega⟩
        · have := (h i hi (by omega)).1
          exact ⟨by omega, fun _ => by omega⟩
      · refine ⟨b, hb, by omega, nxt_le l k b hk' hb e hc, fun i hi h1 => ?_⟩
        by_cases hik : i = k
        · subst hik; exact ⟨by omega, fun h => by omega⟩
        · exact h i hi (by omega)
theorem wst_min (l : List Msg) : ∀ k, k ≤ l.length → ∀ i, i < k → catAt l (wst l k) ≤ catAt l i
  | 0, _, i, h => by omega
  | k + 1, hk, i, hi => by
    have ih := wst_min l k (by omega)
    unfold wst
    split
    · by_cases hik : i = k
      · subst hik; exact Int.le_refl _
      · have := ih i (by omega); omega
    · by_cases hik : i = k
      · subst hik; omega
      · exact ih i (by omega)
theorem cnt_erase (ca : Int) : ∀ (l : List Msg) (i : Nat) (hi : i < l.length), cntM l ca = cntM (l.eraseIdx i) ca + (if l[i].cat = ca then 1 else 0)
  | [], i, hi => by simp at hi
  | a :: l, 0, hi => by
    simp only [cntM, List.countP_cons, List.eraseIdx_cons_zero, List.getElem_cons_zero, beq_iff_eq]
  | a :: l, i + 1, hi => by
    have h := cnt_erase ca l i (by simpa using hi)
    simp only [cntM, List.countP_cons, List.eraseIdx_cons_succ, List.getElem_cons_succ, beq_iff_eq] at h ⊢
    omega
theorem cnt_app (ca : Int) (l : List Msg) (m : Msg) : cntM (l ++ [m]) ca = cntM l ca + (if m.cat = ca then 1 else 0) := by
  simp [cntM, List.countP_append, List.countP_cons]
theorem cnt_zero {ca : Int} {l : List Msg} (h : ∀ m ∈ l, ca < m.cat) : cntM l ca = 0 := by
  unfold cntM
  rw [List.countP_eq_zero]
  intro m hm
  have := h m hm
  simp
  omega
theorem okM_cat {m : Msg} (h : okM m = true) : 0 ≤ m.cat ∧ m.cat ≤ 3 := by
  unfold okM msgB at h
  simp only [Bool.and_eq_true] at h
  exact inB_true h.1.1.2
/-- A full queue loses one message of the least urgent category. -/
theorem enq_full {l : List Msg} {d : Int} {m : Msg} (hq : okQ l d = true) (hm : okM m = true) (hl : ¬ l.length < 12) (hd : d ≤ 1000) :
    enqD l d m = d + 1 ∧ (enqL l d m).length = l.length ∧ okQ (enqL l d m) (enqD l d m) = true ∧ ∃ c : Int, (0 ≤ c ∧ c ≤ 3) ∧ ∀ ca, cntM l ca + (if m.cat = ca then 1 else 0) = cntM (enqL l d m) ca + (if c = ca then 1 else 0) ∧ (ca < c → cntM (enqL l d m) ca = 0) := by
  have h12 : l.length = 12 := by have := okQ_len hq; omega
  have hb : (okQ l d && okM m) = true := by rw [hq, hm]; rfl
  have hD : enqD l d m = d + 1 := by
    have h0 : 0 ≤ d := by simp [okQ] at hq; omega
    unfold enqD
    rw [if_pos hb, if_neg (by omega)]
    unfold wrap64
    omega
  have hL : enqL l d m = (l ++ [m]).eraseIdx (wst (l ++ [m]) (l.length + 1)) := by unfold enqL; rw [if_pos hb, if_neg (by omega)]
  have hlen : (l ++ [m]).length = l.length + 1 := by simp
  have hw := wst_lt (l ++ [m]) (by omega) (l.length + 1) (by omega)
  have hmin := wst_min (l ++ [m]) (l.length + 1) (by omega)
  generalize wst (l ++ [m]) (l.length + 1) = k at *
  have hall : ∀ x ∈ l ++ [m], okM x = true := by
    intro x hx
    rcases List.mem_append.1 hx with h | h
    · simp only [okQ, Bool.and_eq_true, List.all_eq_true] at hq
      exact hq.1.1 x h
    · simp at h; subst h; exact hm
  have hsub : ((l ++ [m]).eraseIdx k).Sublist (l ++ [m]) := List.eraseIdx_sublist _ _
  refine ⟨hD, by rw [hL, List.length_eraseIdx_of_lt hw]; omega, ?_, (l ++ [m])[k].cat, okM_cat (hall _ (List.getElem_mem hw)), fun ca => ⟨?_, fun hlt => ?_⟩⟩
  · rw [hL, hD]
    have h1 : ((l ++ [m]).eraseIdx k).all okM = true := by
      rw [List.all_eq_true]
      intro x hx
      exact hall x (hsub.subset hx)
    have h0 : 0 ≤ d := by simp [okQ] at hq; omega
    unfold okQ
    rw [h1, List.length_eraseIdx_of_lt hw, decide_eq_true (by omega), decide_eq_true (by omega)]
    rfl
  · rw [hL, ← cnt_app, cnt_erase ca _ k hw]
  · rw [hL]
    refine cnt_zero fun x hx => ?_
    obtain ⟨i, hi, rfl⟩ := List.getElem_of_mem (hsub.subset hx)
    have := hmin i (by omega)
    rw [catAt_get hw, catAt_get hi] at this
    omega
theorem enq_room {l : List Msg} {d : Int} {m : Msg} (hq : okQ l d = true) (hm : okM m = true) (hl : l.length < 12) :
    enqD l d m = d ∧ enqL l d m = l ++ [m] ∧ okQ (enqL l d m) (enqD l d m) = true := by
  have hb : (okQ l d && okM m) = true := by rw [hq, hm]; rfl
  have hD : enqD l d m = d := by unfold enqD; rw [if_pos hb, if_pos (by omega)]
  have hL : enqL l d m = l ++ [m] := by unfold enqL; rw [if_pos hb, if_pos (by omega)]
  refine ⟨hD, hL, ?_⟩
  rw [hL, hD]
  simp only [okQ, Bool.and_eq_true, decide_eq_true_eq] at hq ⊢
  refine ⟨⟨?_, by simp; omega⟩, hq.2⟩
  rw [List.all_append, hq.1.1]
  simp [hm]
theorem enq_bad {l : List Msg} {d : Int} {m : Msg} (h : (okQ l d && okM m) = false) : enqL l d m = l ∧ enqD l d m = d := by
  unfold enqL enqD
  rw [h]
  exact ⟨rfl, rfl⟩
theorem incN_eq (d : Int) : ∀ n : Nat, -1 ≤ d ∧ d + n ≤ 1000000 → incN d n = d + n
  | 0, h => by simp [incN]
  | n + 1, h => by
    unfold incN
    rw [incN_eq d n (by omega)]
    have : wrap64 (d + n + 1) = d + n + 1 := by unfold wrap64; omega
    rw [this]
    omega
theorem keep_cnt (now : Int) (l : List Msg) : (keepM now l).length + l.countP (fun m => decide (m.dl < now)) = l.length := by
  induction l with
  | nil => rfl
  | cons a l ih =>
    unfold keepM at ih ⊢
    by_cases h : a.dl < now <;> simp [h, List.filter_cons, List.countP_cons] at ih ⊢ <;> omega
theorem drop_keep {now d : Int} {l : List Msg} (h : -1 ≤ d ∧ d ≤ 1000) (hl : l.length ≤ 1000) : dropM now d l - d = (l.length : Int) - (keepM now l).length := by
  have h1 := keep_cnt now l
  unfold dropM
  rw [incN_eq d _ (by omega)]
  omega
theorem keep_dl {now : Int} {l : List Msg} {k : Nat} (hk : k < (keepM now l).length) : ¬ (keepM now l)[k].dl < now := by
  have h := (List.mem_filter.1 (show (keepM now l)[k] ∈ l.filter (fun m => !decide (m.dl < now)) from List.getElem_mem hk)).2
  simpa using h
end Go.Proofs.Ytkmklafjcjkpdaa
