/- Lists of records compared. -/
import Derived.Test.YtkmklafjcjkpdaaEqb
namespace Go.Proofs.Ytkmklafjcjkpdaa
open Go.RowKit
set_option linter.unusedVariables false
set_option linter.unusedSimpArgs false

deriving instance DecidableEq for Rea
deriving instance DecidableEq for Msg
theorem take_same {α : Type} {l l' : List α} {k : Nat} (hk : k < l.length) (hk' : k < l'.length) (h : l.take k = l'.take k) (h1 : l[k] = l'[k]) : l.take (k + 1) = l'.take (k + 1) := by
  rw [take_snoc_get l k hk, take_snoc_get l' k hk', h, h1]
theorem list_ne {α : Type} [DecidableEq α] {l l' : List α} {k : Nat} (hk : k < l.length) (hk' : k < l'.length) (h1 : l[k] ≠ l'[k]) : decide (l = l') = false := by
  apply decide_eq_false
  intro h
  subst h
  exact h1 rfl
theorem blkEq {W0 : World} {g : Nat} {cs : Array Value} {T : TypeId} (h : W0.heap[g]? = some (.cells cs T (0, 0))) (wX : World) (hE : Ext W0 wX) : (∀ i, wX.cell? ⟨g, i, none⟩ = cs[i]?) ∧ (∀ i, wX.frozen? ⟨g, i, none⟩ = false) ∧ g < wX.heap.size :=
  blk_cells (ext_blk hE h)
theorem iEqMsg (w : World) (t1 c1 d1 t2 c2 d2 : Int) (A A' : Option Addr) (n n' c c' : Nat) (l l' : List Int) (hn : l.length = n) (hn' : l'.length = n') (h : RB w A c l) (h' : RB w A' c' l') (hl : n ≤ 9223372036854775807) (hl' : n' ≤ 9223372036854775807) :
    Calls Try.prog 135 #[.agg #[.int .i64 t1, .int .i64 c1, .int .i64 d1, .slice A n c], .agg #[.int .i64 t2, .int .i64 c2, .int .i64 d2, .slice A' n' c']] w fun e w' => e = .returned (.bool (decide ((⟨t1, c1, d1, l⟩ : Msg) = ⟨t2, c2, d2, l'⟩))) ∧ Below w.heap.size w w' := by
  have hE := Ext.trans (Ext.alloc_ w (.cells #[.int .i64 t1, .int .i64 c1, .int .i64 d1, .slice A n c] 59)) (Ext.alloc_ _ (.cells #[.int .i64 t2, .int .i64 c2, .int .i64 d2, .slice A' n' c'] 59))
  have H1 := Lib.hid (h.ext hE)
  have H2 := Lib.hid (h'.ext hE)
  have hn1 := Lib.hid hn
  have hn2 := Lib.hid hn'
  clear h h' hn hn' hE
  by_cases h1 : t1 = t2
  · subst h1
    by_cases h2 : c1 = c2
    · subst h2
      by_cases h3 : d1 = d2
      · subst h3
        have hF := Lib.hid (show decide ((⟨t1, c1, d1, l⟩ : Msg) = ⟨t1, c1, d1, l'⟩) = decide (l = l') by simp)
        go_enter Try.func135, Try.ntmps135
        go_wp2_with fail
        refine (iEqB _ _ _ _ _ _ l l' hn1.out hn2.out _ H1.out H2.out hl hl').mono ?_
        rintro e w1 ⟨rfl, hb1⟩
        go_wp2
        go_ret
        exact ⟨(by rw [hF.out]; first | done | rfl), Ext.trans (Ext.trans (Ext.alloc_ _ _) (Ext.alloc_ _ _)) hb1⟩
      · have hF := Lib.hid (show decide ((⟨t1, c1, d1, l⟩ : Msg) = ⟨t1, c1, d2, l'⟩) = false by simp [h3])
        go_enter Try.func135, Try.ntmps135
        go_wp2
        go_ret
        exact ⟨(by rw [hF.out]; first | done | rfl), Ext.trans (Ext.alloc_ _ _) (Ext.alloc_ _ _)⟩
    · have hF := Lib.hid (show decide ((⟨t1, c1, d1, l⟩ : Msg) = ⟨t1, c2, d2, l'⟩) = false by simp [h2])
      go_enter Try.func135, Try.ntmps135
      go_wp2
      go_ret
      exact ⟨(by rw [hF.out]; first | done | rfl), Ext.trans (Ext.alloc_ _ _) (Ext.alloc_ _ _)⟩
  · have hF := Lib.hid (show decide ((⟨t1, c1, d1, l⟩ : Msg) = ⟨t2, c2, d2, l'⟩) = false by simp [h1])
    go_enter Try.func135, Try.ntmps135
    go_wp2
    go_ret
    exact ⟨(by rw [hF.out]; first | done | rfl), Ext.trans (Ext.alloc_ _ _) (Ext.alloc_ _ _)⟩
end Go.Proofs.Ytkmklafjcjkpdaa
