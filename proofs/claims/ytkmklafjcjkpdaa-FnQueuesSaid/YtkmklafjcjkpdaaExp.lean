/- Messages that have expired are dropped. -/
import Derived.Test.YtkmklafjcjkpdaaCpy
import Derived.Test.YtkmklafjcjkpdaaTq
namespace Go.Proofs.Ytkmklafjcjkpdaa
open Go.RowKit
set_option linter.unusedVariables false
set_option linter.unusedSimpArgs false

def keepM (now : Int) (l : List Msg) : List Msg := l.filter fun m => !decide (m.dl < now)
def incN (d : Int) : Nat → Int
  | 0 => d
  | k + 1 => wrap64 (incN d k + 1)
def dropM (now d : Int) (l : List Msg) : Int := incN d (l.countP fun m => decide (m.dl < now))
theorem keepM_no (now : Int) (l : List Msg) (k : Nat) (hk : k < l.length) (h : l[k].dl < now) : keepM now (l.take (k + 1)) = keepM now (l.take k) := by
  unfold keepM
  rw [take_snoc_get l k hk, List.filter_append]
  simp [h]
theorem keepM_yes (now : Int) (l : List Msg) (k : Nat) (hk : k < l.length) (h : ¬ l[k].dl < now) : keepM now (l.take (k + 1)) = keepM now (l.take k) ++ [l[k]] := by
  unfold keepM
  rw [take_snoc_get l k hk, List.filter_append]
  simp [h]
theorem dropM_no (now d : Int) (l : List Msg) (k : Nat) (hk : k < l.length) (h : l[k].dl < now) : dropM now d (l.take (k + 1)) = wrap64 (dropM now d (l.take k) + 1) := by
  unfold dropM
  rw [take_snoc_get l k hk, List.countP_append]
  simp [h, incN]
theorem dropM_yes (now d : Int) (l : List Msg) (k : Nat) (hk : k < l.length) (h : ¬ l[k].dl < now) : dropM now d (l.take (k + 1)) = dropM now d (l.take k) := by
  unfold dropM
  rw [take_snoc_get l k hk, List.countP_append]
  simp [h]
theorem keepM_len (now : Int) (l : List Msg) (k : Nat) : (keepM now (l.take k)).length ≤ l.length := by
  unfold keepM
  exact Nat.le_trans (List.length_filter_le _ _) (by simp; omega)
theorem keepM_all (now : Int) (l : List Msg) : keepM now (l.take l.length) = keepM now l := by rw [List.take_length]
theorem msg_one (m : Msg) (A : Option Addr) (n c : Nat) : ∀ u ∈ kMsg.hd m (.slice A n c), u.oneCell' = true := by
  intro u hu
  simp [kMsg] at hu
  rcases hu with rfl | rfl | rfl | rfl <;> rfl
end Go.Proofs.Ytkmklafjcjkpdaa
