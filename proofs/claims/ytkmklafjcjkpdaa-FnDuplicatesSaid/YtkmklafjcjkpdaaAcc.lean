/- Frames accepted: the list and whether the frame is new. -/
import Derived.Test.YtkmklafjcjkpdaaRem
import Derived.Test.YtkmklafjcjkpdaaG14
namespace Go.Proofs.Ytkmklafjcjkpdaa
open Go.RowKit
set_option linter.unusedVariables false
set_option linter.unusedSimpArgs false
def accL (l : List Seen) (fm sq fr : Int) (re : Bool) (ca : Int) : List Seen := if dupB l fm sq fr re ca = true then l else remS l fm sq fr ca
theorem accL_len (l : List Seen) (fm sq fr : Int) (re : Bool) (ca : Int) : (accL l fm sq fr re ca).length ≤ l.length + 1 := by
  unfold accL
  split
  · omega
  · exact remS_len _ _ _ _ _
theorem iAcc (w : World) (kd fm to sq fr : Int) (mo re : Bool) (du : Int) (A A0 : Option Addr) (n c n0 c0 : Nat) (ca : Int) (l : List Seen) (hn : l.length = n0) (hM : Els w A0 4 (kE kSeen) l) (hl : n0 ≤ 1048576) :
    Calls Try.prog 45 #[.slice A0 n0 c0, .agg #[.int .i64 kd, .int .i64 fm, .int .i64 to, .int .i64 sq, .int .i64 fr, .bool mo, .bool re, .int .i64 du, .slice A n c], .int .i64 ca] w fun e w' => ∃ A' c', e = .returned (.tuple #[.slice A' (accL l fm sq fr re ca).length c', .bool (!dupB l fm sq fr re ca)]) ∧ Ext w w' ∧ Own kSeen w' w.heap.size w'.heap.size A' (accL l fm sq fr re ca) := by
  have hM' := Lib.hid (els_up hM (Ext.alloc_ w (.cells #[.int .i64 kd, .int .i64 fm, .int .i64 to, .int .i64 sq, .int .i64 fr, .bool mo, .bool re, .int .i64 du, .slice A n c] 66)))
  have E0 := Lib.hid (Ext.alloc_ w (.cells #[.int .i64 kd, .int .i64 fm, .int .i64 to, .int .i64 sq, .int .i64 fr, .bool mo, .bool re, .int .i64 du, .slice A n c] 66))
  have b1 := Lib.hid (new_blk1 w #[.int .i64 kd, .int .i64 fm, .int .i64 to, .int .i64 sq, .int .i64 fr, .bool mo, .bool re, .int .i64 du, .slice A n c] 66)
  have hn' := Lib.hid hn
  clear hM hn
  cases hd : dupB l fm sq fr re ca with
  | true =>
    have hR := Lib.hid (show accL l fm sq fr re ca = l by unfold accL; rw [if_pos hd])
    have hd' := Lib.hid hd
    clear hd
    go_enter Try.func45, Try.ntmps45
    go_wp2_with fail
    refine (iDup _ _ _ _ l _ _ _ _ _ _ _ _ _ _ _ _ hn'.out hM'.out hl).mono ?_
    rintro e w1 ⟨rfl, h1⟩
    rw [hd'.out]
    have E1 := Lib.hid (Ext.trans E0.out h1)
    have M1 := Lib.hid (els_up hM'.out h1)
    clear h1
    go_wp2_with fail
    refine (iCopyS _ _ _ _ l hn'.out M1.out (by omega)).mono ?_
    rintro e w2 ⟨A2, c2, rfl, h2, hA2⟩
    obtain ⟨A3, c3, e3, -, -, hO, -⟩ := hA2.own
    injection e3 with e3 e4 e5
    subst e3 e5
    have E2 := Lib.hid h2
    have O2 := Lib.hid hO
    clear h2 hA2 hO e4
    go_wp2_with fail
    refine bodyPost_ret (v := .tuple #[.slice A2 n0 c2, .bool false]) (by simp [results, Try.results45, go_sem]) rfl ⟨A2, c2, by rw [hR.out, hn'.out]; rfl, Ext.trans E1.out E2.out, by rw [hR.out]; exact O2.out.mono E1.out.size (Nat.le_refl _)⟩
  | false =>
    have hR := Lib.hid (show accL l fm sq fr re ca = remS l fm sq fr ca by unfold accL; rw [if_neg (by rw [hd]; decide)])
    have hd' := Lib.hid hd
    clear hd
    go_enter Try.func45, Try.ntmps45
    go_wp2_with fail
    refine (iDup _ _ _ _ l _ _ _ _ _ _ _ _ _ _ _ _ hn'.out hM'.out hl).mono ?_
    rintro e w1 ⟨rfl, h1⟩
    rw [hd'.out]
    have E1 := Lib.hid (Ext.trans E0.out h1)
    have M1 := Lib.hid (els_up hM'.out h1)
    obtain ⟨x1, x2, x3⟩ := blk_cells (ext_blk h1 b1.out)
    clear h1
    go_wp2_with fail
    refine (iRem _ _ _ _ _ _ _ _ _ _ _ _ _ _ _ _ l hn'.out M1.out hl).mono ?_
    rintro e w2 ⟨A2, c2, rfl, h2, hO⟩
    rw [← hR.out] at hO ⊢
    have E2 := Lib.hid h2
    have O2 := Lib.hid hO
    clear h2 hO x1 x2 x3
    go_wp2_with fail
    refine bodyPost_ret (v := .tuple #[.slice A2 (accL l fm sq fr re ca).length c2, .bool true]) (by simp [results, Try.results45, go_sem]) rfl ⟨A2, c2, rfl, Ext.trans E1.out E2.out, O2.out.mono E1.out.size (Nat.le_refl _)⟩
end Go.Proofs.Ytkmklafjcjkpdaa
