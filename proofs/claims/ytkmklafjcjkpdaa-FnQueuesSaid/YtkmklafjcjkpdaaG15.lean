/- The laws on queues that are only read: how many, the next one, whether they are valid. -/
import Derived.Test.YtkmklafjcjkpdaaTq
import Derived.Test.YtkmklafjcjkpdaaG12
namespace Go.Proofs.Ytkmklafjcjkpdaa
open Go.RowKit
set_option linter.unusedVariables false
set_option linter.unusedSimpArgs false

def cntM (l : List Msg) (ca : Int) : Nat := l.countP fun m => m.cat == ca
theorem cntM_next (l : List Msg) (ca : Int) (k : Nat) (hk : k < l.length) : cntM (l.take (k + 1)) ca = cntM (l.take k) ca + (if l[k].cat = ca then 1 else 0) := by
  unfold cntM
  rw [take_snoc_get l k hk, List.countP_append]
  by_cases h : l[k].cat = ca <;> simp [h]
def nxt (l : List Msg) : Nat → Int
  | 0 => -1
  | k + 1 => match l[k]?, l[(nxt l k).toNat]? with
    | some a, some b => if nxt l k < 0 ∨ b.cat < a.cat then (k : Int) else nxt l k
    | _, _ => nxt l k
theorem nxt_range (l : List Msg) : ∀ k, -1 ≤ nxt l k ∧ nxt l k < (k : Int) ∨ k = 0 ∧ nxt l k = -1
  | 0 => .inr ⟨rfl, rfl⟩
  | k + 1 => by
    have h := nxt_range l k
    have h1 : -1 ≤ nxt l k ∧ nxt l k < (k : Int) + 1 := by omega
    refine .inl ?_
    unfold nxt
    split
    · split <;> omega
    · omega
theorem nxt_neg (l : List Msg) (k : Nat) (hk : k < l.length) (h : nxt l k < 0) : nxt l (k + 1) = k := by
  have h0 : (nxt l k).toNat = 0 := by omega
  unfold nxt
  rw [h0, List.getElem?_eq_getElem hk, List.getElem?_eq_getElem (by omega)]
  simp [h]
theorem nxt_gt (l : List Msg) (k b : Nat) (hk : k < l.length) (hb : b < l.length) (h : nxt l k = b) (hc : l[b].cat < l[k].cat) : nxt l (k + 1) = k := by
  unfold nxt
  rw [h, Int.toNat_natCast, List.getElem?_eq_getElem hk, List.getElem?_eq_getElem hb]
  simp [hc]
theorem nxt_le (l : List Msg) (k b : Nat) (hk : k < l.length) (hb : b < l.length) (h : nxt l k = b) (hc : ¬ l[b].cat < l[k].cat) : nxt l (k + 1) = b := by
  unfold nxt
  rw [h, Int.toNat_natCast, List.getElem?_eq_getElem hk, List.getElem?_eq_getElem hb]
  simp only [hc, or_false]
  rw [if_neg (by omega)]
def okM (m : Msg) : Bool := msgB m.to m.cat m.dl m.body.length
def okQ (l : List Msg) (d : Int) : Bool := l.all okM && decide (l.length ≤ 12) && decide (0 ≤ d)
theorem okQ_bad {l : List Msg} {d : Int} {k : Nat} (hk : k < l.length) (h : okM l[k] = false) : okQ l d = false := by
  have : l.all okM = false := by
    rw [List.all_eq_false]
    exact ⟨l[k], List.getElem_mem hk, by simp [h]⟩
  simp [okQ, this]
theorem okQ_all {l : List Msg} {d : Int} (h : ∀ i (h : i < l.length), i < l.length → okM l[i] = true) : okQ l d = (decide (l.length ≤ 12) && decide (0 ≤ d)) := by
  have : l.all okM = true := by
    rw [List.all_eq_true]
    intro x hx
    obtain ⟨i, hi, rfl⟩ := List.getElem_of_mem hx
    exact h i hi hi
  simp [okQ, this]
theorem okQ_next {l : List Msg} {k : Nat} (h : ∀ i (h : i < l.length), i < k → okM l[i] = true) (hk : k < l.length) (h1 : okM l[k] = true) : ∀ i (h : i < l.length), i < k + 1 → okM l[i] = true := by
  intro i hi hik
  by_cases h2 : i = k
  · subst h2; exact h1
  · exact h i hi (by omega)
theorem iCount (w : World) (A : Option Addr) (n c : Nat) (d ca : Int) (l : List Msg) (hn : l.length = n) (hM : Els w A 4 (kE kMsg) l) (hl : n ≤ 1048577) :
    Calls Try.prog 80 #[.agg #[.slice A n c, .int .i64 d], .int .i64 ca] w fun e w' => e = .returned (.int .i64 (cntM l ca)) ∧ Below w.heap.size w w' := by
  subst hn
  have hM1 := els_up hM (Ext.alloc_ w (.cells #[.slice A l.length c, .int .i64 d] 55))
  clear hM
  go_enter Try.func80, Try.ntmps80
  go_wp2
  go_loopw [5, 11] (fun v i wr => ∃ k : Nat, k ≤ l.length ∧ i = .int .i64 k ∧ v = .int .i64 (cntM (l.take k) ca) ∧ Ext (w.alloc (.cells #[.slice A l.length c, .int .i64 d] 55)) wr) (fun _ i _ => l.length - (intOf i).toNat)
  case atStart => exact ⟨0, Nat.zero_le _, rfl, by simp [cntM], Ext.refl _⟩
  case round =>
    obtain ⟨k, hk, rfl, rfl, hE⟩ := hrel
    have b1 := ext_blk hE (new_blk1 w _ _)
    obtain ⟨x1, x2, x3⟩ := blk_cells b1
    clear b1
    have hle : cntM (l.take k) ca ≤ l.length := by unfold cntM; exact Nat.le_trans (List.countP_le_length) (by simp; omega)
    by_cases hlt : k < l.length
    · obtain ⟨b, off, rfl, hb, hc⟩ := (els_up hM1 hE).at_ (List.ne_nil_of_length_pos (by omega))
      obtain ⟨B, cB, hRB, k0, k1, k2, k3⟩ := els_msg hc k hlt
      have hcn := Lib.hid (cntM_next l ca k hlt)
      clear hc hM1 hRB
      by_cases h1 : l[k].cat = ca
      · go_wp2
        go_roundw
        case rel =>
          have e1 := hcn.out
          rw [if_pos h1] at e1
          exact ⟨k + 1, by omega, by go_num, by rw [e1]; go_num, by first | exact hE | exact Ext.trans hE (Ext.alloc_ _ _) | exact Ext.drewN_ hE _ | exact Ext.drewN_ (Ext.trans hE (Ext.alloc_ _ _)) _⟩
        case measure => simp [intOf]; omega
      · go_wp2
        go_roundw
        case rel =>
          have e1 := hcn.out
          rw [if_neg h1] at e1
          exact ⟨k + 1, by omega, by go_num, by rw [e1]; go_num, by first | exact hE | exact Ext.trans hE (Ext.alloc_ _ _) | exact Ext.drewN_ hE _ | exact Ext.drewN_ (Ext.trans hE (Ext.alloc_ _ _)) _⟩
        case measure => simp [intOf]; omega
    · obtain rfl : k = l.length := by omega
      clear hM1
      go_wp2
      go_ret
      exact ⟨(by rw [List.take_length]; first | done | rfl), by first | exact Ext.trans (Ext.alloc_ _ _) hE | exact Ext.trans (Ext.trans (Ext.alloc_ _ _) hE) (Ext.alloc_ _ _) | exact Ext.trans (Ext.alloc_ _ _) (Ext.drewN_ hE _) | exact Ext.trans (Ext.alloc_ _ _) (Ext.drewN_ (Ext.trans hE (Ext.alloc_ _ _)) _)⟩
theorem iNext (w : World) (A : Option Addr) (n c : Nat) (d : Int) (l : List Msg) (hn : l.length = n) (hM : Els w A 4 (kE kMsg) l) (hl : n ≤ 1048577) :
    Calls Try.prog 40 #[.agg #[.slice A n c, .int .i64 d]] w fun e w' => e = .returned (.int .i64 (nxt l l.length)) ∧ Below w.heap.size w w' := by
  subst hn
  have hM1 := els_up hM (Ext.alloc_ w (.cells #[.slice A l.length c, .int .i64 d] 55))
  clear hM
  go_enter Try.func40, Try.ntmps40
  go_wp2
  go_loopw [3, 9] (fun v i wr => ∃ k : Nat, ∃ b : Int, k ≤ l.length ∧ i = .int .i64 k ∧ v = .int .i64 b ∧ Hid (nxt l k = b) ∧ Ext (w.alloc (.cells #[.slice A l.length c, .int .i64 d] 55)) wr) (fun _ i _ => l.length - (intOf i).toNat)
  case atStart => exact ⟨0, -1, Nat.zero_le _, rfl, rfl, Lib.hid rfl, Ext.refl _⟩
  case round =>
    obtain ⟨k, bi, hk, rfl, rfl, hnx, hE⟩ := hrel
    have b1 := ext_blk hE (new_blk1 w _ _)
    obtain ⟨x1, x2, x3⟩ := blk_cells b1
    clear b1
    have hrg := nxt_range l k
    rw [hnx.out] at hrg
    have hrg' : -1 ≤ bi ∧ (bi < (k : Int) ∨ bi = -1) := by omega
    clear hrg
    obtain ⟨hr1, hr2⟩ := hrg'
    have hr2' := Lib.hid hr2
    clear hr2
    by_cases hlt : k < l.length
    · obtain ⟨b, off, rfl, hb, hc⟩ := (els_up hM1 hE).at_ (List.ne_nil_of_length_pos (by omega))
      obtain ⟨B, cB, hRB, k0, k1, k2, k3⟩ := els_msg hc k hlt
      have hc' := Lib.hid hc
      clear hc hM1 hRB
      by_cases h1 : bi < 0
      · have hnn := Lib.hid (nxt_neg l k hlt (by rw [hnx.out]; exact h1))
        go_wp2_with fail
        go_quiet (fail)
        go_wp2
        go_roundw
        case rel => exact ⟨k + 1, _, by omega, by go_num, rfl, hnn, by first | exact hE | exact Ext.trans hE (Ext.alloc_ _ _) | exact Ext.drewN_ hE _ | exact Ext.drewN_ (Ext.trans hE (Ext.alloc_ _ _)) _⟩
        case measure => simp [intOf]; omega
      · obtain ⟨bn, rfl⟩ : ∃ bn : Nat, bi = bn := ⟨bi.toNat, by omega⟩
        have hbn : bn < l.length := by have := hr2'.out; omega
        obtain ⟨B2, cB2, hRB2, j0, j1, j2, j3⟩ := els_msg hc'.out bn hbn
        clear hRB2 h1 hr1
        by_cases h2 : l[bn].cat < l[k].cat
        · have hnn := Lib.hid (nxt_gt l k bn hlt hbn hnx.out h2)
          go_wp2_with fail
          go_quiet (fail)
          go_wp2
          go_roundw
          case rel => exact ⟨k + 1, _, by omega, by go_num, rfl, hnn, by first | exact hE | exact Ext.trans hE (Ext.alloc_ _ _) | exact Ext.drewN_ hE _ | exact Ext.drewN_ (Ext.trans hE (Ext.alloc_ _ _)) _⟩
          case measure => simp [intOf]; omega
        · have hnn := Lib.hid (nxt_le l k bn hlt hbn hnx.out h2)
          go_wp2_with fail
          go_quiet (fail)
          go_wp2
          go_roundw
          case rel => exact ⟨k + 1, _, by omega, by go_num, rfl, hnn, by first | exact hE | exact Ext.trans hE (Ext.alloc_ _ _) | exact Ext.drewN_ hE _ | exact Ext.drewN_ (Ext.trans hE (Ext.alloc_ _ _)) _⟩
          case measure => simp [intOf]; omega
    · obtain rfl : k = l.length := by omega
      clear hM1
      go_wp2
      go_ret
      exact ⟨(by rw [hnx.out]; first | done | rfl), by first | exact Ext.trans (Ext.alloc_ _ _) hE | exact Ext.trans (Ext.trans (Ext.alloc_ _ _) hE) (Ext.alloc_ _ _) | exact Ext.trans (Ext.alloc_ _ _) (Ext.drewN_ hE _) | exact Ext.trans (Ext.alloc_ _ _) (Ext.drewN_ (Ext.trans hE (Ext.alloc_ _ _)) _)⟩
theorem sQueOk (w : World) (A : Option Addr) (n c : Nat) (d : Int) (l : List Msg) (hn : l.length = n) (hM : Els w A 4 (kE kMsg) l) (hl : n ≤ 1048577) :
    Calls Try.prog 75 #[.agg #[.slice A n c, .int .i64 d]] w fun e w' => e = .returned (.bool (okQ l d)) ∧ Below w.heap.size w w' := by
  subst hn
  have hM1 := els_up hM (Ext.alloc_ w (.cells #[.slice A l.length c, .int .i64 d] 55))
  clear hM
  go_enter Try.func75, Try.ntmps75
  go_wp2
  go_loopw [3] (fun i wr => ∃ k : Nat, k ≤ l.length ∧ i = .int .i64 k ∧ Hid (∀ i (h : i < l.length), i < k → okM l[i] = true) ∧ Ext (w.alloc (.cells #[.slice A l.length c, .int .i64 d] 55)) wr) (fun i _ => l.length - (intOf i).toNat)
  case atStart => exact ⟨0, Nat.zero_le _, rfl, Lib.hid (fun i h h0 => absurd h0 (by omega)), Ext.refl _⟩
  case round =>
    obtain ⟨k, hk, rfl, hI, hE⟩ := hrel
    have b1 := ext_blk hE (new_blk1 w _ _)
    obtain ⟨x1, x2, x3⟩ := blk_cells b1
    clear b1
    by_cases hlt : k < l.length
    · obtain ⟨b, off, rfl, hb, hc⟩ := (els_up hM1 hE).at_ (List.ne_nil_of_length_pos (by omega))
      obtain ⟨B, cB, hRB, k0, k1, k2, k3⟩ := els_msg hc k hlt
      clear hc hM1 hRB
      by_cases h1 : okM l[k] = true
      · have hnn := Lib.hid (okQ_next hI.out hlt h1)
        have h1' := Lib.hid h1
        clear h1
        go_wp2_with fail
        refine (sMsgOk _ _ _ _ _ _ _).mono ?_
        rintro e w2 ⟨rfl, hb2⟩
        rw [show msgB l[k].to l[k].cat l[k].dl l[k].body.length = true from h1'.out]
        go_wp2
        go_roundw
        case rel => exact ⟨k + 1, by omega, by go_num, hnn, Ext.trans hE hb2⟩
        case measure => simp [intOf]; omega
      · have h1' := Lib.hid (show okM l[k] = false by simpa using h1)
        have hF := Lib.hid (okQ_bad (d := d) hlt h1'.out)
        clear h1
        go_wp2_with fail
        refine (sMsgOk _ _ _ _ _ _ _).mono ?_
        rintro e w2 ⟨rfl, hb2⟩
        rw [show msgB l[k].to l[k].cat l[k].dl l[k].body.length = false from h1'.out]
        go_wp2
        go_ret
        exact ⟨(by rw [hF.out]; first | done | rfl), Ext.trans (Ext.alloc_ _ _) (Ext.trans hE hb2)⟩
    · obtain rfl : k = l.length := by omega
      have hF := Lib.hid (okQ_all (d := d) hI.out)
      clear hM1
      by_cases h1 : l.length ≤ 12
      · have h1i : (l.length : Int) ≤ 12 := by omega
        by_cases h2 : 0 ≤ d
        · have hF2 := Lib.hid (show okQ l d = true by rw [hF.out]; simp [h1, h2])
          go_wp2
          go_ret
          exact ⟨(by rw [hF2.out]; first | done | rfl), by first | exact Ext.trans (Ext.alloc_ _ _) hE | exact Ext.trans (Ext.trans (Ext.alloc_ _ _) hE) (Ext.alloc_ _ _) | exact Ext.trans (Ext.alloc_ _ _) (Ext.drewN_ hE _) | exact Ext.trans (Ext.alloc_ _ _) (Ext.drewN_ (Ext.trans hE (Ext.alloc_ _ _)) _)⟩
        · have hF2 := Lib.hid (show okQ l d = false by rw [hF.out]; simp [h1, h2])
          go_wp2
          go_ret
          exact ⟨(by rw [hF2.out]; first | done | rfl), by first | exact Ext.trans (Ext.alloc_ _ _) hE | exact Ext.trans (Ext.trans (Ext.alloc_ _ _) hE) (Ext.alloc_ _ _) | exact Ext.trans (Ext.alloc_ _ _) (Ext.drewN_ hE _) | exact Ext.trans (Ext.alloc_ _ _) (Ext.drewN_ (Ext.trans hE (Ext.alloc_ _ _)) _)⟩
      · have h1i : ¬ (l.length : Int) ≤ 12 := by omega
        have hF2 := Lib.hid (show okQ l d = false by rw [hF.out]; simp [h1])
        go_wp2
        go_ret
        exact ⟨(by rw [hF2.out]; first | done | rfl), by first | exact Ext.trans (Ext.alloc_ _ _) hE | exact Ext.trans (Ext.trans (Ext.alloc_ _ _) hE) (Ext.alloc_ _ _) | exact Ext.trans (Ext.alloc_ _ _) (Ext.drewN_ hE _) | exact Ext.trans (Ext.alloc_ _ _) (Ext.drewN_ (Ext.trans hE (Ext.alloc_ _ _)) _)⟩
theorem iQueOk (w : World) (A : Option Addr) (n c : Nat) (d : Int) (l : List Msg) (hn : l.length = n) (hM : Els w A 4 (kE kMsg) l) (hl : n ≤ 1048577) :
    Calls Try.prog 78 #[.agg #[.slice A n c, .int .i64 d]] w fun e w' => e = .returned (.bool (okQ l d)) ∧ Below w.heap.size w w' := by
  subst hn
  have hM1 := els_up hM (Ext.alloc_ w (.cells #[.slice A l.length c, .int .i64 d] 55))
  clear hM
  by_cases h1 : l.length ≤ 12
  · have h1i : ¬ (12 : Int) < (l.length : Int) := by omega
    by_cases h2 : 0 ≤ d
    · have h2i : ¬ d < 0 := by omega
      go_enter Try.func78, Try.ntmps78
      go_wp2
      go_loopw [17] (fun i wr => ∃ k : Nat, k ≤ l.length ∧ i = .int .i64 k ∧ Hid (∀ i (h : i < l.length), i < k → okM l[i] = true) ∧ Ext (w.alloc (.cells #[.slice A l.length c, .int .i64 d] 55)) wr) (fun i _ => l.length - (intOf i).toNat)
      case atStart => exact ⟨0, Nat.zero_le _, rfl, Lib.hid (fun i h h0 => absurd h0 (by omega)), Ext.refl _⟩
      case round =>
        obtain ⟨k, hk, rfl, hI, hE⟩ := hrel
        by_cases hlt : k < l.length
        · obtain ⟨b, off, rfl, hb, hc⟩ := (els_up hM1 hE).at_ (List.ne_nil_of_length_pos (by omega))
          obtain ⟨B, cB, hRB, k0, k1, k2, k3⟩ := els_msg hc k hlt
          clear hc hM1 hRB
          by_cases h3 : okM l[k] = true
          · have hnn := Lib.hid (okQ_next hI.out hlt h3)
            have h1' := Lib.hid h3
            clear h3
            go_wp2_with fail
            refine (iMsgOk _ _ _ _ _ _ _).mono ?_
            rintro e w2 ⟨rfl, hb2⟩
            rw [show msgB l[k].to l[k].cat l[k].dl l[k].body.length = true from h1'.out]
            go_wp2
            go_roundw
            case rel => exact ⟨k + 1, by omega, by go_num, hnn, Ext.trans (Ext.trans hE (Ext.alloc_ _ _)) hb2⟩
            case measure => simp [intOf]; omega
          · have h1' := Lib.hid (show okM l[k] = false by simpa using h3)
            have hF := Lib.hid (okQ_bad (d := d) hlt h1'.out)
            clear h3
            go_wp2_with fail
            refine (iMsgOk _ _ _ _ _ _ _).mono ?_
            rintro e w2 ⟨rfl, hb2⟩
            rw [show msgB l[k].to l[k].cat l[k].dl l[k].body.length = false from h1'.out]
            go_wp2
            go_ret
            exact ⟨(by rw [hF.out]; first | done | rfl), Ext.trans (Ext.alloc_ _ _) (Ext.trans (Ext.trans hE (Ext.alloc_ _ _)) hb2)⟩
        · obtain rfl : k = l.length := by omega
          have hF := Lib.hid (okQ_all (d := d) hI.out)
          have hF2 := Lib.hid (show okQ l d = true by rw [hF.out]; simp [h1, h2])
          clear hM1
          go_wp2
          go_ret
          exact ⟨(by rw [hF2.out]; first | done | rfl), by first | exact Ext.trans (Ext.alloc_ _ _) hE | exact Ext.trans (Ext.trans (Ext.alloc_ _ _) hE) (Ext.alloc_ _ _) | exact Ext.trans (Ext.alloc_ _ _) (Ext.drewN_ hE _) | exact Ext.trans (Ext.alloc_ _ _) (Ext.drewN_ (Ext.trans hE (Ext.alloc_ _ _)) _)⟩
    · have h2i : d < 0 := by omega
      have hF2 := Lib.hid (show okQ l d = false by simp [okQ, h2])
      go_enter Try.func78, Try.ntmps78
      go_wp2
      go_ret
      exact ⟨(by rw [hF2.out]; first | done | rfl), Ext.alloc_ _ _⟩
  · have h1i : (12 : Int) < (l.length : Int) := by omega
    have hF2 := Lib.hid (show okQ l d = false by simp [okQ, h1])
    go_enter Try.func78, Try.ntmps78
    go_wp2
    go_ret
    exact ⟨(by rw [hF2.out]; first | done | rfl), Ext.alloc_ _ _⟩
/-- A value that reads as a queue. -/
def SP.tq (n : Nat) (d : Int) (l : List Msg) : SP :=
  { p := fun v w => ∃ A c, v = .agg #[.slice A n c, .int .i64 d] ∧ Els w A 4 (kE kMsg) l
    st := fun v w w' hE ⟨A, c, h1, h2⟩ => ⟨A, c, h1, els_up h2 hE⟩ }
end Go.Proofs.Ytkmklafjcjkpdaa
