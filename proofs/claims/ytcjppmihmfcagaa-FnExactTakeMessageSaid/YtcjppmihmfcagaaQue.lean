/- Lists of messages and of reassemblies: the size check, the copy and the comparison of the laws. -/
import Derived.Test.YtcjppmihmfcagaaEls2
namespace Go.Proofs.Ytcjppmihmfcagaa
open Go.RowKit
set_option linter.unusedVariables false
set_option linter.unusedSimpArgs false

def tot {α : Type} (K : Kind α) (l : List α) : Int := (l.map fun m => ((K.bd m).length : Int)).sum
section
variable {α : Type} {K : Kind α}
theorem tot_nonneg (l : List α) : 0 ≤ tot K l := by
  induction l with
  | nil => simp [tot]
  | cons m ms ih => simp [tot] at ih ⊢; omega
theorem tot_append (a b : List α) : tot K (a ++ b) = tot K a + tot K b := by simp [tot]
theorem tot_take_le (l : List α) (k : Nat) : tot K (l.take k) ≤ tot K l := by
  have h : tot K l = tot K (l.take k) + tot K (l.drop k) := by rw [← tot_append, List.take_append_drop]
  have := tot_nonneg (K := K) (l.drop k)
  omega
theorem tot_next (l : List α) (k : Nat) (h : k < l.length) : tot K (l.take (k + 1)) = tot K (l.take k) + (K.bd l[k]).length := by
  rw [take_snoc_get l k h, tot_append]
  simp [tot]
theorem tot_one_le (l : List α) (k : Nat) (h : k < l.length) : ((K.bd l[k]).length : Int) ≤ tot K l := by
  have h1 := tot_next (K := K) l k h
  have h2 := tot_take_le (K := K) l (k + 1)
  have h3 := tot_nonneg (K := K) (l.take k)
  omega
end

def kMsg : Kind Msg := { size := 4, hd := fun m v => [.int .i64 m.to, .int .i64 m.cat, .int .i64 m.dl, v], bd := fun m => m.body, hlen := fun _ _ => rfl }
structure Rea where
  frm : Int
  sq : Int
  nx : Int
  st : Int
  body : List Int
def kRea : Kind Rea := { size := 5, hd := fun m v => [.int .i64 m.frm, .int .i64 m.sq, .int .i64 m.nx, v, .int .i64 m.st], bd := fun m => m.body, hlen := fun _ _ => rfl }
theorem kMsg_bd (m : Msg) : kMsg.bd m = m.body := rfl
theorem kRea_bd (m : Rea) : kRea.bd m = m.body := rfl

/-- The cells of element k. -/
theorem els_msg {w : World} {b off : Nat} {l : List Msg} (h : ∀ i (h : i < l.length), ∃ cs, kE kMsg w l[i] cs ∧ ∀ j u, cs[j]? = some u → w.cell? ⟨b, off + i * 4 + j, none⟩ = some u) (k : Nat) (hk : k < l.length) :
    ∃ A c, RB w A c l[k].body ∧ w.cell? ⟨b, off + k * 4, none⟩ = some (.int .i64 l[k].to) ∧ w.cell? ⟨b, off + k * 4 + 1, none⟩ = some (.int .i64 l[k].cat) ∧ w.cell? ⟨b, off + k * 4 + 2, none⟩ = some (.int .i64 l[k].dl) ∧
      w.cell? ⟨b, off + k * 4 + 3, none⟩ = some (.slice A l[k].body.length c) := by
  obtain ⟨cs, ⟨A, c, rfl, hr⟩, h2⟩ := h k hk
  exact ⟨A, c, hr, h2 0 _ rfl, h2 1 _ rfl, h2 2 _ rfl, h2 3 _ rfl⟩
theorem els_rea {w : World} {b off : Nat} {l : List Rea} (h : ∀ i (h : i < l.length), ∃ cs, kE kRea w l[i] cs ∧ ∀ j u, cs[j]? = some u → w.cell? ⟨b, off + i * 5 + j, none⟩ = some u) (k : Nat) (hk : k < l.length) :
    ∃ A c, RB w A c l[k].body ∧ w.cell? ⟨b, off + k * 5, none⟩ = some (.int .i64 l[k].frm) ∧ w.cell? ⟨b, off + k * 5 + 1, none⟩ = some (.int .i64 l[k].sq) ∧ w.cell? ⟨b, off + k * 5 + 2, none⟩ = some (.int .i64 l[k].nx) ∧
      w.cell? ⟨b, off + k * 5 + 3, none⟩ = some (.slice A l[k].body.length c) ∧ w.cell? ⟨b, off + k * 5 + 4, none⟩ = some (.int .i64 l[k].st) := by
  obtain ⟨cs, ⟨A, c, rfl, hr⟩, h2⟩ := h k hk
  exact ⟨A, c, hr, h2 0 _ rfl, h2 1 _ rfl, h2 2 _ rfl, h2 3 _ rfl, h2 4 _ rfl⟩
theorem rea_rd {w : World} {cs : List Value} (h : Rd Try.prog w 90 cs) : ∃ m : Rea, kE kRea w m cs ∧ m.body.length ≤ maxLen := by
  have hl := (Rd.struct Try.underlying90 h).1
  rw [show Try.prog.cellsOf 90 = 5 from by kernel_rfl] at hl
  obtain ⟨x0, h0⟩ := int_f Try.underlying90 h 0 _ rfl Try.underlying3 cells_int1
  obtain ⟨x1, h1⟩ := int_f Try.underlying90 h 1 _ rfl Try.underlying3 cells_int1
  obtain ⟨x2, h2⟩ := int_f Try.underlying90 h 2 _ rfl Try.underlying3 cells_int1
  obtain ⟨A, l, c, h3, h9, h10⟩ := bytes_f Try.underlying90 h 3 _ rfl rfl
  obtain ⟨x4, h4⟩ := int_f Try.underlying90 h 4 _ rfl Try.underlying3 cells_int1
  match cs, hl with
  | [c0, c1, c2, c3, c4], _ =>
    simp at h0 h1 h2 h3 h4
    subst h0 h1 h2 h3 h4
    exact ⟨⟨x0, x1, x2, x4, l⟩, ⟨A, c, rfl, h9⟩, h10⟩
theorem szRea_ (w : World) (frm sq nx st : Int) (A : Option Addr) (n c : Nat) (left : Int) (hl : 0 ≤ left ∧ left ≤ 1048576) (hn : n ≤ maxLen) :
    Calls Try.prog 70 #[.agg #[.int .i64 frm, .int .i64 sq, .int .i64 nx, .slice A n c, .int .i64 st], .int .i64 left] w
      fun e w' => e = .returned (.int .i64 (if left < (n : Int) then -1 else left - n)) ∧ Below w.heap.size w w' := by
  have hn' := Lib.hid hn
  clear hn
  by_cases h : left < (n : Int)
  · rw [if_pos h]
    go_enter Try.func70, Try.ntmps70
    go_wp2_with fail
    refine (szByteS_ _ _ _ _ ⟨hl.1, by omega⟩ (by have := hn'.out; unfold maxLen at this; omega) _).mono ?_
    rintro e w' ⟨rfl, rfl⟩
    rw [if_pos h]
    go_wp2_with fail
    go_ret
    exact ⟨rfl, by repeat (first | (with_reducible exact Below.refl _ _) | (with_reducible assumption) | (with_reducible refine Below.alloc ?_ (by simp <;> omega) _) | (with_reducible refine Below.setCell ?_ (by simp <;> omega) _) | (with_reducible refine Below.drew ?_))⟩
  · rw [if_neg h]
    go_enter Try.func70, Try.ntmps70
    go_wp2_with fail
    refine (szByteS_ _ _ _ _ ⟨hl.1, by omega⟩ (by have := hn'.out; unfold maxLen at this; omega) _).mono ?_
    rintro e w' ⟨rfl, rfl⟩
    rw [if_neg (by omega)]
    have h2 : ¬ left - (n : Int) < 0 := by omega
    go_wp2_with fail
    go_ret
    exact ⟨rfl, by repeat (first | (with_reducible exact Below.refl _ _) | (with_reducible assumption) | (with_reducible refine Below.alloc ?_ (by simp <;> omega) _) | (with_reducible refine Below.setCell ?_ (by simp <;> omega) _) | (with_reducible refine Below.drew ?_))⟩
theorem toRea_ (w : World) (frm sq nx st : Int) (A : Option Addr) (n c : Nat) (l : List Int) (hn : l.length = n) (hr : RB w A c l) (hl : n ≤ 1048576) :
    Calls Try.prog 72 #[.agg #[.int .i64 frm, .int .i64 sq, .int .i64 nx, .slice A n c, .int .i64 st]] w
      fun e w' => ∃ g, e = .returned (.agg #[.int .i64 frm, .int .i64 sq, .int .i64 nx, .slice (some ⟨g, 0, none⟩) n n, .int .i64 st]) ∧ Ext w w' ∧ w.heap.size ≤ g ∧ w'.heap[g]? = some (.cells (l.map (Value.int .u8)).toArray 5 (0, 0)) := by
  have hr' := Lib.hid hr
  have hn' := Lib.hid hn
  clear hr hn
  go_enter Try.func72, Try.ntmps72
  go_wp2_with fail
  refine (toByteS_ _ _ _ l _ hn'.out (hr'.out.1.ext (Ext.trans (Ext.trans (Ext.alloc_ _ _) (Ext.alloc_ _ _)) (Ext.alloc_ _ _))) hl).mono ?_
  rintro e w1 ⟨rfl, rfl⟩
  go_wp2_with fail
  refine bodyPost_ret (v := .agg #[.int .i64 frm, .int .i64 sq, .int .i64 nx, .slice (some ⟨w.heap.size + 1 + 1 + 1, 0, none⟩) n n, .int .i64 st]) (by simp [results, Try.results72, go_sem]) rfl ⟨_, rfl, ?_, ?_, ?_⟩
  · repeat (first | exact Ext.alloc_ _ _ | refine Ext.trans ?_ (Ext.alloc_ _ _))
  · omega
  · have h := heap_alloc_new (((w.alloc (.cells #[.int .i64 frm, .int .i64 sq, .int .i64 nx, .slice A n c, .int .i64 st] 90)).alloc (.cells #[.int .i64 frm, .int .i64 sq, .int .i64 nx, .slice (some ⟨w.heap.size + 1 + 1 + 1, 0, none⟩) n n, .int .i64 st] 31)).alloc (.cells #[.int .i64 frm, .int .i64 sq, .int .i64 nx, .slice (some ⟨w.heap.size + 1 + 1 + 1, 0, none⟩) n n, .int .i64 st] 31)) (.cells (l.map (Value.int .u8)).toArray 5 (0, 0))
    simp only [World.size_alloc] at h
    exact h
theorem eqRea_ (w : World) (frm sq nx st : Int) (A A' : Option Addr) (n c c' : Nat) (l : List Int) (hn : l.length = n) (hr : RB w A c l) (hr' : RB w A' c' l) (hl : n ≤ 1048576) :
    Calls Try.prog 21 #[.agg #[.int .i64 frm, .int .i64 sq, .int .i64 nx, .slice A n c, .int .i64 st], .agg #[.int .i64 frm, .int .i64 sq, .int .i64 nx, .slice A' n c', .int .i64 st]] w
      fun e w' => e = .returned (.bool true) ∧ Below w.heap.size w w' := by
  have hE := Ext.trans (Ext.alloc_ w (.cells #[.int .i64 frm, .int .i64 sq, .int .i64 nx, .slice A n c, .int .i64 st] 31)) (Ext.alloc_ _ (.cells #[.int .i64 frm, .int .i64 sq, .int .i64 nx, .slice A' n c', .int .i64 st] 31))
  have H1 := Lib.hid (hr.ext hE)
  have H2 := Lib.hid (hr'.ext hE)
  have hn' := Lib.hid hn
  clear hr hr' hn hE
  go_enter Try.func21, Try.ntmps21
  go_wp2_with fail
  refine (eqByteS_ _ _ _ _ _ l _ hn'.out H1.out.1 H2.out.1 (by omega)).mono ?_
  rintro e w1 ⟨rfl, hb1⟩
  obtain ⟨hc1, hf1⟩ := bcell (hb1)
  go_wp2_with fail
  go_ret
  exact ⟨rfl, Ext.trans (Ext.trans (Ext.alloc_ _ _) (Ext.alloc_ _ _)) hb1⟩
theorem szMsgS_ (w : World) (A : Option Addr) (n c : Nat) (l : List Msg) (left : Int) (hn : l.length = n) (hM : Els w A 4 (kE kMsg) l) (hb : ∀ i (h : i < l.length), l[i].body.length ≤ maxLen) (hl : 0 ≤ left ∧ left ≤ 1048576) (hnm : n ≤ maxLen) :
    Calls Try.prog 73 #[.slice A n c, .int .i64 left] w fun e w' => e = .returned (.int .i64 (if left < (n : Int) + tot kMsg l then -1 else left - (n + tot kMsg l))) ∧ Below w.heap.size w w' := by
  have hnm' := Lib.hid hnm
  clear hnm
  have hb' := Lib.hid hb
  clear hb
  have ht := Lib.hid (tot_nonneg (K := kMsg) l)
  subst hn
  by_cases h0 : left < (l.length : Int)
  · rw [if_pos (by have := ht.out; omega)]
    have h2 : left - (l.length : Int) < 0 := by omega
    have h3 : -9223372036854775808 ≤ left - (l.length : Int) := by have := hnm'.out; unfold maxLen at this; omega
    go_enter Try.func73, Try.ntmps73
    go_wp2
    go_ret
    exact ⟨rfl, Below.refl _ _⟩
  · have h2 : ¬ left - (l.length : Int) < 0 := by omega
    generalize hr : (if left < (l.length : Int) + tot kMsg l then (-1 : Int) else left - (l.length + tot kMsg l)) = r
    have hr' := Lib.hid hr
    clear hr
    have hl20 : l.length ≤ 1048576 := by omega
    go_enter Try.func73, Try.ntmps73
    go_wp2
    go_loopw [1, 5] (fun v i wr => ∃ k : Nat, ∃ lk : Int, k ≤ l.length ∧ i = .int .i64 k ∧ v = .int .i64 lk ∧ Hid (lk = left - l.length - tot kMsg (l.take k)) ∧ 0 ≤ lk ∧ lk ≤ 1048576 ∧ Ext w wr) (fun _ i _ => l.length - (intOf i).toNat)
    case atStart => exact ⟨0, _, Nat.zero_le _, rfl, rfl, Lib.hid (by simp [tot]), by omega, by omega, Ext.refl _⟩
    case round =>
      obtain ⟨k, lk, hk, rfl, rfl, hv, hlk, hlk2, hE⟩ := hrel
      by_cases hlt : k < l.length
      · obtain ⟨b, off, rfl, hb, hc⟩ := (els_up hM hE).at_ (List.ne_nil_of_length_pos (by omega))
        obtain ⟨B, cB, hRB, k0, k1, k2, k3⟩ := els_msg hc k hlt
        have hbl := Lib.hid (hb'.out k hlt)
        have htn := Lib.hid (tot_next (K := kMsg) l k hlt)
        have htl := Lib.hid (tot_take_le (K := kMsg) l (k + 1))
        obtain ⟨nb, hnb⟩ : ∃ nb, l[k].body.length = nb := ⟨_, rfl⟩
        rw [hnb] at k3
        have hnb' := Lib.hid hnb
        rw [hnb] at hbl
        clear hc hM hRB hnb
        by_cases hs : lk < (nb : Int)
        · go_wp2_with fail
          refine (szMsg_ _ _ _ _ _ _ _ _ ⟨hlk, hlk2⟩ hbl.out).mono ?_
          rintro e w2 ⟨rfl, hb2⟩
          rw [if_pos (by omega)]
          go_wp2
          go_ret
          refine ⟨?_, Ext.trans hE hb2⟩
          rw [← hr'.out, if_pos]
          · rfl
          · have e1 := hv.out
            have e2 := htn.out
            have e3 := htl.out
            have e4 := hnb'.out
            rw [kMsg_bd, e4] at e2
            omega
        · go_wp2_with fail
          refine (szMsg_ _ _ _ _ _ _ _ _ ⟨hlk, hlk2⟩ hbl.out).mono ?_
          rintro e w2 ⟨rfl, hb2⟩
          rw [if_neg (by omega)]
          have hs2 : ¬ lk - (nb : Int) < 0 := by omega
          go_wp2
          go_roundw
          case rel =>
            refine ⟨k + 1, _, by omega, by go_num, rfl, Lib.hid ?_, by omega, by omega, Ext.trans hE hb2⟩
            have e1 := hv.out
            have e2 := htn.out
            have e4 := hnb'.out
            rw [kMsg_bd, e4] at e2
            omega
          case measure => simp [intOf]; omega
      · obtain rfl : k = l.length := by omega
        clear hM
        go_wp2
        go_ret
        refine ⟨?_, hE⟩
        have e1 := hv.out
        rw [List.take_length] at e1
        rw [← hr'.out, if_neg (by omega)]
        have : lk = left - (l.length + tot kMsg l) := by omega
        rw [← this]
        rfl
theorem szReaS_ (w : World) (A : Option Addr) (n c : Nat) (l : List Rea) (left : Int) (hn : l.length = n) (hM : Els w A 5 (kE kRea) l) (hb : ∀ i (h : i < l.length), l[i].body.length ≤ maxLen) (hl : 0 ≤ left ∧ left ≤ 1048576) (hnm : n ≤ maxLen) :
    Calls Try.prog 26 #[.slice A n c, .int .i64 left] w fun e w' => e = .returned (.int .i64 (if left < (n : Int) + tot kRea l then -1 else left - (n + tot kRea l))) ∧ Below w.heap.size w w' := by
  have hnm' := Lib.hid hnm
  clear hnm
  have hb' := Lib.hid hb
  clear hb
  have ht := Lib.hid (tot_nonneg (K := kRea) l)
  subst hn
  by_cases h0 : left < (l.length : Int)
  · rw [if_pos (by have := ht.out; omega)]
    have h2 : left - (l.length : Int) < 0 := by omega
    have h3 : -9223372036854775808 ≤ left - (l.length : Int) := by have := hnm'.out; unfold maxLen at this; omega
    go_enter Try.func26, Try.ntmps26
    go_wp2
    go_ret
    exact ⟨rfl, Below.refl _ _⟩
  · have h2 : ¬ left - (l.length : Int) < 0 := by omega
    generalize hr : (if left < (l.length : Int) + tot kRea l then (-1 : Int) else left - (l.length + tot kRea l)) = r
    have hr' := Lib.hid hr
    clear hr
    have hl20 : l.length ≤ 1048576 := by omega
    go_enter Try.func26, Try.ntmps26
    go_wp2
    go_loopw [1, 5] (fun v i wr => ∃ k : Nat, ∃ lk : Int, k ≤ l.length ∧ i = .int .i64 k ∧ v = .int .i64 lk ∧ Hid (lk = left - l.length - tot kRea (l.take k)) ∧ 0 ≤ lk ∧ lk ≤ 1048576 ∧ Ext w wr) (fun _ i _ => l.length - (intOf i).toNat)
    case atStart => exact ⟨0, _, Nat.zero_le _, rfl, rfl, Lib.hid (by simp [tot]), by omega, by omega, Ext.refl _⟩
    case round =>
      obtain ⟨k, lk, hk, rfl, rfl, hv, hlk, hlk2, hE⟩ := hrel
      by_cases hlt : k < l.length
      · obtain ⟨b, off, rfl, hb, hc⟩ := (els_up hM hE).at_ (List.ne_nil_of_length_pos (by omega))
        obtain ⟨B, cB, hRB, k0, k1, k2, k3, k4⟩ := els_rea hc k hlt
        have hbl := Lib.hid (hb'.out k hlt)
        have htn := Lib.hid (tot_next (K := kRea) l k hlt)
        have htl := Lib.hid (tot_take_le (K := kRea) l (k + 1))
        obtain ⟨nb, hnb⟩ : ∃ nb, l[k].body.length = nb := ⟨_, rfl⟩
        rw [hnb] at k3
        have hnb' := Lib.hid hnb
        rw [hnb] at hbl
        clear hc hM hRB hnb
        by_cases hs : lk < (nb : Int)
        · go_wp2_with fail
          refine (szRea_ _ _ _ _ _ _ _ _ _ ⟨hlk, hlk2⟩ hbl.out).mono ?_
          rintro e w2 ⟨rfl, hb2⟩
          rw [if_pos (by omega)]
          go_wp2
          go_ret
          refine ⟨?_, Ext.trans hE hb2⟩
          rw [← hr'.out, if_pos]
          · rfl
          · have e1 := hv.out
            have e2 := htn.out
            have e3 := htl.out
            have e4 := hnb'.out
            rw [kRea_bd, e4] at e2
            omega
        · go_wp2_with fail
          refine (szRea_ _ _ _ _ _ _ _ _ _ ⟨hlk, hlk2⟩ hbl.out).mono ?_
          rintro e w2 ⟨rfl, hb2⟩
          rw [if_neg (by omega)]
          have hs2 : ¬ lk - (nb : Int) < 0 := by omega
          go_wp2
          go_roundw
          case rel =>
            refine ⟨k + 1, _, by omega, by go_num, rfl, Lib.hid ?_, by omega, by omega, Ext.trans hE hb2⟩
            have e1 := hv.out
            have e2 := htn.out
            have e4 := hnb'.out
            rw [kRea_bd, e4] at e2
            omega
          case measure => simp [intOf]; omega
      · obtain rfl : k = l.length := by omega
        clear hM
        go_wp2
        go_ret
        refine ⟨?_, hE⟩
        have e1 := hv.out
        rw [List.take_length] at e1
        rw [← hr'.out, if_neg (by omega)]
        have : lk = left - (l.length + tot kRea l) := by omega
        rw [← this]
        rfl
theorem elMsg : ElemTy Try.prog 52 71 4 48 := ElemTy.mk_ (z := .agg #[.int .i64 0, .int .i64 0, .int .i64 0, .slice none 0 0]) Try.underlying52 (by kernel_rfl) (by kernel_rfl) (by decide)
theorem elRea : ElemTy Try.prog 42 31 5 56 := ElemTy.mk_ (z := .agg #[.int .i64 0, .int .i64 0, .int .i64 0, .slice none 0 0, .int .i64 0]) Try.underlying42 (by kernel_rfl) (by kernel_rfl) (by decide)
/-- A new element whose body is a block that is known whole. -/
theorem ok_new {α : Type} {K : Kind α} {w : World} {B C G g n : Nat} {x : α} {T : TypeId} (hn : (K.bd x).length = n) (h : w.heap[g]? = some (.cells ((K.bd x).map (Value.int .u8)).toArray T (0, 0))) (hB : B ≤ g) (hC : g < C) (hG : g ≠ G) :
    (⟨x, g, some ⟨g, 0, none⟩, n⟩ : El α).ok K w B C G := ⟨(by intro h; cases h), by simp [hn], .inr ⟨rfl, hB, hC, hG, _, _, h, fun j u hu => by simp [hu]⟩⟩
theorem toMsgS_ (w : World) (A : Option Addr) (n c : Nat) (l : List Msg) (hn : l.length = n) (hM : Els w A 4 (kE kMsg) l) (hl : (n : Int) + tot kMsg l ≤ 1048576) :
    Calls Try.prog 75 #[.slice A n c] w fun e w' => e = .returned (.slice (some ⟨w.heap.size, 0, none⟩) n n) ∧ Ext w w' ∧ Own kMsg w' w.heap.size w'.heap.size (some ⟨w.heap.size, 0, none⟩) l := by
  have hl' := Lib.hid hl
  have hl2 : n ≤ 1048576 := by have := tot_nonneg (K := kMsg) l; omega
  clear hl
  obtain ⟨cs, hcs, hmk⟩ := make_els elMsg n (by omega) (by omega)
  subst hn
  have hF0 := Lib.hid (Fil.zero (K := kMsg) (l := l) (B := w.heap.size) (Nat.le_refl _) (new_blk1 w cs 71) hcs)
  clear hcs
  go_enter Try.func75, Try.ntmps75
  go_wp2
  go_loopw [4] (fun i wr => ∃ k : Nat, k ≤ l.length ∧ i = .int .i64 k ∧ Ext w wr ∧ Fil kMsg wr w.heap.size w.heap.size l.length l k) (fun i _ => l.length - (intOf i).toNat)
  case atStart => exact ⟨0, Nat.zero_le _, rfl, Ext.alloc_ _ _, hF0.out⟩
  case round =>
    obtain ⟨k, hk, rfl, hE, hF⟩ := hrel
    clear hF0 hmk
    by_cases hlt : k < l.length
    · obtain ⟨b, off, rfl, hb, hc⟩ := (els_up hM hE).at_ (List.ne_nil_of_length_pos (by omega))
      obtain ⟨B, cB, hRB, k0, k1, k2, k3⟩ := els_msg hc k hlt
      have hF' := Lib.hid hF
      have hRB' := Lib.hid hRB
      have h1 := tot_one_le (K := kMsg) l k hlt
      rw [kMsg_bd] at h1
      have hbl : l[k].body.length ≤ 1048576 := by have := hl'.out; omega
      clear hc hM hF hRB h1
      go_wp2_with fail
      refine (toMsg_ _ _ _ _ _ _ _ l[k].body rfl hRB'.out hbl).mono ?_
      rintro e w2 ⟨g, rfl, hb2, hg, hkg⟩
      obtain ⟨hu, hfz, hG⟩ := (hF'.out.ext hb2).at_ hlt
      obtain ⟨u0, g0⟩ := hu 0 (by decide)
      obtain ⟨u1, g1⟩ := hu 1 (by decide)
      obtain ⟨u2, g2⟩ := hu 2 (by decide)
      obtain ⟨u3, g3⟩ := hu 3 (by decide)
      
      rw [Nat.add_zero] at g0
      have hb2' := Lib.hid hb2
      have hok := Lib.hid (ok_new (K := kMsg) (w := w2) (B := w.heap.size) (C := w2.heap.size) (G := w.heap.size) (x := l[k]) rfl hkg (by have := hE.size; omega) (blk_cells hkg).2.2 (by have := (blk_cells (w := wr) hF'.out.choose_spec.choose_spec.choose_spec.2.1).2.2; omega))
      have hg' := Lib.hid hg
      clear hu hb2 hkg hg
      simp only [show Kind.size kMsg = 4 from rfl] at g0 g1 g2 g3
      go_wp2_with fail
      go_roundw
      case rel =>
        have hs := hF'.out.step (g := g) (A := some ⟨g, 0, none⟩) (c := l[k].body.length) hb2'.out hlt (Nat.le_refl _) hg'.out hok.out
        exact ⟨k + 1, by omega, by go_num, setW_ext (G := w.heap.size) (Nat.le_refl _) (kMsg.hd l[k] (.slice (some ⟨g, 0, none⟩) l[k].body.length l[k].body.length)) w2 (k * 4) (Ext.trans hE hb2'.out), hs⟩
      case measure => simp [intOf]; omega
    · obtain rfl : k = l.length := by omega
      have hF' := Lib.hid hF
      clear hM hF
      go_wp2
      go_ret
      exact ⟨rfl, hE, hF'.out.done⟩
theorem toReaS_ (w : World) (A : Option Addr) (n c : Nat) (l : List Rea) (hn : l.length = n) (hM : Els w A 5 (kE kRea) l) (hl : (n : Int) + tot kRea l ≤ 1048576) :
    Calls Try.prog 28 #[.slice A n c] w fun e w' => e = .returned (.slice (some ⟨w.heap.size, 0, none⟩) n n) ∧ Ext w w' ∧ Own kRea w' w.heap.size w'.heap.size (some ⟨w.heap.size, 0, none⟩) l := by
  have hl' := Lib.hid hl
  have hl2 : n ≤ 1048576 := by have := tot_nonneg (K := kRea) l; omega
  clear hl
  obtain ⟨cs, hcs, hmk⟩ := make_els elRea n (by omega) (by omega)
  subst hn
  have hF0 := Lib.hid (Fil.zero (K := kRea) (l := l) (B := w.heap.size) (Nat.le_refl _) (new_blk1 w cs 31) hcs)
  clear hcs
  go_enter Try.func28, Try.ntmps28
  go_wp2
  go_loopw [4] (fun i wr => ∃ k : Nat, k ≤ l.length ∧ i = .int .i64 k ∧ Ext w wr ∧ Fil kRea wr w.heap.size w.heap.size l.length l k) (fun i _ => l.length - (intOf i).toNat)
  case atStart => exact ⟨0, Nat.zero_le _, rfl, Ext.alloc_ _ _, hF0.out⟩
  case round =>
    obtain ⟨k, hk, rfl, hE, hF⟩ := hrel
    clear hF0 hmk
    by_cases hlt : k < l.length
    · obtain ⟨b, off, rfl, hb, hc⟩ := (els_up hM hE).at_ (List.ne_nil_of_length_pos (by omega))
      obtain ⟨B, cB, hRB, k0, k1, k2, k3, k4⟩ := els_rea hc k hlt
      have hF' := Lib.hid hF
      have hRB' := Lib.hid hRB
      have h1 := tot_one_le (K := kRea) l k hlt
      rw [kRea_bd] at h1
      have hbl : l[k].body.length ≤ 1048576 := by have := hl'.out; omega
      clear hc hM hF hRB h1
      go_wp2_with fail
      refine (toRea_ _ _ _ _ _ _ _ _ l[k].body rfl hRB'.out hbl).mono ?_
      rintro e w2 ⟨g, rfl, hb2, hg, hkg⟩
      obtain ⟨hu, hfz, hG⟩ := (hF'.out.ext hb2).at_ hlt
      obtain ⟨u0, g0⟩ := hu 0 (by decide)
      obtain ⟨u1, g1⟩ := hu 1 (by decide)
      obtain ⟨u2, g2⟩ := hu 2 (by decide)
      obtain ⟨u3, g3⟩ := hu 3 (by decide)
      obtain ⟨u4, g4⟩ := hu 4 (by decide)
      rw [Nat.add_zero] at g0
      have hb2' := Lib.hid hb2
      have hok := Lib.hid (ok_new (K := kRea) (w := w2) (B := w.heap.size) (C := w2.heap.size) (G := w.heap.size) (x := l[k]) rfl hkg (by have := hE.size; omega) (blk_cells hkg).2.2 (by have := (blk_cells (w := wr) hF'.out.choose_spec.choose_spec.choose_spec.2.1).2.2; omega))
      have hg' := Lib.hid hg
      clear hu hb2 hkg hg
      simp only [show Kind.size kRea = 5 from rfl] at g0 g1 g2 g3 g4
      go_wp2_with fail
      go_roundw
      case rel =>
        have hs := hF'.out.step (g := g) (A := some ⟨g, 0, none⟩) (c := l[k].body.length) hb2'.out hlt (Nat.le_refl _) hg'.out hok.out
        exact ⟨k + 1, by omega, by go_num, setW_ext (G := w.heap.size) (Nat.le_refl _) (kRea.hd l[k] (.slice (some ⟨g, 0, none⟩) l[k].body.length l[k].body.length)) w2 (k * 5) (Ext.trans hE hb2'.out), hs⟩
      case measure => simp [intOf]; omega
    · obtain rfl : k = l.length := by omega
      have hF' := Lib.hid hF
      clear hM hF
      go_wp2
      go_ret
      exact ⟨rfl, hE, hF'.out.done⟩
theorem eqMsgS_ (w : World) (A A' : Option Addr) (n c c' : Nat) (l : List Msg) (hn : l.length = n) (hM : Els w A 4 (kE kMsg) l) (hM' : Els w A' 4 (kE kMsg) l) (hl : (n : Int) + tot kMsg l ≤ 1048577) :
    Calls Try.prog 77 #[.slice A n c, .slice A' n c'] w fun e w' => e = .returned (.bool true) ∧ Below w.heap.size w w' := by
  have hl' := Lib.hid hl
  have hl2 : n ≤ 1048577 := by have := tot_nonneg (K := kMsg) l; omega
  clear hl
  subst hn
  go_enter Try.func77, Try.ntmps77
  go_wp2
  go_loopw [5] (fun i wr => ∃ k : Nat, k ≤ l.length ∧ i = .int .i64 k ∧ Ext w wr) (fun i _ => l.length - (intOf i).toNat)
  case atStart => exact ⟨0, Nat.zero_le _, rfl, Ext.refl _⟩
  case round =>
    obtain ⟨k, hk, rfl, hE⟩ := hrel
    by_cases hlt : k < l.length
    · obtain ⟨b, off, rfl, hb, hc⟩ := (els_up hM hE).at_ (List.ne_nil_of_length_pos (by omega))
      obtain ⟨b', off', rfl, hb', hc'⟩ := (els_up hM' hE).at_ (List.ne_nil_of_length_pos (by omega))
      obtain ⟨B, cB, hRB, k0, k1, k2, k3⟩ := els_msg hc k hlt
      obtain ⟨B', cB', hRB', m0, m1, m2, m3⟩ := els_msg hc' k hlt
      have h1 := tot_one_le (K := kMsg) l k hlt
      rw [kMsg_bd] at h1
      have hbl : l[k].body.length ≤ 1048576 := by have := hl'.out; omega
      have R1 := Lib.hid hRB
      have R2 := Lib.hid hRB'
      clear hc hM hc' hM' hRB hRB' h1
      go_wp2_with fail
      refine wp_region_chain 10 (by kernel_rfl) (by kernel_rfl) ?_
      simp only [List.take_succ_cons, List.take_zero, List.drop_succ_cons, List.drop_zero]
      repeat (apply Chain.quiet; · (intro vs wq hEq hd; obtain ⟨hcq, hfq⟩ := bcell hEq; clear hEq hd; (try simp only [Act.put, SP.pick, SP.is, SP.box, id_eq, List.take_succ_cons, List.take_zero, List.drop_succ_cons, List.drop_zero, List.setIfInBounds_toArray, List.set_cons_zero, List.set_cons_succ]); refine growOp_go ?_; go_simp; exact ⟨Ext.refl _, rfl⟩))
      apply Chain.quiet
      · intro vs wq hEq hd
        clear hd
        (try simp only [Act.put, SP.pick, SP.is, SP.box, id_eq, List.take_succ_cons, List.take_zero, List.drop_succ_cons, List.drop_zero, List.setIfInBounds_toArray, List.set_cons_zero, List.set_cons_succ])
        refine growOp_go ?_
        go_simp
        refine (eqMsg_ _ _ _ _ _ _ _ _ _ l[k].body rfl (R1.out.ext hEq) (R2.out.ext hEq) hbl).mono ?_
        rintro e w7 ⟨rfl, hb7⟩
        first | exact ⟨rfl, hb7⟩ | exact ⟨_, rfl, hb7, rfl⟩
      repeat (apply Chain.quiet; · (intro vs wq hEq hd; obtain ⟨hcq, hfq⟩ := bcell hEq; clear hEq hd; (try simp only [Act.put, SP.pick, SP.is, SP.box, id_eq, List.take_succ_cons, List.take_zero, List.drop_succ_cons, List.drop_zero, List.setIfInBounds_toArray, List.set_cons_zero, List.set_cons_succ]); refine growOp_go ?_; go_simp; exact ⟨Ext.refl _, rfl⟩))
      refine Chain.done ?_
      intro vs w8 hE8 hd8
      simp only [Act.put, SP.pick, SP.is, SP.box, id_eq, List.take_succ_cons, List.take_zero, List.drop_succ_cons, List.drop_zero, List.setIfInBounds_toArray, List.set_cons_zero, List.set_cons_succ]
      clear hd8
      go_wp2
      go_roundw
      case rel => exact ⟨k + 1, by omega, by go_num, Ext.trans hE hE8⟩
      case measure => simp [intOf]; omega
    · clear hM hM'
      go_wp2
      go_ret
      exact ⟨rfl, hE⟩
theorem eqReaS_ (w : World) (A A' : Option Addr) (n c c' : Nat) (l : List Rea) (hn : l.length = n) (hM : Els w A 5 (kE kRea) l) (hM' : Els w A' 5 (kE kRea) l) (hl : (n : Int) + tot kRea l ≤ 1048577) :
    Calls Try.prog 30 #[.slice A n c, .slice A' n c'] w fun e w' => e = .returned (.bool true) ∧ Below w.heap.size w w' := by
  have hl' := Lib.hid hl
  have hl2 : n ≤ 1048577 := by have := tot_nonneg (K := kRea) l; omega
  clear hl
  subst hn
  go_enter Try.func30, Try.ntmps30
  go_wp2
  go_loopw [5] (fun i wr => ∃ k : Nat, k ≤ l.length ∧ i = .int .i64 k ∧ Ext w wr) (fun i _ => l.length - (intOf i).toNat)
  case atStart => exact ⟨0, Nat.zero_le _, rfl, Ext.refl _⟩
  case round =>
    obtain ⟨k, hk, rfl, hE⟩ := hrel
    by_cases hlt : k < l.length
    · obtain ⟨b, off, rfl, hb, hc⟩ := (els_up hM hE).at_ (List.ne_nil_of_length_pos (by omega))
      obtain ⟨b', off', rfl, hb', hc'⟩ := (els_up hM' hE).at_ (List.ne_nil_of_length_pos (by omega))
      obtain ⟨B, cB, hRB, k0, k1, k2, k3, k4⟩ := els_rea hc k hlt
      obtain ⟨B', cB', hRB', m0, m1, m2, m3, m4⟩ := els_rea hc' k hlt
      have h1 := tot_one_le (K := kRea) l k hlt
      rw [kRea_bd] at h1
      have hbl : l[k].body.length ≤ 1048576 := by have := hl'.out; omega
      have R1 := Lib.hid hRB
      have R2 := Lib.hid hRB'
      clear hc hM hc' hM' hRB hRB' h1
      go_wp2_with fail
      refine wp_region_chain 10 (by kernel_rfl) (by kernel_rfl) ?_
      simp only [List.take_succ_cons, List.take_zero, List.drop_succ_cons, List.drop_zero]
      repeat (apply Chain.quiet; · (intro vs wq hEq hd; obtain ⟨hcq, hfq⟩ := bcell hEq; clear hEq hd; (try simp only [Act.put, SP.pick, SP.is, SP.box, id_eq, List.take_succ_cons, List.take_zero, List.drop_succ_cons, List.drop_zero, List.setIfInBounds_toArray, List.set_cons_zero, List.set_cons_succ]); refine growOp_go ?_; go_simp; exact ⟨Ext.refl _, rfl⟩))
      apply Chain.quiet
      · intro vs wq hEq hd
        clear hd
        (try simp only [Act.put, SP.pick, SP.is, SP.box, id_eq, List.take_succ_cons, List.take_zero, List.drop_succ_cons, List.drop_zero, List.setIfInBounds_toArray, List.set_cons_zero, List.set_cons_succ])
        refine growOp_go ?_
        go_simp
        refine (eqRea_ _ _ _ _ _ _ _ _ _ _ l[k].body rfl (R1.out.ext hEq) (R2.out.ext hEq) hbl).mono ?_
        rintro e w7 ⟨rfl, hb7⟩
        first | exact ⟨rfl, hb7⟩ | exact ⟨_, rfl, hb7, rfl⟩
      repeat (apply Chain.quiet; · (intro vs wq hEq hd; obtain ⟨hcq, hfq⟩ := bcell hEq; clear hEq hd; (try simp only [Act.put, SP.pick, SP.is, SP.box, id_eq, List.take_succ_cons, List.take_zero, List.drop_succ_cons, List.drop_zero, List.setIfInBounds_toArray, List.set_cons_zero, List.set_cons_succ]); refine growOp_go ?_; go_simp; exact ⟨Ext.refl _, rfl⟩))
      refine Chain.done ?_
      intro vs w8 hE8 hd8
      simp only [Act.put, SP.pick, SP.is, SP.box, id_eq, List.take_succ_cons, List.take_zero, List.drop_succ_cons, List.drop_zero, List.setIfInBounds_toArray, List.set_cons_zero, List.set_cons_succ]
      clear hd8
      go_wp2
      go_roundw
      case rel => exact ⟨k + 1, by omega, by go_num, Ext.trans hE hE8⟩
      case measure => simp [intOf]; omega
    · clear hM hM'
      go_wp2
      go_ret
      exact ⟨rfl, hE⟩
end Go.Proofs.Ytcjppmihmfcagaa
