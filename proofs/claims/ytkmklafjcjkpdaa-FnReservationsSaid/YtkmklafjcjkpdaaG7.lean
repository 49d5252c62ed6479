/- Contracts of the functions on backoffs: validity. -/
import Derived.Test.YtkmklafjcjkpdaaG6
namespace Go.Proofs.Ytkmklafjcjkpdaa
open Go.RowKit
set_option linter.unusedVariables false
set_option linter.unusedSimpArgs false
/-- the window is one that comes after some number of failures -/
def fndK (a m x b wd : Int) (k : Nat) : Bool := (List.range k).any fun n => wafV a m x b n == wd
def fndB (a m x b wd : Int) : Bool := fndK a m x b wd 21
theorem fndK_succ (a m x b wd : Int) (k : Nat) : fndK a m x b wd (k + 1) = (fndK a m x b wd k || (wafV a m x b k == wd)) := by
  simp [fndK, List.range_succ]
theorem fndK_mono {a m x b wd : Int} {k n : Nat} (h : fndK a m x b wd k = true) (hk : k ≤ n) : fndK a m x b wd n = true := by
  simp only [fndK, List.any_eq_true, List.mem_range] at h ⊢
  obtain ⟨j, hj, hj2⟩ := h
  exact ⟨j, by omega, hj2⟩
def bkB (a m x b wd wt il rt dr : Int) : Bool :=
  parB a m x b && fndB a m x b wd && inB wt 0 wd && inB il 0 a && inB rt 0 7 && inB dr 0 1000000000000
theorem bkB_false {a m x b wd wt il rt dr : Int} (h : parB a m x b = false ∨ fndB a m x b wd = false ∨ inB wt 0 wd = false ∨ inB il 0 a = false ∨ inB rt 0 7 = false ∨ inB dr 0 1000000000000 = false) : bkB a m x b wd wt il rt dr = false := by
  unfold bkB
  rcases h with h | h | h | h | h | h <;> rw [h] <;> simp
theorem bkB_true {a m x b wd wt il rt dr : Int} (h : bkB a m x b wd wt il rt dr = true) : parB a m x b = true ∧ fndB a m x b wd = true ∧ inB wt 0 wd = true ∧ inB il 0 a = true ∧ inB rt 0 7 = true ∧ inB dr 0 1000000000000 = true := by
  simp only [bkB, Bool.and_eq_true] at h
  exact ⟨h.1.1.1.1.1, h.1.1.1.1.2, h.1.1.1.2, h.1.1.2, h.1.2, h.2⟩
/-- What the conditions of the first test come to, in the order of the text. -/
theorem sBkOk_no (a m x b wd wt il rt dr : Int) (h : parB a m x b = false ∨ inB wt 0 wd = false ∨ inB il 0 a = false ∨ inB rt 0 7 = false ∨ inB dr 0 1000000000000 = false) (w : World) :
    Calls Try.prog 16 #[.agg #[.int .i64 a, .int .i64 m, .int .i64 x, .int .i64 b, .int .i64 wd, .int .i64 wt, .int .i64 il, .int .i64 rt, .int .i64 dr]] w fun e w' => e = .returned (.bool false) ∧ Below w.heap.size w w' := by
  by_cases h1 : parB a m x b = true
  · by_cases h2 : inB wt 0 wd = true
    · by_cases h3 : inB il 0 a = true
      · by_cases h4 : inB rt 0 7 = true
        · have h5 : inB dr 0 1000000000000 = false := by simpa [h1, h2, h3, h4] using h
          clear h
          go_enter Try.func16, Try.ntmps16
          go_wp2_with fail
          refine (sPar _ _ _ _ _).mono ?_
          rintro e w1 ⟨rfl, hb1⟩
          obtain ⟨hc1, hf1⟩ := bcell (hb1)
          have hb0 : Below w.heap.size w w1 := Ext.trans (Ext.alloc_ _ _) hb1
          clear hb1
          go_wp2_with (go_at_call 92; refine (sIn _ _ _ _).mono ?_; rintro e w' ⟨rfl, rfl⟩)
          go_ret
          exact ⟨rfl, hb0⟩
        · have h4' : inB rt 0 7 = false := by simpa using h4
          clear h
          go_enter Try.func16, Try.ntmps16
          go_wp2_with fail
          refine (sPar _ _ _ _ _).mono ?_
          rintro e w1 ⟨rfl, hb1⟩
          obtain ⟨hc1, hf1⟩ := bcell (hb1)
          have hb0 : Below w.heap.size w w1 := Ext.trans (Ext.alloc_ _ _) hb1
          clear hb1
          go_wp2_with (go_at_call 92; refine (sIn _ _ _ _).mono ?_; rintro e w' ⟨rfl, rfl⟩)
          go_ret
          exact ⟨rfl, hb0⟩
      · have h3' : inB il 0 a = false := by simpa using h3
        clear h
        go_enter Try.func16, Try.ntmps16
        go_wp2_with fail
        refine (sPar _ _ _ _ _).mono ?_
        rintro e w1 ⟨rfl, hb1⟩
        obtain ⟨hc1, hf1⟩ := bcell (hb1)
        have hb0 : Below w.heap.size w w1 := Ext.trans (Ext.alloc_ _ _) hb1
        clear hb1
        go_wp2_with (go_at_call 92; refine (sIn _ _ _ _).mono ?_; rintro e w' ⟨rfl, rfl⟩)
        go_ret
        exact ⟨rfl, hb0⟩
    · have h2' : inB wt 0 wd = false := by simpa using h2
      clear h
      go_enter Try.func16, Try.ntmps16
      go_wp2_with fail
      refine (sPar _ _ _ _ _).mono ?_
      rintro e w1 ⟨rfl, hb1⟩
      obtain ⟨hc1, hf1⟩ := bcell (hb1)
      have hb0 : Below w.heap.size w w1 := Ext.trans (Ext.alloc_ _ _) hb1
      clear hb1
      go_wp2_with (go_at_call 92; refine (sIn _ _ _ _).mono ?_; rintro e w' ⟨rfl, rfl⟩)
      go_ret
      exact ⟨rfl, hb0⟩
  · have h1' : parB a m x b = false := by simpa using h1
    clear h
    go_enter Try.func16, Try.ntmps16
    go_wp2_with fail
    refine (sPar _ _ _ _ _).mono ?_
    rintro e w1 ⟨rfl, hb1⟩
    have hb0 : Below w.heap.size w w1 := Ext.trans (Ext.alloc_ _ _) hb1
    clear hb1
    go_wp2_with (go_at_call 92; refine (sIn _ _ _ _).mono ?_; rintro e w' ⟨rfl, rfl⟩)
    go_ret
    exact ⟨rfl, hb0⟩
set_option maxHeartbeats 800000 in
theorem sBkOk_yes (a m x b wd wt il rt dr : Int) (h1 : parB a m x b = true) (h2 : inB wt 0 wd = true) (h3 : inB il 0 a = true) (h4 : inB rt 0 7 = true) (h5 : inB dr 0 1000000000000 = true) (w : World) :
    Calls Try.prog 16 #[.agg #[.int .i64 a, .int .i64 m, .int .i64 x, .int .i64 b, .int .i64 wd, .int .i64 wt, .int .i64 il, .int .i64 rt, .int .i64 dr]] w fun e w' => e = .returned (.bool (fndB a m x b wd)) ∧ Below w.heap.size w w' := by
  go_enter Try.func16, Try.ntmps16
  go_wp2_with fail
  refine (sPar _ _ _ _ _).mono ?_
  rintro e w1 ⟨rfl, hb1⟩
  obtain ⟨hc1, hf1⟩ := bcell (hb1)
  go_wp2_with (go_at_call 92; refine (sIn _ _ _ _).mono ?_; rintro e w' ⟨rfl, rfl⟩)
  go_loopw [3] (fun i wr => ∃ k : Nat, k ≤ 21 ∧ i = .int .i64 k ∧ fndK a m x b wd k = false ∧ Ext w1 wr) (fun i _ => 21 - (intOf i).toNat)
  case atStart => exact ⟨0, Nat.zero_le _, rfl, rfl, Ext.refl _⟩
  case round =>
    obtain ⟨k, hk, rfl, hfd, hE⟩ := hrel
    have hE0 := Ext.trans hb1 hE
    obtain ⟨hc2, hf2⟩ := bcell hE0
    clear hc1 hf1 h1 h2 h3 h4 h5
    have hfd' := Lib.hid hfd
    clear hfd
    by_cases hlt : k < 21
    · by_cases heq : wafV a m x b k = wd
      · have hb : (wd == wafV a m x b k) = true := by simp [heq]
        have hfin : fndB a m x b wd = true := fndK_mono (k := k + 1) (by rw [fndK_succ]; simp [heq]) (by omega)
        have HF := Lib.hid hfin
        clear heq hfin
        go_wp2_with fail
        refine wp_region_chain 7 (by kernel_rfl) (by kernel_rfl) ?_
        simp only [List.take_succ_cons, List.take_zero, List.drop_succ_cons, List.drop_zero]
        (apply Chain.quiet; · (intro vs w1 hE hd; obtain ⟨hc, hf⟩ := bcell (Ext.trans hE0 hE); clear hE hd; (try simp only [Act.put, SP.pick, SP.is, SP.box, id_eq, List.take_succ_cons, List.take_zero, List.drop_succ_cons, List.drop_zero, List.setIfInBounds_toArray, List.set_cons_zero, List.set_cons_succ]); refine growOp_go ?_; go_simp; exact ⟨Ext.refl _, rfl⟩))
        (apply Chain.quiet; · (intro vs w1 hE hd; obtain ⟨hc, hf⟩ := bcell (Ext.trans hE0 hE); clear hE hd; (try simp only [Act.put, SP.pick, SP.is, SP.box, id_eq, List.take_succ_cons, List.take_zero, List.drop_succ_cons, List.drop_zero, List.setIfInBounds_toArray, List.set_cons_zero, List.set_cons_succ]); refine growOp_go ?_; go_simp; exact ⟨Ext.refl _, rfl⟩))
        (apply Chain.quiet; · (intro vs w1 hE hd; obtain ⟨hc, hf⟩ := bcell (Ext.trans hE0 hE); clear hE hd; (try simp only [Act.put, SP.pick, SP.is, SP.box, id_eq, List.take_succ_cons, List.take_zero, List.drop_succ_cons, List.drop_zero, List.setIfInBounds_toArray, List.set_cons_zero, List.set_cons_succ]); refine growOp_go ?_; go_simp; exact ⟨Ext.refl _, rfl⟩))
        (apply Chain.quiet; · (intro vs w1 hE hd; obtain ⟨hc, hf⟩ := bcell (Ext.trans hE0 hE); clear hE hd; (try simp only [Act.put, SP.pick, SP.is, SP.box, id_eq, List.take_succ_cons, List.take_zero, List.drop_succ_cons, List.drop_zero, List.setIfInBounds_toArray, List.set_cons_zero, List.set_cons_succ]); refine growOp_go ?_; go_simp; exact ⟨Ext.refl _, rfl⟩))
        (apply Chain.quiet; · (intro vs w1 hE hd; obtain ⟨hc, hf⟩ := bcell (Ext.trans hE0 hE); clear hE hd; (try simp only [Act.put, SP.pick, SP.is, SP.box, id_eq, List.take_succ_cons, List.take_zero, List.drop_succ_cons, List.drop_zero, List.setIfInBounds_toArray, List.set_cons_zero, List.set_cons_succ]); refine growOp_go ?_; go_simp; exact ⟨Ext.refl _, rfl⟩))
        (apply Chain.quiet; · (intro vs w1 hE hd; obtain ⟨hc, hf⟩ := bcell (Ext.trans hE0 hE); clear hE hd; (try simp only [Act.put, SP.pick, SP.is, SP.box, id_eq, List.take_succ_cons, List.take_zero, List.drop_succ_cons, List.drop_zero, List.setIfInBounds_toArray, List.set_cons_zero, List.set_cons_succ]); refine growOp_go ?_; go_simp; refine (sWaf _ _ _ _ _ _).mono ?_; rintro e w2 ⟨rfl, hb⟩; first | exact ⟨rfl, hb⟩ | exact ⟨_, rfl, hb, rfl⟩))
        (apply Chain.quiet; · (intro vs w1 hE hd; obtain ⟨hc, hf⟩ := bcell (Ext.trans hE0 hE); clear hE hd; (try simp only [Act.put, SP.pick, SP.is, SP.box, id_eq, List.take_succ_cons, List.take_zero, List.drop_succ_cons, List.drop_zero, List.setIfInBounds_toArray, List.set_cons_zero, List.set_cons_succ]); refine growOp_go ?_; go_simp; exact ⟨Ext.refl _, rfl⟩))
        refine Chain.done ?_
        intro vs w3 hE3 hd3
        simp only [Act.put, SP.pick, SP.is, SP.box, id_eq, List.take_succ_cons, List.take_zero, List.drop_succ_cons, List.drop_zero, List.setIfInBounds_toArray, List.set_cons_zero, List.set_cons_succ]
        go_wp2_with fail
        go_ret
        exact ⟨by rw [HF.out]; rfl, Ext.trans (Ext.trans (Ext.alloc_ _ _) hE0) hE3⟩
      · have hb : (wd == wafV a m x b k) = false := by simp; omega
        have hn : fndK a m x b wd (k + 1) = false := by rw [fndK_succ, hfd'.out]; simp [heq]
        have hn' := Lib.hid hn
        clear heq hn
        go_wp2_with fail
        refine wp_region_chain 7 (by kernel_rfl) (by kernel_rfl) ?_
        simp only [List.take_succ_cons, List.take_zero, List.drop_succ_cons, List.drop_zero]
        (apply Chain.quiet; · (intro vs w1 hE hd; obtain ⟨hc, hf⟩ := bcell (Ext.trans hE0 hE); clear hE hd; (try simp only [Act.put, SP.pick, SP.is, SP.box, id_eq, List.take_succ_cons, List.take_zero, List.drop_succ_cons, List.drop_zero, List.setIfInBounds_toArray, List.set_cons_zero, List.set_cons_succ]); refine growOp_go ?_; go_simp; exact ⟨Ext.refl _, rfl⟩))
        (apply Chain.quiet; · (intro vs w1 hE hd; obtain ⟨hc, hf⟩ := bcell (Ext.trans hE0 hE); clear hE hd; (try simp only [Act.put, SP.pick, SP.is, SP.box, id_eq, List.take_succ_cons, List.take_zero, List.drop_succ_cons, List.drop_zero, List.setIfInBounds_toArray, List.set_cons_zero, List.set_cons_succ]); refine growOp_go ?_; go_simp; exact ⟨Ext.refl _, rfl⟩))
        (apply Chain.quiet; · (intro vs w1 hE hd; obtain ⟨hc, hf⟩ := bcell (Ext.trans hE0 hE); clear hE hd; (try simp only [Act.put, SP.pick, SP.is, SP.box, id_eq, List.take_succ_cons, List.take_zero, List.drop_succ_cons, List.drop_zero, List.setIfInBounds_toArray, List.set_cons_zero, List.set_cons_succ]); refine growOp_go ?_; go_simp; exact ⟨Ext.refl _, rfl⟩))
        (apply Chain.quiet; · (intro vs w1 hE hd; obtain ⟨hc, hf⟩ := bcell (Ext.trans hE0 hE); clear hE hd; (try simp only [Act.put, SP.pick, SP.is, SP.box, id_eq, List.take_succ_cons, List.take_zero, List.drop_succ_cons, List.drop_zero, List.setIfInBounds_toArray, List.set_cons_zero, List.set_cons_succ]); refine growOp_go ?_; go_simp; exact ⟨Ext.refl _, rfl⟩))
        (apply Chain.quiet; · (intro vs w1 hE hd; obtain ⟨hc, hf⟩ := bcell (Ext.trans hE0 hE); clear hE hd; (try simp only [Act.put, SP.pick, SP.is, SP.box, id_eq, List.take_succ_cons, List.take_zero, List.drop_succ_cons, List.drop_zero, List.setIfInBounds_toArray, List.set_cons_zero, List.set_cons_succ]); refine growOp_go ?_; go_simp; exact ⟨Ext.refl _, rfl⟩))
        (apply Chain.quiet; · (intro vs w1 hE hd; obtain ⟨hc, hf⟩ := bcell (Ext.trans hE0 hE); clear hE hd; (try simp only [Act.put, SP.pick, SP.is, SP.box, id_eq, List.take_succ_cons, List.take_zero, List.drop_succ_cons, List.drop_zero, List.setIfInBounds_toArray, List.set_cons_zero, List.set_cons_succ]); refine growOp_go ?_; go_simp; refine (sWaf _ _ _ _ _ _).mono ?_; rintro e w2 ⟨rfl, hb⟩; first | exact ⟨rfl, hb⟩ | exact ⟨_, rfl, hb, rfl⟩))
        (apply Chain.quiet; · (intro vs w1 hE hd; obtain ⟨hc, hf⟩ := bcell (Ext.trans hE0 hE); clear hE hd; (try simp only [Act.put, SP.pick, SP.is, SP.box, id_eq, List.take_succ_cons, List.take_zero, List.drop_succ_cons, List.drop_zero, List.setIfInBounds_toArray, List.set_cons_zero, List.set_cons_succ]); refine growOp_go ?_; go_simp; exact ⟨Ext.refl _, rfl⟩))
        refine Chain.done ?_
        intro vs w3 hE3 hd3
        simp only [Act.put, SP.pick, SP.is, SP.box, id_eq, List.take_succ_cons, List.take_zero, List.drop_succ_cons, List.drop_zero, List.setIfInBounds_toArray, List.set_cons_zero, List.set_cons_succ]
        go_wp2_with fail
        go_roundw
        case rel => exact ⟨k + 1, by omega, by go_num, hn'.out, Ext.trans hE hE3⟩
        case measure => simp [intOf]; omega
    · obtain rfl : k = 21 := by omega
      go_wp2
      go_ret
      exact ⟨by rw [show fndB a m x b wd = false from hfd'.out]; rfl, Ext.trans (Ext.alloc_ _ _) hE0⟩
theorem iBkOk_no (a m x b wd wt il rt dr : Int) (h : parB a m x b = false) (w : World) :
    Calls Try.prog 19 #[.agg #[.int .i64 a, .int .i64 m, .int .i64 x, .int .i64 b, .int .i64 wd, .int .i64 wt, .int .i64 il, .int .i64 rt, .int .i64 dr]] w fun e w' => e = .returned (.bool false) ∧ Below w.heap.size w w' := by
  go_enter Try.func19, Try.ntmps19
  go_wp2_with fail
  refine (iPar _ _ _ _ _).mono ?_
  rintro e w1 ⟨rfl, hb1⟩
  have hb0 : Below w.heap.size w w1 := Ext.trans (Ext.alloc_ _ _) hb1
  clear hb1
  go_wp2_with fail
  go_ret
  exact ⟨rfl, hb0⟩
/-- The loop of the program's text: 'found' tells whether one of the first numbers fits. -/
def LoopBk (a m x b wd : Int) (w1 : World) (f i : Value) (wr : World) : Prop :=
  ∃ k : Nat, k ≤ 21 ∧ i = .int .i64 k ∧ f = .bool (fndK a m x b wd k) ∧ Ext w1 wr
set_option maxHeartbeats 1600000 in
theorem iBkOk_yes (a m x b wd wt il rt dr : Int) (h : parB a m x b = true) (w : World) :
    Calls Try.prog 19 #[.agg #[.int .i64 a, .int .i64 m, .int .i64 x, .int .i64 b, .int .i64 wd, .int .i64 wt, .int .i64 il, .int .i64 rt, .int .i64 dr]] w fun e w' => e = .returned (.bool (fndB a m x b wd && inB wt 0 wd && inB il 0 a && inB rt 0 7 && inB dr 0 1000000000000)) ∧ Below w.heap.size w w' := by
  go_enter Try.func19, Try.ntmps19
  go_wp2_with fail
  refine (iPar _ _ _ _ _).mono ?_
  rintro e w1 ⟨rfl, hb1⟩
  obtain ⟨hc1, hf1⟩ := bcell (hb1)
  go_wp2_with fail
  go_loopw [3, 4] (fun f i wr => LoopBk a m x b wd w1 f i wr) (fun _ i _ => 21 - (intOf i).toNat)
  case atStart => exact ⟨0, Nat.zero_le _, rfl, rfl, Ext.refl _⟩
  case round =>
    obtain ⟨k, hk, rfl, rfl, hE⟩ := hrel
    have hE0 := Ext.trans hb1 hE
    obtain ⟨hc2, hf2⟩ := bcell hE0
    clear hc1 hf1 h
    by_cases hlt : k < 21
    · by_cases heq : wafV a m x b k = wd
      · have hb : (wafV a m x b k == wd) = true := by simp [heq]
        have hn := Lib.hid (show fndK a m x b wd (k + 1) = true by rw [fndK_succ]; simp [heq])
        clear heq
        go_wp2_with fail
        refine wp_region_chain 7 (by kernel_rfl) (by kernel_rfl) ?_
        simp only [List.take_succ_cons, List.take_zero, List.drop_succ_cons, List.drop_zero]
        (apply Chain.quiet; · (intro vs w1 hE hd; obtain ⟨hc, hf⟩ := bcell (Ext.trans hE0 hE); clear hE hd; (try simp only [Act.put, SP.pick, SP.is, SP.box, id_eq, List.take_succ_cons, List.take_zero, List.drop_succ_cons, List.drop_zero, List.setIfInBounds_toArray, List.set_cons_zero, List.set_cons_succ]); refine growOp_go ?_; go_simp; exact ⟨Ext.refl _, rfl⟩))
        (apply Chain.quiet; · (intro vs w1 hE hd; obtain ⟨hc, hf⟩ := bcell (Ext.trans hE0 hE); clear hE hd; (try simp only [Act.put, SP.pick, SP.is, SP.box, id_eq, List.take_succ_cons, List.take_zero, List.drop_succ_cons, List.drop_zero, List.setIfInBounds_toArray, List.set_cons_zero, List.set_cons_succ]); refine growOp_go ?_; go_simp; exact ⟨Ext.refl _, rfl⟩))
        (apply Chain.quiet; · (intro vs w1 hE hd; obtain ⟨hc, hf⟩ := bcell (Ext.trans hE0 hE); clear hE hd; (try simp only [Act.put, SP.pick, SP.is, SP.box, id_eq, List.take_succ_cons, List.take_zero, List.drop_succ_cons, List.drop_zero, List.setIfInBounds_toArray, List.set_cons_zero, List.set_cons_succ]); refine growOp_go ?_; go_simp; exact ⟨Ext.refl _, rfl⟩))
        (apply Chain.quiet; · (intro vs w1 hE hd; obtain ⟨hc, hf⟩ := bcell (Ext.trans hE0 hE); clear hE hd; (try simp only [Act.put, SP.pick, SP.is, SP.box, id_eq, List.take_succ_cons, List.take_zero, List.drop_succ_cons, List.drop_zero, List.setIfInBounds_toArray, List.set_cons_zero, List.set_cons_succ]); refine growOp_go ?_; go_simp; refine (iWaf _ _ _ _ _ _).mono ?_; rintro e w2 ⟨rfl, hb⟩; first | exact ⟨rfl, hb⟩ | exact ⟨_, rfl, hb, rfl⟩))
        (apply Chain.quiet; · (intro vs w1 hE hd; obtain ⟨hc, hf⟩ := bcell (Ext.trans hE0 hE); clear hE hd; (try simp only [Act.put, SP.pick, SP.is, SP.box, id_eq, List.take_succ_cons, List.take_zero, List.drop_succ_cons, List.drop_zero, List.setIfInBounds_toArray, List.set_cons_zero, List.set_cons_succ]); refine growOp_go ?_; go_simp; exact ⟨Ext.refl _, rfl⟩))
        (apply Chain.quiet; · (intro vs w1 hE hd; obtain ⟨hc, hf⟩ := bcell (Ext.trans hE0 hE); clear hE hd; (try simp only [Act.put, SP.pick, SP.is, SP.box, id_eq, List.take_succ_cons, List.take_zero, List.drop_succ_cons, List.drop_zero, List.setIfInBounds_toArray, List.set_cons_zero, List.set_cons_succ]); refine growOp_go ?_; go_simp; exact ⟨Ext.refl _, rfl⟩))
        (apply Chain.quiet; · (intro vs w1 hE hd; obtain ⟨hc, hf⟩ := bcell (Ext.trans hE0 hE); clear hE hd; (try simp only [Act.put, SP.pick, SP.is, SP.box, id_eq, List.take_succ_cons, List.take_zero, List.drop_succ_cons, List.drop_zero, List.setIfInBounds_toArray, List.set_cons_zero, List.set_cons_succ]); refine growOp_go ?_; go_simp; exact ⟨Ext.refl _, rfl⟩))
        refine Chain.done ?_
        intro vs w3 hE3 hd3
        simp only [Act.put, SP.pick, SP.is, SP.box, id_eq, List.take_succ_cons, List.take_zero, List.drop_succ_cons, List.drop_zero, List.setIfInBounds_toArray, List.set_cons_zero, List.set_cons_succ]
        go_wp2_with fail
        go_roundw
        case rel => exact ⟨k + 1, by omega, by go_num, by rw [hn.out], Ext.trans hE hE3⟩
        case measure => simp [intOf]; omega
      · have hb : (wafV a m x b k == wd) = false := by simp [heq]
        have hn := Lib.hid (show fndK a m x b wd (k + 1) = fndK a m x b wd k by rw [fndK_succ]; simp [heq])
        clear heq
        generalize fndK a m x b wd k = fk at *
        go_wp2_with fail
        refine wp_region_chain 7 (by kernel_rfl) (by kernel_rfl) ?_
        simp only [List.take_succ_cons, List.take_zero, List.drop_succ_cons, List.drop_zero]
        (apply Chain.quiet; · (intro vs w1 hE hd; obtain ⟨hc, hf⟩ := bcell (Ext.trans hE0 hE); clear hE hd; (try simp only [Act.put, SP.pick, SP.is, SP.box, id_eq, List.take_succ_cons, List.take_zero, List.drop_succ_cons, List.drop_zero, List.setIfInBounds_toArray, List.set_cons_zero, List.set_cons_succ]); refine growOp_go ?_; go_simp; exact ⟨Ext.refl _, rfl⟩))
        (apply Chain.quiet; · (intro vs w1 hE hd; obtain ⟨hc, hf⟩ := bcell (Ext.trans hE0 hE); clear hE hd; (try simp only [Act.put, SP.pick, SP.is, SP.box, id_eq, List.take_succ_cons, List.take_zero, List.drop_succ_cons, List.drop_zero, List.setIfInBounds_toArray, List.set_cons_zero, List.set_cons_succ]); refine growOp_go ?_; go_simp; exact ⟨Ext.refl _, rfl⟩))
        (apply Chain.quiet; · (intro vs w1 hE hd; obtain ⟨hc, hf⟩ := bcell (Ext.trans hE0 hE); clear hE hd; (try simp only [Act.put, SP.pick, SP.is, SP.box, id_eq, List.take_succ_cons, List.take_zero, List.drop_succ_cons, List.drop_zero, List.setIfInBounds_toArray, List.set_cons_zero, List.set_cons_succ]); refine growOp_go ?_; go_simp; exact ⟨Ext.refl _, rfl⟩))
        (apply Chain.quiet; · (intro vs w1 hE hd; obtain ⟨hc, hf⟩ := bcell (Ext.trans hE0 hE); clear hE hd; (try simp only [Act.put, SP.pick, SP.is, SP.box, id_eq, List.take_succ_cons, List.take_zero, List.drop_succ_cons, List.drop_zero, List.setIfInBounds_toArray, List.set_cons_zero, List.set_cons_succ]); refine growOp_go ?_; go_simp; refine (iWaf _ _ _ _ _ _).mono ?_; rintro e w2 ⟨rfl, hb⟩; first | exact ⟨rfl, hb⟩ | exact ⟨_, rfl, hb, rfl⟩))
        (apply Chain.quiet; · (intro vs w1 hE hd; obtain ⟨hc, hf⟩ := bcell (Ext.trans hE0 hE); clear hE hd; (try simp only [Act.put, SP.pick, SP.is, SP.box, id_eq, List.take_succ_cons, List.take_zero, List.drop_succ_cons, List.drop_zero, List.setIfInBounds_toArray, List.set_cons_zero, List.set_cons_succ]); refine growOp_go ?_; go_simp; exact ⟨Ext.refl _, rfl⟩))
        (apply Chain.quiet; · (intro vs w1 hE hd; obtain ⟨hc, hf⟩ := bcell (Ext.trans hE0 hE); clear hE hd; (try simp only [Act.put, SP.pick, SP.is, SP.box, id_eq, List.take_succ_cons, List.take_zero, List.drop_succ_cons, List.drop_zero, List.setIfInBounds_toArray, List.set_cons_zero, List.set_cons_succ]); refine growOp_go ?_; go_simp; exact ⟨Ext.refl _, rfl⟩))
        (apply Chain.quiet; · (intro vs w1 hE hd; obtain ⟨hc, hf⟩ := bcell (Ext.trans hE0 hE); clear hE hd; (try simp only [Act.put, SP.pick, SP.is, SP.box, id_eq, List.take_succ_cons, List.take_zero, List.drop_succ_cons, List.drop_zero, List.setIfInBounds_toArray, List.set_cons_zero, List.set_cons_succ]); refine growOp_go ?_; go_simp; exact ⟨Ext.refl _, rfl⟩))
        refine Chain.done ?_
        intro vs w3 hE3 hd3
        simp only [Act.put, SP.pick, SP.is, SP.box, id_eq, List.take_succ_cons, List.take_zero, List.drop_succ_cons, List.drop_zero, List.setIfInBounds_toArray, List.set_cons_zero, List.set_cons_succ]
        go_wp2_with fail
        go_roundw
        case rel => exact ⟨k + 1, by omega, by go_num, by rw [hn.out], Ext.trans hE hE3⟩
        case measure => simp [intOf]; omega
    · obtain rfl : k = 21 := by omega
      rw [show fndK a m x b wd 21 = fndB a m x b wd from rfl]
      have hb0 := Ext.trans (Ext.alloc_ _ _) hE0
      clear hE hE0 hb1
      by_cases g1 : fndB a m x b wd = true
      · by_cases g2 : inB wt 0 wd = true
        · by_cases g3 : inB il 0 a = true
          · by_cases g4 : inB rt 0 7 = true
            · go_wp2_with (go_at_call 94; refine (iIn _ _ _ _).mono ?_; rintro e w' ⟨rfl, rfl⟩)
              go_ret
              exact ⟨by simp [g1, g2, g3, g4], hb0⟩
            · have g4' : inB rt 0 7 = false := by simpa using g4
              go_wp2_with (go_at_call 94; refine (iIn _ _ _ _).mono ?_; rintro e w' ⟨rfl, rfl⟩)
              go_ret
              exact ⟨by simp [g1, g2, g3, g4'], hb0⟩
          · have g3' : inB il 0 a = false := by simpa using g3
            go_wp2_with (go_at_call 94; refine (iIn _ _ _ _).mono ?_; rintro e w' ⟨rfl, rfl⟩)
            go_ret
            exact ⟨by simp [g1, g2, g3'], hb0⟩
        · have g2' : inB wt 0 wd = false := by simpa using g2
          go_wp2_with (go_at_call 94; refine (iIn _ _ _ _).mono ?_; rintro e w' ⟨rfl, rfl⟩)
          go_ret
          exact ⟨by simp [g1, g2'], hb0⟩
      · have g1' : fndB a m x b wd = false := by simpa using g1
        go_wp2_with (go_at_call 94; refine (iIn _ _ _ _).mono ?_; rintro e w' ⟨rfl, rfl⟩)
        go_ret
        exact ⟨by simp [g1'], hb0⟩
theorem iBkOk (a m x b wd wt il rt dr : Int) (w : World) : Calls Try.prog 19 #[.agg #[.int .i64 a, .int .i64 m, .int .i64 x, .int .i64 b, .int .i64 wd, .int .i64 wt, .int .i64 il, .int .i64 rt, .int .i64 dr]] w fun e w' => e = .returned (.bool (bkB a m x b wd wt il rt dr)) ∧ Below w.heap.size w w' := by
  by_cases h : parB a m x b = true
  · refine (iBkOk_yes a m x b wd wt il rt dr h w).mono ?_
    rintro e w' ⟨rfl, hb⟩
    exact ⟨by simp [bkB, h], hb⟩
  · have h' : parB a m x b = false := by simpa using h
    rw [bkB_false (.inl h')]
    exact iBkOk_no a m x b wd wt il rt dr h' w
theorem sBkOk (a m x b wd wt il rt dr : Int) (w : World) : Calls Try.prog 16 #[.agg #[.int .i64 a, .int .i64 m, .int .i64 x, .int .i64 b, .int .i64 wd, .int .i64 wt, .int .i64 il, .int .i64 rt, .int .i64 dr]] w fun e w' => e = .returned (.bool (bkB a m x b wd wt il rt dr)) ∧ Below w.heap.size w w' := by
  by_cases h : parB a m x b = true ∧ inB wt 0 wd = true ∧ inB il 0 a = true ∧ inB rt 0 7 = true ∧ inB dr 0 1000000000000 = true
  · obtain ⟨h1, h2, h3, h4, h5⟩ := h
    refine (sBkOk_yes a m x b wd wt il rt dr h1 h2 h3 h4 h5 w).mono ?_
    rintro e w' ⟨rfl, hb⟩
    exact ⟨by simp [bkB, h1, h2, h3, h4, h5], hb⟩
  · have h' : parB a m x b = false ∨ inB wt 0 wd = false ∨ inB il 0 a = false ∨ inB rt 0 7 = false ∨ inB dr 0 1000000000000 = false := by
      revert h
      cases parB a m x b <;> cases inB wt 0 wd <;> cases inB il 0 a <;> cases inB rt 0 7 <;> cases inB dr 0 1000000000000 <;> simp
    rw [bkB_false (by rcases h' with h | h | h | h | h <;> simp [h])]
    exact sBkOk_no a m x b wd wt il rt dr h' w
end Go.Proofs.Ytkmklafjcjkpdaa
