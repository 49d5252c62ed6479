/- A reassembly begun: append onto an empty row as a growing step; both sides. -/
import Derived.Test.YtkmklafjcjkpdaaCpy
namespace Go.Proofs.Ytkmklafjcjkpdaa
open Go.RowKit
set_option linter.unusedVariables false
set_option linter.unusedSimpArgs false

/-- append of bytes onto an empty row without room: the world only grows. -/
theorem run_app0 {P : Program} {w : World} {t ty e : TypeId} {bytes : Nat} (hT : ElemTy P t e 1 bytes) (g : Nat) (hg : w.heap[g]? = some (.cells #[] e (0, 0))) (A : Option Addr) (m c : Nat) (l : List Int) (hr : RB w A c l) (hm : l.length = m) (hl : m ≤ 1073741824) (hby : bytes ≤ 100) (B : Nat) (hB : B ≤ g) :
    ∃ v' w', (Builtin.append_ #[t, t] ty #[.slice (some ⟨g, 0, none⟩) 0 0, .slice A m c]).run P w = .ok v' w' ∧ Ext w w' ∧ ∃ g' A' c', v' = .slice A' m c' ∧ NewB w' B g' A' c' l := by
  subst hm
  obtain ⟨ht, ⟨i, z, hi, hz, hsize, hbyt, hzs⟩, hsz⟩ := hT
  have hown : w.ownsRow B e 1 (.slice (some ⟨g, 0, none⟩) 0 0) 0 [] := ⟨by simp, .inr ⟨g, 0, #[], rfl, hB, hg, Nat.le_refl _, by unfold maxLen; omega, by simp, by simp⟩⟩
  have hlt := heap_lt hg
  have hself : NewB w B g (some ⟨g, 0, none⟩) 0 [] := ⟨fun h => by simp at h, Nat.le_refl _, hB, .inl rfl⟩
  rcases A with _ | ad
  · have h0 : l = [] := by
      rcases hr.1 with h | ⟨b, off, h, _⟩
      · simpa using h
      · cases h
    subst h0
    have hc0 := hr.2.1 rfl
    subst hc0
    exact ⟨_, _, run_append_owned_none (P := P) w B t ty e i 1 ht hi _ 0 [] hown, Ext.refl _, g, _, _, rfl, hself⟩
  · by_cases hm : l.length = 0
    · have h0 : l = [] := List.eq_nil_of_length_eq_zero hm
      subst h0
      have hrun := run_append_room (P := P) w t ty e i ht hi g 0 0 #[] hg ad 0 c [] (by simp) (fun j u h => by simp at h) (fun u h => by simp at h) (Nat.le_refl _) (by simp)
      have hs := setRow_self w g #[] e (0, 0) hg
      refine ⟨_, _, hrun, ?_, g, _, _, rfl, ?_⟩
      · simp [hs]; exact Ext.refl _
      · simp [hs]; exact hself
    · have hC : ∀ j v, (l.map (Value.int .u8))[j]? = some v → w.cell? (ad.add j) = some v := by
        intro j v hj
        rcases hr.1 with h | ⟨b, off, h, _, h3⟩
        · rw [h] at hj; simp at hj
        · injection h with h
          subst h
          rw [add_zero_addr]
          exact h3 j v hj
      have hrun := run_append_grow (P := P) w t ty e i z ht hi hz ⟨g, 0, none⟩ 0 0 [] (by simp) (fun j v h => by simp at h) ad l.length c (l.map (Value.int .u8)) (by rw [hsize]; simp) hC (by omega) (by omega) (growslice_fits (by omega) (by
        rw [hbyt, Nat.zero_add]
        calc l.length * bytes ≤ 1073741824 * 100 := Nat.mul_le_mul hl hby
          _ ≤ 140737488355328 := by omega))
      rw [Nat.zero_add] at hrun
      have hge := grownCap_ge w l.length 0 e
      refine ⟨_, _, hrun, ?_, w.heap.size, _, _, rfl, fun h => by simp at h, by omega, by omega, .inr ⟨rfl, ?_, _, e, heap_alloc_new w.drew _, ?_⟩⟩
      · exact Ext.trans (Ext.drew (Ext.refl _)) (Ext.alloc_ _ _)
      · simp
      · intro j u hu
        have hj : j < l.length := by
          rcases Nat.lt_or_ge j l.length with h | h
          · exact h
          · rw [List.getElem?_eq_none h] at hu
            cases hu
        rw [Array.getElem?_append_left (by simpa using hj)]
        simp [hu]
theorem grow_app0 {P : Program} {ops : Array Oper} {o : Oper} {a : Act} {w : World} {T : Value → World → Prop} (s x : Operand) {t e : TypeId} {bytes : Nat} (hT : ElemTy P t e 1 bytes) (hgd : o.guard = none)
    (ho : o.op = .call { callee := .builtin .append, args := #[s, x], argTypes := #[t, t] }) (g : Nat) (hs : a.eval s = .slice (some ⟨g, 0, none⟩) 0 0) (hg : w.heap[g]? = some (.cells #[] e (0, 0))) (A : Option Addr) (m c : Nat) (l : List Int) (hx : a.eval x = .slice A m c) (hr : RB w A c l) (hm : l.length = m) (hl : m ≤ 1073741824) (hby : bytes ≤ 100) (B : Nat) (hB : B ≤ g)
    (h : ∀ v' w', (∃ g' A' c', v' = .slice A' m c' ∧ NewB w' B g' A' c' l) → T v' w') : growOp P ops o a w T := by
  obtain ⟨v', w', hrun, hE, hN⟩ := run_app0 (P := P) (ty := o.type) hT g hg A m c l hr hm hl hby B hB
  refine growOp_go ?_
  have hw : Region.wanted o (yielded ops a.tmps) = true := by simp [Region.wanted, hgd]
  rw [if_pos hw]
  have : (execOp a.eval o).run P w = .ok (.value v') w' := by
    simp only [execOp, ho, resolve, invoke, builtin, Sem.run_bind, Sem.run_pure, Result.andThen_ok, List.map_toArray, List.map_cons, List.map_nil, hs, hx, hrun]
  rw [this]
  exact ⟨hE, h v' w' hN⟩
/-- Bytes in a block of their own; an empty row. -/
def SP.newB (B : Nat) (l : List Int) : SP :=
  { p := fun v w => ∃ g A c, v = .slice A l.length c ∧ NewB w B g A c l
    st := fun v w w' hE ⟨g, A, c, h1, h2⟩ => ⟨g, A, c, h1, h2.ext hE⟩ }
def SP.emp (B : Nat) (e : TypeId) : SP :=
  { p := fun v w => ∃ g, v = .slice (some ⟨g, 0, none⟩) 0 0 ∧ B ≤ g ∧ w.heap[g]? = some (.cells #[] e (0, 0))
    st := fun v w w' hE ⟨g, h1, h2, h3⟩ => ⟨g, h1, h2, ext_blk hE h3⟩ }
/-- A reassembly with such a body. -/
def SP.reaB (B : Nat) (f s n t : Int) (l : List Int) : SP :=
  { p := fun v w => ∃ g A c, v = .agg #[.int .i64 f, .int .i64 s, .int .i64 n, .slice A l.length c, .int .i64 t] ∧ NewB w B g A c l
    st := fun v w w' hE ⟨g, A, c, h1, h2⟩ => ⟨g, A, c, h1, h2.ext hE⟩ }
theorem iStart (w : World) (kd fm to sq fr : Int) (mo re : Bool) (du : Int) (A : Option Addr) (n c : Nat) (now : Int) (l : List Int) (hn : l.length = n) (hr : RB w A c l) (hl : n ≤ 1073741824) :
    Calls Try.prog 89 #[.agg #[.int .i64 kd, .int .i64 fm, .int .i64 to, .int .i64 sq, .int .i64 fr, .bool mo, .bool re, .int .i64 du, .slice A n c], .int .i64 now] w fun e w' => ∃ g A' c', e = .returned (.agg #[.int .i64 fm, .int .i64 sq, .int .i64 1, .slice A' n c', .int .i64 now]) ∧ Ext w w' ∧ NewB w' w.heap.size g A' c' l := by
  have hR := Lib.hid (hr.ext (Ext.trans (Ext.alloc_ w (.cells #[.int .i64 kd, .int .i64 fm, .int .i64 to, .int .i64 sq, .int .i64 fr, .bool mo, .bool re, .int .i64 du, .slice A n c] 66)) (Ext.alloc_ _ (.cells #[.int .i64 0, .int .i64 0, .int .i64 0, .slice none 0 0, .int .i64 0] 114))))
  subst hn
  clear hr
  go_enter Try.func89, Try.ntmps89
  go_wp2_with fail
  refine wp_region_chain 9 (by kernel_rfl) (by kernel_rfl) ?_
  simp only [List.take_succ_cons, List.take_zero, List.drop_succ_cons, List.drop_zero]
  repeat (apply Chain.quiet; · (intro vs wq hEq hd; obtain ⟨hcq, hfq⟩ := bcell hEq; clear hEq hd; (try simp only [Act.put, SP.pick, SP.is, SP.box, id_eq, List.take_succ_cons, List.take_zero, List.drop_succ_cons, List.drop_zero, List.setIfInBounds_toArray, List.set_cons_zero, List.set_cons_succ]); refine growOp_go ?_; go_simp; exact ⟨Ext.refl _, rfl⟩))
  refine Chain.sp (SP.newB (w.heap.size + 1 + 1) l) ?_ ?_
  · intro vs wq hEq hd
    clear hd
    (try simp only [Act.put, SP.pick, SP.is, SP.box, id_eq, List.take_succ_cons, List.take_zero, List.drop_succ_cons, List.drop_zero, List.setIfInBounds_toArray, List.set_cons_zero, List.set_cons_succ])
    refine growOp_go ?_
    go_simp
    refine (iCopyB _ _ _ _ l rfl (hR.out.ext hEq) (by omega)).mono ?_
    rintro e w6 ⟨g6, A6, c6, rfl, hE6, hN6⟩
    exact ⟨_, rfl, hE6, g6, A6, c6, rfl, hN6.mono (by have := hEq.size; simpa using this)⟩
  repeat (apply Chain.quiet; · (intro vs wq hEq hd; obtain ⟨hcq, hfq⟩ := bcell hEq; clear hEq hd; (try simp only [Act.put, SP.pick, SP.is, SP.box, id_eq, List.take_succ_cons, List.take_zero, List.drop_succ_cons, List.drop_zero, List.setIfInBounds_toArray, List.set_cons_zero, List.set_cons_succ]); refine growOp_go ?_; go_simp; exact ⟨Ext.refl _, rfl⟩))
  refine Chain.sp (SP.reaB (w.heap.size + 1 + 1) fm sq 1 now l) ?_ ?_
  · intro vs wq hEq hd
    obtain ⟨g7, A7, c7, e7, hN7⟩ := hd 6 (by kernel_rfl)
    have N7 := Lib.hid hN7
    clear hd hN7
    simp only [Act.put, SP.pick, SP.is, SP.box, id_eq, List.take_succ_cons, List.take_zero, List.drop_succ_cons, List.drop_zero, List.setIfInBounds_toArray, List.set_cons_zero, List.set_cons_succ]
    rw [e7]
    refine growOp_go ?_
    clear e7
    go_simp
    exact ⟨Ext.refl _, g7, A7, c7, rfl, N7.out⟩
  refine Chain.done ?_
  intro vs w5 hE5 hd5
  simp only [Act.put, SP.pick, SP.is, SP.box, id_eq, List.take_succ_cons, List.take_zero, List.drop_succ_cons, List.drop_zero, List.setIfInBounds_toArray, List.set_cons_zero, List.set_cons_succ]
  obtain ⟨g9, A9, c9, e9, N9⟩ := hd5 8
  rw [e9]
  simp only [SP.reaB, id_eq]
  have N9' := Lib.hid N9
  have H5 := Lib.hid hE5
  obtain ⟨y1, y2, y3⟩ := blk_cells (ext_blk hE5 (new_blk2 w _ _ _))
  have q0 := y1 0
  have q1 := y1 1
  have q2 := y1 2
  have q3 := y1 3
  have q4 := y1 4
  simp at q0 q1 q2 q3 q4
  clear hd5 e9 N9 hE5 y1
  go_wp2_with fail
  refine bodyPost_ret (v := .agg #[.int .i64 fm, .int .i64 sq, .int .i64 1, .slice A9 l.length c9, .int .i64 now]) (by clear hR N9' H5 hl; simp [results, Try.results89, go_sem, q0, q1, q2, q3, q4, y2, y3]) rfl ⟨g9, A9, c9, rfl, ?_, ?_⟩
  · iterate 5 refine Ext.setCell_ ?_ (by simp <;> omega) _
    exact Ext.trans (Ext.trans (Ext.alloc_ _ _) (Ext.alloc_ _ _)) H5.out
  · refine NewB.mono (B := w.heap.size + 1 + 1) ?_ (by omega)
    iterate 5 refine NewB.set_ ?_ (by simp <;> omega) _
    exact N9'.out
end Go.Proofs.Ytkmklafjcjkpdaa
