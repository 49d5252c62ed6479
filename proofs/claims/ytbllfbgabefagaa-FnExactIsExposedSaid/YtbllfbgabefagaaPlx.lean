/- The law on who is exposed: its walk. -/
import Derived.Test.YtbllfbgabefagaaExd
namespace Go.Proofs.Ytbllfbgabefagaa
open Go.RowKit
set_option linter.unusedVariables false
set_option linter.unusedSimpArgs false
theorem plx_field {w : World} {cs : List Value} {fs : Array Field} {t e : TypeId} (ht : Try.prog.underlying t = some (.struct fs)) (h : Rd Try.prog w t cs) (i : Nat) (f : Field) (hf : fs[i]? = some f)
    (hk : f.type = e) (hc : Try.prog.cellsOf e = 1) : Rd Try.prog w e ((cs.drop f.offset).take 1) := by
  have h1 := (Rd.struct ht h).2 i f hf
  rw [hk, hc] at h1
  exact h1
theorem plx_slice {w : World} {t e : TypeId} (ht : Try.prog.underlying t = some (.slice e)) {cs : List Value} (h : Rd Try.prog w t cs) : ∃ A n c, cs = [.slice A n c] := by
  rcases Rd.slice ht h with h0 | ⟨a, n, c, h0, _⟩
  · exact ⟨_, _, _, h0⟩
  · exact ⟨_, _, _, h0⟩
theorem plx_cel {w : World} {g : Nat} {cs : Array Value} {T : TypeId} (h : w.heap[g]? = some (.cells cs T (0, 0))) : Cel w (some ⟨g, 0, none⟩) cs.toList := by
  obtain ⟨hb, _, hlt⟩ := blk_cells h
  refine .inr ⟨_, 0, rfl, hlt, fun j u hu => ?_⟩
  rw [Nat.zero_add, hb j]
  simpa using hu
theorem pl_rd {w : World} {cs : List Value} (h : Rd Try.prog w 24 cs) : ∃ A n c rg sn, cs = [.slice A n c, .int .i64 rg, .int .i64 sn] ∧ ∃ P : List Int, P.length = n ∧ Cel w A (P.map (Value.int .i64)) ∧ n ≤ maxLen := by
  have hl := (Rd.struct Try.underlying24 h).1
  rw [show Try.prog.cellsOf 24 = 3 from by kernel_rfl] at hl
  have h0 := plx_field Try.underlying24 h 0 _ rfl rfl (e := 22) (by kernel_rfl)
  have h1 := plx_field Try.underlying24 h 1 _ rfl rfl (e := 3) (by kernel_rfl)
  have h2 := plx_field Try.underlying24 h 2 _ rfl rfl (e := 3) (by kernel_rfl)
  match cs, hl with
  | [c0, c1, c2], _ =>
    simp at h0 h1 h2
    obtain ⟨A, n, c, h3⟩ := plx_slice Try.underlying22 h0
    obtain ⟨z1, h4, -⟩ := Rd.int Try.underlying3 h1
    obtain ⟨z2, h5, -⟩ := Rd.int Try.underlying3 h2
    simp at h3 h4 h5
    subst h3 h4 h5
    obtain ⟨zs, g1, g2, -, -, g3, g4⟩ := view_nums Try.underlying22 Try.underlying3 (by kernel_rfl) h0
    exact ⟨A, n, c, z1, z2, rfl, zs, g1, g2, by omega⟩
theorem szPl_ (w : World) (A : Option Addr) (n c : Nat) (rg sn : Int) (left : Int) (hl : 0 ≤ left ∧ left ≤ 1048576) (hnm : n ≤ maxLen) :
    Calls Try.prog 4 #[.agg #[.slice A n c, .int .i64 rg, .int .i64 sn], .int .i64 left] w fun e w' => e = .returned (.int .i64 (if left < (n : Int) then -1 else left - n)) ∧ Ext w w' := by
  unfold maxLen at hnm
  obtain ⟨x1, x2, x3⟩ := blk_cells (new_blk1 w #[.slice A n c, .int .i64 rg, .int .i64 sn] 24)
  have p0 := x1 0
  have p1 := x1 1
  have p2 := x1 2
  simp at p0 p1 p2
  clear x1
  by_cases h : left < (n : Int)
  · rw [if_pos h]
    go_enter Try.func4, Try.ntmps4
    go_wp2_with fail
    refine (szIntS_ _ _ _ left ⟨hl.1, by omega⟩ (by omega) _).mono ?_
    rintro e w1 ⟨rfl, rfl⟩
    rw [if_pos h]
    go_wp2_with fail
    go_ret
    exact ⟨rfl, Ext.alloc_ _ _⟩
  · rw [if_neg h]
    have h' : ¬ left - (n : Int) < 0 := by omega
    go_enter Try.func4, Try.ntmps4
    go_wp2_with fail
    refine (szIntS_ _ _ _ left ⟨hl.1, by omega⟩ (by omega) _).mono ?_
    rintro e w1 ⟨rfl, rfl⟩
    rw [if_neg (by omega)]
    go_wp2_with fail
    go_ret
    exact ⟨rfl, Ext.alloc_ _ _⟩
theorem toPl_ (w : World) (A : Option Addr) (n c : Nat) (rg sn : Int) (P : List Int) (hn : P.length = n) (hC : Cel w A (P.map (Value.int .i64))) (hl : n ≤ 1048576) :
    Calls Try.prog 6 #[.agg #[.slice A n c, .int .i64 rg, .int .i64 sn]] w fun e w' => ∃ g, e = .returned (.agg #[.slice (some ⟨g, 0, none⟩) n n, .int .i64 rg, .int .i64 sn]) ∧ Ext w w' ∧ Cel w' (some ⟨g, 0, none⟩) (P.map (Value.int .i64)) := by
  have eA := Ext.trans (Ext.trans (Ext.alloc_ w (.cells #[.slice A n c, .int .i64 rg, .int .i64 sn] 24)) (Ext.alloc_ _ (.cells #[.slice none 0 0, .int .i64 0, .int .i64 0] 27))) (Ext.alloc_ _ (.cells #[.slice none 0 0, .int .i64 0, .int .i64 0] 27))
  have HC := Lib.hid (hC.ext eA)
  have HN := Lib.hid hn
  obtain ⟨row, hrow⟩ : ∃ r, r = (P.map (Value.int .i64)).toArray := ⟨_, rfl⟩
  have HW := Lib.hid hrow
  have eB := Ext.alloc_ (((w.alloc (.cells #[.slice A n c, .int .i64 rg, .int .i64 sn] 24)).alloc (.cells #[.slice none 0 0, .int .i64 0, .int .i64 0] 27)).alloc (.cells #[.slice none 0 0, .int .i64 0, .int .i64 0] 27)) (.cells row 3)
  have EA := Lib.hid (Ext.trans eA eB)
  have b1 := Lib.hid (ext_blk (Ext.trans (Ext.trans (Ext.alloc_ _ _) (Ext.alloc_ _ _)) eB) (new_blk1 w #[.slice A n c, .int .i64 rg, .int .i64 sn] 24))
  have b2' := ext_blk (Ext.trans (Ext.alloc_ _ (.cells #[.slice none 0 0, .int .i64 0, .int .i64 0] 27)) eB) (new_blk1 (w.alloc (.cells #[.slice A n c, .int .i64 rg, .int .i64 sn] 24)) #[.slice none 0 0, .int .i64 0, .int .i64 0] 27)
  have b3' := ext_blk eB (new_blk1 ((w.alloc (.cells #[.slice A n c, .int .i64 rg, .int .i64 sn] 24)).alloc (.cells #[.slice none 0 0, .int .i64 0, .int .i64 0] 27)) #[.slice none 0 0, .int .i64 0, .int .i64 0] 27)
  have g1' := new_blk1 (((w.alloc (.cells #[.slice A n c, .int .i64 rg, .int .i64 sn] 24)).alloc (.cells #[.slice none 0 0, .int .i64 0, .int .i64 0] 27)).alloc (.cells #[.slice none 0 0, .int .i64 0, .int .i64 0] 27)) row 3
  simp only [World.size_alloc] at b2' b3' g1'
  have b2 := Lib.hid b2'
  have b3 := Lib.hid b3'
  have g1 := Lib.hid g1'
  clear eA eB hC hn b2' b3' g1' hrow
  go_enter Try.func6, Try.ntmps6
  go_wp2_with fail
  refine (toIntS_ _ _ _ P _ HN.out HC.out hl).mono ?_
  rintro e w4 ⟨rfl, rfl⟩
  rw [← HW.out]
  generalize World.alloc (World.alloc (World.alloc (World.alloc w _) _) _) _ = w5 at *
  obtain ⟨x1, x2, x3⟩ := blk_cells (b1.out)
  have p0 := x1 0
  have p1 := x1 1
  have p2 := x1 2
  simp at p0 p1 p2
  clear x1
  obtain ⟨y1, y2, y3⟩ := blk_cells (b2.out)
  have q0 := y1 0
  have q1 := y1 1
  have q2 := y1 2
  simp at q0 q1 q2
  clear y1
  obtain ⟨z1, z2, z3⟩ := blk_cells (b3.out)
  have s0 := z1 0
  have s1 := z1 1
  have s2 := z1 2
  simp at s0 s1 s2
  clear z1
  go_wp2_with fail
  refine bodyPost_ret (v := .agg #[.slice (some ⟨w.heap.size + 1 + 1 + 1, 0, none⟩) n n, .int .i64 rg, .int .i64 sn]) (by clear HC HN HW EA b1 b2 b3 g1; simp [results, Try.results6, go_sem, *]) rfl ⟨_, rfl, ?_, ?_⟩
  · iterate 6 refine Ext.setCell_ ?_ (by simp <;> omega) _
    exact EA.out
  · have key : ∀ W : World, W.heap[w.heap.size + 1 + 1 + 1]? = some (.cells row 3 (0, 0)) → Cel W (some ⟨w.heap.size + 1 + 1 + 1, 0, none⟩) (P.map (Value.int .i64)) := by
      intro W h
      have h2 := plx_cel h
      rw [HW.out] at h2
      simpa using h2
    refine key _ ?_
    iterate 6 refine set_blk ?_ (by simp <;> omega)
    exact g1.out
theorem eqPl_ (w : World) (A A' : Option Addr) (n c c' : Nat) (rg sn : Int) (P : List Int) (hn : P.length = n) (hC : Cel w A (P.map (Value.int .i64))) (hC' : Cel w A' (P.map (Value.int .i64))) (hl : n ≤ 1048576) :
    Calls Try.prog 8 #[.agg #[.slice A n c, .int .i64 rg, .int .i64 sn], .agg #[.slice A' n c', .int .i64 rg, .int .i64 sn]] w fun e w' => e = .returned (.bool true) ∧ Ext w w' := by
  have e2 := Ext.trans (Ext.alloc_ w (.cells #[.slice A n c, .int .i64 rg, .int .i64 sn] 27)) (Ext.alloc_ _ (.cells #[.slice A' n c', .int .i64 rg, .int .i64 sn] 27))
  have H1 := Lib.hid (hC.ext e2)
  have H2 := Lib.hid (hC'.ext e2)
  have E2 := Lib.hid e2
  have b1 := Lib.hid (ext_blk (Ext.alloc_ _ (.cells #[.slice A' n c', .int .i64 rg, .int .i64 sn] 27)) (new_blk1 w #[.slice A n c, .int .i64 rg, .int .i64 sn] 27))
  have b2' := new_blk1 (w.alloc (.cells #[.slice A n c, .int .i64 rg, .int .i64 sn] 27)) #[.slice A' n c', .int .i64 rg, .int .i64 sn] 27
  simp only [World.size_alloc] at b2'
  have b2 := Lib.hid b2'
  have HN := Lib.hid hn
  clear hC hC' e2 b2' hn
  obtain ⟨x1, x2, x3⟩ := blk_cells (b1.out)
  have p0 := x1 0
  have p1 := x1 1
  have p2 := x1 2
  simp at p0 p1 p2
  clear x1
  obtain ⟨y1, y2, y3⟩ := blk_cells (b2.out)
  have q0 := y1 0
  have q1 := y1 1
  have q2 := y1 2
  simp at q0 q1 q2
  clear y1
  go_enter Try.func8, Try.ntmps8
  go_wp2_with fail
  refine (eqIntS_ _ _ _ _ _ P _ HN.out H1.out H2.out (by omega)).mono ?_
  rintro e w3 ⟨rfl, h3⟩
  have E3 := Lib.hid (Ext.trans E2.out h3)
  clear p0 p1 p2 x2 x3 q0 q1 q2 y2 y3
  obtain ⟨x1, x2, x3⟩ := blk_cells (ext_blk h3 b1.out)
  have p0 := x1 0
  have p1 := x1 1
  have p2 := x1 2
  simp at p0 p1 p2
  clear x1
  obtain ⟨y1, y2, y3⟩ := blk_cells (ext_blk h3 b2.out)
  have q0 := y1 0
  have q1 := y1 1
  have q2 := y1 2
  simp at q0 q1 q2
  clear y1
  clear h3
  go_wp2_with fail
  go_ret
  exact ⟨rfl, E3.out⟩
/-- A value that reads as a placement. -/
def SP.plc (n : Nat) (rg sn : Int) (P : List Int) : SP :=
  { p := fun v w => ∃ g, v = .agg #[.slice (some ⟨g, 0, none⟩) n n, .int .i64 rg, .int .i64 sn] ∧ Cel w (some ⟨g, 0, none⟩) (P.map (Value.int .i64))
    st := fun v w w' hE ⟨g, h1, h2⟩ => ⟨g, h1, h2.ext hE⟩ }
set_option maxHeartbeats 2000000 in
theorem walk_FnExactIsExposed (a0 : Array Value) (a1 a2 a3 a4 : Int) (w : World) (r0 : Rd Try.prog w 24 (Value.agg a0).cells.toList) (w1 : (Lit.int .i64 a1).wf = true) (w2 : (Lit.int .i64 a2).wf = true) (w3 : (Lit.int .i64 a3).wf = true) (w4 : (Lit.int .i64 a4).wf = true) :
    Calls Try.prog 3 #[.agg a0, .int .i64 a1, .int .i64 a2, .int .i64 a3, .int .i64 a4] w fun e w' => e = .returned (.bool true) ∧ Below w.heap.size w w' := by
  obtain ⟨A, n, c, rg, sn, hcs, P, hn, hC, hm⟩ := pl_rd r0
  obtain ⟨cs⟩ := a0
  simp only [Value.cells] at hcs
  subst hcs
  have E0 := Lib.hid (Ext.alloc_ w (.cells #[.slice A n c, .int .i64 rg, .int .i64 sn] 24))
  have b0 := Lib.hid (new_blk1 w #[.slice A n c, .int .i64 rg, .int .i64 sn] 24)
  have HC0 := Lib.hid (hC.ext E0.out)
  have HN := Lib.hid hn
  clear r0 hn hC w1 w2 w3 w4
  obtain ⟨x1, x2, x3⟩ := blk_cells (b0.out)
  have p0 := x1 0
  have p1 := x1 1
  have p2 := x1 2
  simp at p0 p1 p2
  clear x1
  by_cases hbig : (1048576 : Int) < (n : Int)
  · go_enter Try.func3, Try.ntmps3
    go_wp2_with fail
    refine (szPl_ _ _ _ _ _ _ _ ⟨by omega, by omega⟩ hm).mono ?_
    rintro e v1 ⟨rfl, h1⟩
    rw [if_pos hbig]
    have E1 := Lib.hid (Ext.trans E0.out h1)
    clear h1
    go_wp2_with fail
    go_ret
    exact ⟨rfl, E1.out⟩
  · have hl : n ≤ 1048576 := by omega
    have hs : ¬ (1048576 : Int) - n < 0 := by omega
    go_enter Try.func3, Try.ntmps3
    go_wp2_with fail
    refine (szPl_ _ _ _ _ _ _ _ ⟨by omega, by omega⟩ hm).mono ?_
    rintro e v1 ⟨rfl, h1⟩
    rw [if_neg (by omega)]
    have E1 := Lib.hid (Ext.trans E0.out h1)
    have b1 := Lib.hid (ext_blk h1 b0.out)
    have HC1 := Lib.hid (HC0.out.ext h1)
    clear h1 p0 p1 p2 x2 x3 b0 HC0 E0
    obtain ⟨x1, x2, x3⟩ := blk_cells (b1.out)
    have p0 := x1 0
    have p1 := x1 1
    have p2 := x1 2
    simp at p0 p1 p2
    clear x1
    go_wp2_with fail
    refine (toPl_ _ _ _ _ _ _ P HN.out HC1.out hl).mono ?_
    rintro e v2 ⟨g, rfl, h2, hg⟩
    have E2 := Lib.hid (Ext.trans E1.out h2)
    have b2 := Lib.hid (ext_blk h2 b1.out)
    have HC2 := Lib.hid (HC1.out.ext h2)
    have HG2 := Lib.hid hg
    clear h2 hg p0 p1 p2 x2 x3 b1 HC1 E1 hs
    go_wp2_with fail
    refine (sExp _ _ _ _ _ _ _ _ _ _ P HN.out HG2.out hl).mono ?_
    rintro e v3 ⟨rfl, h3⟩
    obtain ⟨V, hV⟩ : ∃ V, exB P rg sn a1 a2 a3 a4 = V := ⟨_, rfl⟩
    rw [hV]
    have HV := Lib.hid hV
    have E3 := Lib.hid (Ext.trans E2.out h3)
    have b3 := Lib.hid (ext_blk h3 b2.out)
    have HC3 := Lib.hid (HC2.out.ext h3)
    clear h3 hV b2 HC2 E2 HG2
    obtain ⟨x1, x2, x3⟩ := blk_cells (b3.out)
    have p0 := x1 0
    have p1 := x1 1
    have p2 := x1 2
    simp at p0 p1 p2
    clear x1
    go_wp2_with fail
    refine (toPl_ _ _ _ _ _ _ P HN.out HC3.out hl).mono ?_
    rintro e v4 ⟨g4, rfl, h4, hg⟩
    have e5 := Ext.alloc_ v4 (.cells #[.slice (some ⟨g4, 0, none⟩) n n, .int .i64 rg, .int .i64 sn] 27)
    have E5 := Lib.hid (Ext.trans E3.out (Ext.trans h4 e5))
    have b5 := Lib.hid (ext_blk (Ext.trans h4 e5) b3.out)
    have HC5 := Lib.hid (HC3.out.ext (Ext.trans h4 e5))
    have HG5 := Lib.hid (hg.ext e5)
    have c5 := Lib.hid (new_blk1 v4 #[.slice (some ⟨g4, 0, none⟩) n n, .int .i64 rg, .int .i64 sn] 27)
    clear h4 hg e5 p0 p1 p2 x2 x3 b3 HC3 E3
    go_wp2_with fail
    generalize World.alloc v4 _ = v5 at *
    generalize v4.heap.size = gx at *
    refine (iExp _ _ _ _ _ _ _ _ _ _ P HN.out HG5.out hl).mono ?_
    rintro e v6 ⟨rfl, h6⟩
    rw [HV.out]
    have E6 := Lib.hid (Ext.trans E5.out h6)
    have b6 := Lib.hid (ext_blk h6 b5.out)
    have HC6 := Lib.hid (HC5.out.ext h6)
    have HG6 := Lib.hid (HG5.out.ext h6)
    have c6 := Lib.hid (ext_blk h6 c5.out)
    clear h6 b5 HC5 HG5 c5 E5
    obtain ⟨x1, x2, x3⟩ := blk_cells (b6.out)
    have p0 := x1 0
    have p1 := x1 1
    have p2 := x1 2
    simp at p0 p1 p2
    clear x1
    obtain ⟨y1, y2, y3⟩ := blk_cells (c6.out)
    have q0 := y1 0
    have q1 := y1 1
    have q2 := y1 2
    simp at q0 q1 q2
    clear y1
    go_wp2_with fail
    refine wp_region_chain 5 (by kernel_rfl) (by kernel_rfl) ?_
    simp only [List.take_succ_cons, List.take_zero, List.drop_succ_cons, List.drop_zero]
    iterate 2 (apply Chain.quiet; · (intro vs wq hEq hd; obtain ⟨hcq, hfq⟩ := bcell hEq; clear hEq hd; (try simp only [Act.put, SP.pick, SP.is, SP.box, id_eq, List.take_succ_cons, List.take_zero, List.drop_succ_cons, List.drop_zero, List.setIfInBounds_toArray, List.set_cons_zero, List.set_cons_succ]); refine growOp_go ?_; go_simp; first | exact ⟨Ext.refl _, rfl⟩ | exact rfl | (split; (exfalso; omega); (first | exact ⟨Ext.refl _, rfl⟩ | exact rfl)) | (split; (first | exact ⟨Ext.refl _, rfl⟩ | exact rfl); (exfalso; omega))))
    refine Chain.sp (SP.plc n rg sn P) ?_ ?_
    · intro vs wq hEq hd
      have hCq := Lib.hid (HC6.out.ext hEq)
      clear hEq hd
      (try simp only [Act.put, SP.pick, SP.is, SP.box, id_eq, List.take_succ_cons, List.take_zero, List.drop_succ_cons, List.drop_zero, List.setIfInBounds_toArray, List.set_cons_zero, List.set_cons_succ])
      refine growOp_go ?_
      go_simp
      refine (toPl_ _ _ _ _ _ _ P HN.out hCq.out hl).mono ?_
      rintro e v7 ⟨g7, rfl, h7, hg7⟩
      exact ⟨_, rfl, h7, g7, rfl, hg7⟩
    apply Chain.quiet
    · intro vs wq hEq hd
      obtain ⟨g7, e7, hg7⟩ := hd 2 (by kernel_rfl)
      have hGq := Lib.hid (HG6.out.ext hEq)
      have hG7 := Lib.hid hg7
      clear hd hEq hg7
      simp only [Act.put, SP.pick, SP.is, SP.box, id_eq, List.take_succ_cons, List.take_zero, List.drop_succ_cons, List.drop_zero, List.setIfInBounds_toArray, List.set_cons_zero, List.set_cons_succ]
      rw [e7]
      refine growOp_go ?_
      clear e7
      go_simp
      refine (eqPl_ _ _ _ _ _ _ _ _ P HN.out hGq.out hG7.out hl).mono ?_
      rintro e v8 ⟨rfl, hb⟩
      first | exact ⟨rfl, hb⟩ | exact ⟨_, rfl, hb, rfl⟩
    (apply Chain.quiet; · (intro vs wq hEq hd; obtain ⟨hcq, hfq⟩ := bcell hEq; clear hEq hd; (try simp only [Act.put, SP.pick, SP.is, SP.box, id_eq, List.take_succ_cons, List.take_zero, List.drop_succ_cons, List.drop_zero, List.setIfInBounds_toArray, List.set_cons_zero, List.set_cons_succ]); refine growOp_go ?_; go_simp; first | exact ⟨Ext.refl _, rfl⟩ | exact rfl | (split; (exfalso; omega); (first | exact ⟨Ext.refl _, rfl⟩ | exact rfl)) | (split; (first | exact ⟨Ext.refl _, rfl⟩ | exact rfl); (exfalso; omega))))
    refine Chain.done ?_
    intro vs w7 hE7 hd7
    simp only [Act.put, SP.pick, SP.is, SP.box, id_eq, List.take_succ_cons, List.take_zero, List.drop_succ_cons, List.drop_zero, List.setIfInBounds_toArray, List.set_cons_zero, List.set_cons_succ]
    clear hd7
    have E7 := Lib.hid (Ext.trans E6.out hE7)
    clear hE7
    go_wp2_with fail
    go_ret
    exact ⟨rfl, E7.out⟩
end Go.Proofs.Ytbllfbgabefagaa
