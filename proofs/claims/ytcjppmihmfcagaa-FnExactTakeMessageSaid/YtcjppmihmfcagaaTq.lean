/- Transmit queues: what came in, the size check, the copy and the comparison of the laws. -/
import Derived.Test.YtcjppmihmfcagaaQue
namespace Go.Proofs.Ytcjppmihmfcagaa
open Go.RowKit
set_option linter.unusedVariables false
set_option linter.unusedSimpArgs false

/-- A body that came in: not too long, and bytes. -/
def Byt (l : List Int) : Prop := l.length ≤ maxLen ∧ ∀ z ∈ l, 0 ≤ z ∧ z ≤ 255
theorem u8_range {z : Int} (h : (Lit.int .u8 z).wf = true) : 0 ≤ z ∧ z ≤ 255 := by
  have h1 : IntKind.u8.min = 0 := rfl
  have h2 : IntKind.u8.max = 255 := rfl
  simp [Lit.wf] at h
  try simp [IntKind.inRange] at h
  rw [h1, h2] at h
  exact h
theorem one_f {w : World} {cs : List Value} {fs : Array Field} {t e : TypeId} (ht : Try.prog.underlying t = some (.struct fs)) (h : Rd Try.prog w t cs) (i : Nat) (f : Field) (hf : fs[i]? = some f)
    (hk : f.type = e) (hc : Try.prog.cellsOf e = 1) : Rd Try.prog w e ((cs.drop f.offset).take 1) := by
  have h1 := (Rd.struct ht h).2 i f hf
  rw [hk, hc] at h1
  exact h1
theorem bytes_f2 {w : World} {cs : List Value} {fs : Array Field} {t : TypeId} (ht : Try.prog.underlying t = some (.struct fs)) (h : Rd Try.prog w t cs) (i : Nat) (f : Field) (hf : fs[i]? = some f)
    (hk : f.type = 22) : ∃ A l c, (cs.drop f.offset).take 1 = [.slice A (List.length l) c] ∧ RB w A c l ∧ Byt l := by
  have h1 := (Rd.struct ht h).2 i f hf
  rw [hk, show Try.prog.cellsOf 22 = 1 from by kernel_rfl] at h1
  obtain ⟨A, n, c, h2⟩ := slice_cell Try.underlying22 h1
  rw [h2] at h1
  obtain ⟨zs, g1, g2, g6, g3, g4, g5⟩ := view_nums Try.underlying22 Try.underlying5 cells_byte h1
  subst g1
  exact ⟨A, zs, c, h2, ⟨g2, g3, g4⟩, by omega, fun z hz => u8_range (g6 z hz)⟩
theorem msg_rd2 {w : World} {cs : List Value} (h : Rd Try.prog w 76 cs) : ∃ m : Msg, kE kMsg w m cs ∧ Byt m.body := by
  have hl := (Rd.struct Try.underlying76 h).1
  rw [show Try.prog.cellsOf 76 = 4 from by kernel_rfl] at hl
  obtain ⟨a, h1⟩ := int_f Try.underlying76 h 0 _ rfl Try.underlying3 cells_int1
  obtain ⟨b, h2⟩ := int_f Try.underlying76 h 1 _ rfl Try.underlying3 cells_int1
  obtain ⟨d, h3⟩ := int_f Try.underlying76 h 2 _ rfl Try.underlying3 cells_int1
  obtain ⟨A, l, c, h4, h5, h6⟩ := bytes_f2 Try.underlying76 h 3 _ rfl rfl
  match cs, hl with
  | [c0, c1, c2, c3], _ =>
    simp at h1 h2 h3 h4
    subst h1 h2 h3 h4
    exact ⟨⟨a, b, d, l⟩, ⟨A, c, rfl, h5⟩, h6⟩
theorem view_msgs {w : World} {A : Option Addr} {n c : Nat} (h : Rd Try.prog w 48 [.slice A n c]) : ∃ l : List Msg, l.length = n ∧ Els w A 4 (kE kMsg) l ∧ n ≤ maxLen ∧ ∀ m ∈ l, Byt m.body := by
  obtain ⟨l, h1, h2, h3, h4, h5⟩ := view_els (E := fun w m cs => kE kMsg w m cs ∧ Byt m.body) Try.underlying48 (by rw [show Try.prog.cellsOf 76 = 4 from by kernel_rfl]; decide) (fun es h => msg_rd2 h) h
  rw [show Try.prog.cellsOf 76 = 4 from by kernel_rfl] at h2
  refine ⟨l, h1, ?_, by omega, ?_⟩
  · rcases h2 with h2 | ⟨b, off, e1, e2, e3⟩
    · exact .inl h2
    · exact .inr ⟨b, off, e1, e2, fun i hi => by obtain ⟨cs, q1, q2⟩ := e3 i hi; exact ⟨cs, q1.1, q2⟩⟩
  · rcases h2 with h2 | ⟨b, off, e1, e2, e3⟩
    · subst h2; simp
    · intro m hm
      obtain ⟨i, hi, rfl⟩ := List.getElem_of_mem hm
      obtain ⟨cs, q1, q2⟩ := e3 i hi
      exact q1.2
theorem tq_rd {w : World} {cs : List Value} (h : Rd Try.prog w 50 cs) : ∃ A n c d, cs = [.slice A n c, .int .i64 d] ∧ ∃ l : List Msg, l.length = n ∧ Els w A 4 (kE kMsg) l ∧ n ≤ maxLen ∧ ∀ m ∈ l, Byt m.body := by
  have hl := (Rd.struct Try.underlying50 h).1
  rw [show Try.prog.cellsOf 50 = 2 from by kernel_rfl] at hl
  obtain ⟨d, h2⟩ := int_f Try.underlying50 h 1 _ rfl Try.underlying3 cells_int1
  have h1 := one_f Try.underlying50 h 0 _ rfl rfl (e := 48) (by kernel_rfl)
  match cs, hl with
  | [c0, c1], _ =>
    simp at h1 h2
    obtain ⟨A, n, c, h3⟩ := slice_cell Try.underlying48 h1
    simp at h3
    subst h2 h3
    exact ⟨A, n, c, d, rfl, view_msgs h1⟩
theorem szTq_ (w : World) (A : Option Addr) (n c : Nat) (d : Int) (l : List Msg) (left : Int) (hn : l.length = n) (hM : Els w A 4 (kE kMsg) l) (hb : ∀ m ∈ l, Byt m.body) (hl : 0 ≤ left ∧ left ≤ 1048576) (hnm : n ≤ maxLen) :
    Calls Try.prog 33 #[.agg #[.slice A n c, .int .i64 d], .int .i64 left] w fun e w' => e = .returned (.int .i64 (if left < (n : Int) + tot kMsg l then -1 else left - (n + tot kMsg l))) ∧ Below w.heap.size w w' := by
  have hnm' := Lib.hid hnm
  have hM' := Lib.hid hM
  have hn' := Lib.hid hn
  have hb' : Hid (∀ i (h : i < l.length), l[i].body.length ≤ maxLen) := fun i h => (hb _ (List.getElem_mem h)).1
  clear hnm hM hb hn
  by_cases h : left < (n : Int) + tot kMsg l
  · rw [if_pos h]
    go_enter Try.func33, Try.ntmps33
    go_wp2_with fail
    refine (szMsgS_ _ _ _ _ l _ hn'.out (els_up hM'.out (Ext.alloc_ _ _)) hb'.out hl hnm'.out).mono ?_
    rintro e w1 ⟨rfl, hb1⟩
    rw [if_pos h]
    go_wp2_with fail
    go_ret
    exact ⟨rfl, Ext.trans (Ext.alloc_ _ _) hb1⟩
  · rw [if_neg h]
    have h2 : ¬ left - ((n : Int) + tot kMsg l) < 0 := by omega
    go_enter Try.func33, Try.ntmps33
    go_wp2_with fail
    refine (szMsgS_ _ _ _ _ l _ hn'.out (els_up hM'.out (Ext.alloc_ _ _)) hb'.out hl hnm'.out).mono ?_
    rintro e w1 ⟨rfl, hb1⟩
    rw [if_neg (by omega)]
    go_wp2_with fail
    go_ret
    exact ⟨rfl, Ext.trans (Ext.alloc_ _ _) hb1⟩
theorem new_blk3 (w : World) (o1 o2 : Obj) (c : Array Value) (t : TypeId) : (((w.alloc o1).alloc o2).alloc (.cells c t (0, 0))).heap[w.heap.size + 1 + 1]? = some (.cells c t (0, 0)) := by
  have := heap_alloc_new ((w.alloc o1).alloc o2) (.cells c t (0, 0))
  rwa [World.size_alloc, World.size_alloc] at this
theorem toMsgSG_ (w : World) (A : Option Addr) (n c : Nat) (l : List Msg) (hn : l.length = n) (hM : Els w A 4 (kE kMsg) l) (hl : (n : Int) + tot kMsg l ≤ 1048576) :
    Calls Try.prog 75 #[.slice A n c] w fun e w' => ∃ G, e = .returned (.slice (some ⟨G, 0, none⟩) n n) ∧ Ext w w' ∧ w.heap.size ≤ G ∧ Own kMsg w' w.heap.size w'.heap.size (some ⟨G, 0, none⟩) l :=
  (toMsgS_ w A n c l hn hM hl).mono fun e w' ⟨h1, h2, h3⟩ => ⟨_, h1, h2, Nat.le_refl _, h3⟩
theorem toTq_ (w : World) (A : Option Addr) (n c : Nat) (d : Int) (l : List Msg) (hn : l.length = n) (hM : Els w A 4 (kE kMsg) l) (hl : (n : Int) + tot kMsg l ≤ 1048576) :
    Calls Try.prog 35 #[.agg #[.slice A n c, .int .i64 d]] w fun e w' => ∃ G, e = .returned (.agg #[.slice (some ⟨G, 0, none⟩) n n, .int .i64 d]) ∧ Ext w w' ∧ Own kMsg w' w.heap.size w'.heap.size (some ⟨G, 0, none⟩) l := by
  have hl' := Lib.hid hl
  have hM' := Lib.hid hM
  have hn' := Lib.hid hn
  clear hl hM hn
  go_enter Try.func35, Try.ntmps35
  go_wp2_with fail
  refine (toMsgSG_ _ _ _ _ l hn'.out (els_up hM'.out (Ext.trans (Ext.trans (Ext.alloc_ _ _) (Ext.alloc_ _ _)) (Ext.alloc_ _ _))) hl'.out).mono ?_
  rintro e w1 ⟨G, rfl, hE1, hG, hO1⟩
  have b1 := Lib.hid (ext_blk (Ext.trans (Ext.trans (Ext.alloc_ _ _) (Ext.alloc_ _ _)) hE1) (new_blk1 w _ _))
  have b2 := Lib.hid (ext_blk (Ext.trans (Ext.alloc_ _ _) hE1) (new_blk2 w _ _ _))
  have b3 := Lib.hid (ext_blk hE1 (new_blk3 w _ _ _ _))
  obtain ⟨x1, x2, x3⟩ := blk_cells b1.out
  obtain ⟨y1, y2, y3⟩ := blk_cells b2.out
  obtain ⟨z1, z2, z3⟩ := blk_cells b3.out
  have p1 := x1 1
  have q0 := y1 0
  have q1 := y1 1
  have r0 := z1 0
  have r1 := z1 1
  have hE := Lib.hid (Ext.trans (Ext.trans (Ext.trans (Ext.alloc_ _ _) (Ext.alloc_ _ _)) (Ext.alloc_ _ _)) hE1)
  simp only [World.size_alloc] at hG hO1
  have hO := Lib.hid hO1
  have hG' := Lib.hid hG
  clear b1 b2 b3 x1 y1 z1 hE1 hO1 hG
  simp at p1 q0 q1 r0 r1
  go_wp2_with fail
  refine bodyPost_ret (v := .agg #[.slice (some ⟨G, 0, none⟩) n n, .int .i64 d]) (by simp [results, Try.results35, go_sem, *]) rfl ⟨G, rfl, ?_, ?_⟩
  · exact (((hE.out.setCell_ (by simp <;> omega) _).setCell_ (by simp <;> omega) _).setCell_ (by simp <;> omega) _).setCell_ (by simp <;> omega) _
  · have h := (((hO.out.set_ (p := ⟨w.heap.size + 1 + 1, 0, none⟩) (by simp) (.slice (some ⟨G, 0, none⟩) n n)).set_ (p := ⟨w.heap.size + 1 + 1, 1, none⟩) (by simp) (.int .i64 d)).set_ (p := ⟨w.heap.size + 1, 0, none⟩) (by simp <;> omega) (.slice (some ⟨G, 0, none⟩) n n)).set_ (p := ⟨w.heap.size + 1, 1, none⟩) (by simp <;> omega) (.int .i64 d)
    exact h.mono (by omega) (by simp)
theorem eqTq_ (w : World) (A A' : Option Addr) (n c c' : Nat) (d : Int) (l : List Msg) (hn : l.length = n) (hM : Els w A 4 (kE kMsg) l) (hM' : Els w A' 4 (kE kMsg) l) (hl : (n : Int) + tot kMsg l ≤ 1048577) :
    Calls Try.prog 37 #[.agg #[.slice A n c, .int .i64 d], .agg #[.slice A' n c', .int .i64 d]] w fun e w' => e = .returned (.bool true) ∧ Below w.heap.size w w' := by
  have hE := Ext.trans (Ext.alloc_ w (.cells #[.slice A n c, .int .i64 d] 54)) (Ext.alloc_ _ (.cells #[.slice A' n c', .int .i64 d] 54))
  have H1 := Lib.hid (els_up hM hE)
  have H2 := Lib.hid (els_up hM' hE)
  have hn' := Lib.hid hn
  have hl' := Lib.hid hl
  clear hM hM' hn hE hl
  go_enter Try.func37, Try.ntmps37
  go_wp2_with fail
  refine (eqMsgS_ _ _ _ _ _ _ l hn'.out H1.out H2.out hl'.out).mono ?_
  rintro e w1 ⟨rfl, hb1⟩
  obtain ⟨hc1, hf1⟩ := bcell (hb1)
  go_wp2_with fail
  go_ret
  exact ⟨rfl, Ext.trans (Ext.trans (Ext.alloc_ _ _) (Ext.alloc_ _ _)) hb1⟩
end Go.Proofs.Ytcjppmihmfcagaa
