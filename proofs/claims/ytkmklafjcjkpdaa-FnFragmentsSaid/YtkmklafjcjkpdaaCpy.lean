/- Copies of bytes and of records that hold bytes: memory of their own. -/
import Derived.Test.YtkmklafjcjkpdaaApp
import Derived.Test.YtkmklafjcjkpdaaMac
import Derived.Laws.CopyOwn
namespace Go.Proofs.Ytkmklafjcjkpdaa
open Go.RowKit
set_option linter.unusedVariables false
set_option linter.unusedSimpArgs false

/-- Bytes in a block of their own, not below B. -/
def NewB (w : World) (B g : Nat) (A : Option Addr) (c : Nat) (l : List Int) : Prop :=
  (A = none → c = 0) ∧ l.length ≤ c ∧ B ≤ g ∧ (l = [] ∨ A = some ⟨g, 0, none⟩ ∧ g < w.heap.size ∧ ∃ (cs : Array Value) (T : TypeId), w.heap[g]? = some (.cells cs T (0, 0)) ∧ ∀ (j : Nat) (u : Int), l[j]? = some u → cs[j]? = some (Value.int .u8 u))
section
variable {w w' : World} {B g : Nat} {A : Option Addr} {c : Nat} {l : List Int}
theorem NewB.ext (h : NewB w B g A c l) (hE : Ext w w') : NewB w' B g A c l := by
  obtain ⟨h1, h2, h3, h4⟩ := h
  refine ⟨h1, h2, h3, h4.imp_right ?_⟩
  rintro ⟨a, b, cs, T, d, e⟩
  exact ⟨a, Nat.lt_of_lt_of_le b hE.size, cs, T, ext_blk hE d, e⟩
theorem NewB.mono {B' : Nat} (h : NewB w B g A c l) (hB : B' ≤ B) : NewB w B' g A c l := ⟨h.1, h.2.1, Nat.le_trans hB h.2.2.1, h.2.2.2⟩
theorem NewB.set_ (h : NewB w B g A c l) {p : Addr} (hp : p.block < B) (u : Value) : NewB (w.setCell p u) B g A c l := by
  obtain ⟨h1, h2, h3, h4⟩ := h
  refine ⟨h1, h2, h3, h4.imp_right ?_⟩
  rintro ⟨a, b, cs, T, d, e⟩
  exact ⟨a, by simpa using b, cs, T, by rw [Below.heap_setCell _ _ _ _ (by omega)]; exact d, e⟩
theorem NewB.rb (h : NewB w B g A c l) : RB w A c l := by
  obtain ⟨h1, h2, h3, h4⟩ := h
  refine ⟨?_, h1, h2⟩
  rcases h4 with h4 | ⟨a, b, cs, T, f, e⟩
  · rw [h4]; exact .inl rfl
  · obtain ⟨q1, _, q3⟩ := blk_cells f
    refine .inr ⟨g, 0, a, q3, fun j u hu => ?_⟩
    rw [Nat.zero_add, q1]
    rcases hb : l[j]? with _ | z
    · simp [hb] at hu
    · simp [hb] at hu
      subst hu
      exact e j z hb
theorem NewB.el {α : Type} {K : Kind α} {x : α} (h : NewB w B g A c (K.bd x)) : (⟨x, g, A, c⟩ : El α).new K w B := by
  obtain ⟨h1, h2, h3, h4⟩ := h
  refine ⟨h1, h2, h4.imp_right ?_⟩
  rintro ⟨a, b, d⟩
  exact ⟨a, h3, b, d⟩
theorem NewB.of_blk {T : TypeId} (hB : B ≤ g) (h : w.heap[g]? = some (.cells (l.map (Value.int .u8)).toArray T (0, 0))) : NewB w B g (some ⟨g, 0, none⟩) l.length l :=
  ⟨fun h => by simp at h, Nat.le_refl _, hB, .inr ⟨rfl, heap_lt h, _, T, h, fun j u hu => by simp [hu]⟩⟩
theorem NewB.of_own {e : TypeId} {v : Value} {n : Nat} (h : w.ownsRow B e 1 v n (l.map (Value.int .u8))) (hB : B ≤ w.heap.size) : ∃ g A c, v = .slice A l.length c ∧ NewB w B g A c l := by
  obtain ⟨h1, h2⟩ := h
  have hn : n = l.length := by simpa using h1.symm
  subst hn
  rcases h2 with ⟨rfl, h0⟩ | ⟨g, cap, cur, rfl, hb, hg, hc, hm, hs, ht⟩
  · have : l = [] := List.eq_nil_of_length_eq_zero h0
    subst this
    exact ⟨B, none, 0, rfl, fun _ => rfl, Nat.le_refl _, Nat.le_refl _, .inl rfl⟩
  · refine ⟨g, _, _, rfl, fun h => by simp at h, hc, hb, .inr ⟨rfl, heap_lt hg, cur, e, hg, fun j u hu => ?_⟩⟩
    have hj : j < l.length := by
      rcases Nat.lt_or_ge j l.length with h | h
      · exact h
      · rw [List.getElem?_eq_none h] at hu
        cases hu
    have h3 : (l.map (Value.int .u8))[j]? = some (.int .u8 u) := by simp [hu]
    rw [← ht, List.getElem?_take_of_lt (by omega)] at h3
    simpa using h3
theorem bytes_one (l : List Int) : ∀ u ∈ l.map (Value.int .u8), u.oneCell' = true := by
  intro u hu
  obtain ⟨z, _, rfl⟩ := List.mem_map.1 hu
  rfl
end
/-- copy into a new row of the same length. -/
theorem wpCopyB {P : Program} {ops : Array Oper} {rest : List Oper} {o : Oper} {a : Act} {w : World} {Q : Exit → Act → World → Prop} (d s : Operand) {T e : TypeId} (hu : P.underlying T = some (.slice e)) (hsz : (P.info? e).map (·.size) = some 1) (hgd : o.guard = none)
    (ho : o.op = .call { callee := .builtin .copy, args := #[d, s], argTypes := #[T, T] }) (g n : Nat) (cur xs : List Value) (A : Option Addr) (c : Nat) (hd : a.eval d = .slice (some ⟨g, 0, none⟩) n n) (hs : a.eval s = .slice A n c)
    (hg : w.heap[g]? = some (.cells cur.toArray e (0, 0))) (hx : xs.length = n) (hcur : cur.length = n) (hC : Cel w A xs) (h1 : ∀ v ∈ xs, v.oneCell' = true) {w0 : World} (hb : Ext w0 w) (hBg : w0.heap.size ≤ g)
    (h : ∀ w', Hid (w'.heap[g]? = some (.cells xs.toArray e (0, 0))) → Ext w0 w' → wpList P ops Q rest (a.put o.dst (goInt n)) w') : wpList P ops Q (o :: rest) a w := by
  subst hx
  refine wpList_copy_splice hgd d s T T ho e hu hsz _ _ _ _ _ _ hd hs g 0 cur e hg xs (by simp [Nat.min_def]) (fun h0 => ⟨rfl, ?_⟩) (by omega) h1 w0.heap.size w0 hb hBg fun w' q1 q2 => h w' ?_ q2
  · rcases hC with h | ⟨b, off, e1, e2, e3⟩
    · rw [h] at h0; simp at h0
    · exact ⟨_, e1, fun j v hj => by rw [add_zero_addr]; exact e3 j v hj⟩
  · have h5 : splice cur 0 xs = xs := by unfold splice; simp [hcur]
    have q := q1
    rw [h5] at q
    exact q
theorem iCopyB (w : World) (A : Option Addr) (n c : Nat) (l : List Int) (hn : l.length = n) (hr : RB w A c l) (hl : n ≤ 1073741824) :
    Calls Try.prog 137 #[.slice A n c] w fun e w' => ∃ g A' c', e = .returned (.slice A' n c') ∧ Ext w w' ∧ NewB w' w.heap.size g A' c' l := by
  have hmk := fun W => make_one elByte (z := .int .u8 0) (by kernel_rfl) rfl n (by omega) (by omega) W
  subst hn
  have hC : Cel w A (l.map (Value.int .u8)) := hr.1
  have hb := Lib.hid (new_blk1 w (List.replicate l.length (Value.int .u8 0)).toArray 5)
  have hone := Lib.hid (bytes_one l)
  obtain ⟨xs, hxs⟩ : ∃ xs, xs = l.map (Value.int .u8) := ⟨_, rfl⟩
  obtain ⟨zs, hzs⟩ : ∃ zs, zs = List.replicate l.length (Value.int .u8 0) := ⟨_, rfl⟩
  rw [← hzs] at hb hmk
  rw [← hxs] at hone
  have hxl := Lib.hid (show xs.length = l.length by rw [hxs]; simp)
  have hzl := Lib.hid (show zs.length = l.length by rw [hzs]; simp)
  rw [← hxs] at hC
  have hC' := Lib.hid hC
  have hx := Lib.hid hxs
  clear hr hxs hzs hC
  go_enter Try.func137, Try.ntmps137
  go_wp2_with ((with_reducible show wpList _ _ _ (⟨some 9, _, _, _, _, _⟩ :: _) _ _); refine wpCopyB (.tmp 7) (.tmp 8) Try.underlying22 (by kernel_rfl) rfl rfl w.heap.size l.length zs xs A c rfl rfl hb.out hxl.out hzl.out (hC'.out.ext (Ext.alloc_ _ _)) hone.out (Ext.alloc_ _ _) (Nat.le_refl _) ?_)
  intro w2 hg2 hE2
  clear hmk hb
  go_wp2
  go_ret
  exact ⟨_, _, _, rfl, hE2, NewB.of_blk (Nat.le_refl _) (by have h := hg2; rw [hx.out] at h; exact h)⟩
theorem sMsgC (w : World) (t1 c1 d1 : Int) (A : Option Addr) (n c : Nat) (l : List Int) (hn : l.length = n) (hr : RB w A c l) (hl : n ≤ 1073741824) :
    Calls Try.prog 161 #[.agg #[.int .i64 t1, .int .i64 c1, .int .i64 d1, .slice A n c]] w fun e w' => ∃ g A' c', e = .returned (.agg #[.int .i64 t1, .int .i64 c1, .int .i64 d1, .slice A' n c']) ∧ Ext w w' ∧ NewB w' w.heap.size g A' c' l := by
  obtain ⟨v0, hv0⟩ : ∃ v0 : Value, v0 = Value.agg #[Value.int .i64 0, .int .i64 0, .int .i64 0, .slice none 0 0] := ⟨_, rfl⟩
  subst hn
  have hO := World.ownsRow_lit (size := 1) (e := 5) (base := w.heap.size + 1 + 1) ((w.alloc (.cells #[.int .i64 t1, .int .i64 c1, .int .i64 d1, .slice A l.length c] 59)).alloc (.cells #[.int .i64 0, .int .i64 0, .int .i64 0, .slice none 0 0] 59)) #[] 0 (by simp) (by unfold maxLen; omega) (by simp)
  simp only [World.size_alloc] at hO
  have hC := Lib.hid (hr.1.ext (Ext.trans (Ext.trans (Ext.alloc_ w (.cells #[.int .i64 t1, .int .i64 c1, .int .i64 d1, .slice A l.length c] 59)) (Ext.alloc_ _ (.cells #[.int .i64 0, .int .i64 0, .int .i64 0, .slice none 0 0] 59))) (Ext.alloc_ _ (.cells #[] 5))))
  have hA := Lib.hid hr.2.1
  have hone := Lib.hid (bytes_one l)
  have hO' := Lib.hid hO
  clear hr hO hv0 v0
  go_enter Try.func161, Try.ntmps161
  go_wp2_with (at_builtin; refine wpApp (.tmp 3) (.tmp 5) elByte rfl rfl (w.heap.size + 1 + 1) _ _ _ rfl hO'.out _ _ _ _ rfl hC.out (by simp) hA.out hone.out (by unfold maxLen; omega) (by omega) (by simp <;> omega) ?_)
  intro v1 w1 hO1 hg1 _
  have hE1 := Lib.hid (ext_grown (w0 := (w.alloc (.cells #[.int .i64 t1, .int .i64 c1, .int .i64 d1, .slice A l.length c] 59)).alloc (.cells #[.int .i64 0, .int .i64 0, .int .i64 0, .slice none 0 0] 59)) (Ext.alloc_ _ _) hg1 hO'.out (by simp))
  have hN := NewB.of_own (l := l) (by simpa using hO1) (by have := hE1.out.size; simpa using this)
  obtain ⟨g, A', c', rfl, hN⟩ := hN
  have hN' := Lib.hid hN
  obtain ⟨x1, x2, x3⟩ := blk_cells (ext_blk (Ext.trans (Ext.alloc_ _ _) hE1.out) (new_blk1 w _ _))
  obtain ⟨y1, y2, y3⟩ := blk_cells (ext_blk hE1.out (new_blk2 w _ _ _))
  have p0 := x1 0
  have p1 := x1 1
  have p2 := x1 2
  have p3 := x1 3
  have q0 := y1 0
  have q1 := y1 1
  have q2 := y1 2
  have q3 := y1 3
  simp at p0 p1 p2 p3 q0 q1 q2 q3
  clear hO' hO1 hg1 hN x1 y1
  go_wp2_with fail
  refine bodyPost_ret (v := .agg #[.int .i64 t1, .int .i64 c1, .int .i64 d1, .slice A' l.length c']) (by clear p0 p1 p2 p3 x2 x3 hone hA hC hl hE1 hN'; simp [results, Try.results161, go_sem, q0, q1, q2, q3, y2, y3]) rfl ⟨g, A', c', rfl, ?_, ?_⟩
  · iterate 5 refine Ext.setCell_ ?_ (by simp <;> omega) _
    exact Ext.trans (Ext.trans (Ext.alloc_ _ _) (Ext.alloc_ _ _)) hE1.out
  · refine NewB.mono (B := w.heap.size + 1 + 1) ?_ (by omega)
    iterate 5 refine NewB.set_ ?_ (by simp <;> omega) _
    exact hN'.out
theorem iMsgC (w : World) (t1 c1 d1 : Int) (A : Option Addr) (n c : Nat) (l : List Int) (hn : l.length = n) (hr : RB w A c l) (hl : n ≤ 1073741824) :
    Calls Try.prog 110 #[.agg #[.int .i64 t1, .int .i64 c1, .int .i64 d1, .slice A n c]] w fun e w' => ∃ g A' c', e = .returned (.agg #[.int .i64 t1, .int .i64 c1, .int .i64 d1, .slice A' n c']) ∧ Ext w w' ∧ NewB w' w.heap.size g A' c' l := by
  have hR := Lib.hid (hr.ext (Ext.trans (Ext.alloc_ w (.cells #[.int .i64 t1, .int .i64 c1, .int .i64 d1, .slice A n c] 59)) (Ext.alloc_ _ (.cells #[.int .i64 0, .int .i64 0, .int .i64 0, .slice none 0 0] 59))))
  have hn' := Lib.hid hn
  clear hr hn
  go_enter Try.func110, Try.ntmps110
  go_wp2_with fail
  refine (iCopyB _ _ _ _ l hn'.out hR.out hl).mono ?_
  rintro e w1 ⟨g, A', c', rfl, hE, hN⟩
  have hE1 := Lib.hid hE
  simp only [World.size_alloc] at hN
  have hN' := Lib.hid hN
  obtain ⟨x1, x2, x3⟩ := blk_cells (ext_blk (Ext.trans (Ext.alloc_ _ _) hE1.out) (new_blk1 w _ _))
  obtain ⟨y1, y2, y3⟩ := blk_cells (ext_blk hE1.out (new_blk2 w _ _ _))
  have p0 := x1 0
  have p1 := x1 1
  have p2 := x1 2
  have p3 := x1 3
  have q0 := y1 0
  have q1 := y1 1
  have q2 := y1 2
  have q3 := y1 3
  simp at p0 p1 p2 p3 q0 q1 q2 q3
  clear hE hN x1 y1
  go_wp2_with fail
  refine bodyPost_ret (v := .agg #[.int .i64 t1, .int .i64 c1, .int .i64 d1, .slice A' n c']) (by clear p0 p1 p2 p3 x2 x3 hR hl hE1 hN'; simp [results, Try.results110, go_sem, q0, q1, q2, q3, y2, y3]) rfl ⟨g, A', c', rfl, ?_, ?_⟩
  · iterate 5 refine Ext.setCell_ ?_ (by simp <;> omega) _
    exact Ext.trans (Ext.trans (Ext.alloc_ _ _) (Ext.alloc_ _ _)) hE1.out
  · refine NewB.mono (B := w.heap.size + 1 + 1) ?_ (by omega)
    iterate 5 refine NewB.set_ ?_ (by simp <;> omega) _
    exact hN'.out
end Go.Proofs.Ytkmklafjcjkpdaa
