/- Queues copied. -/
import Derived.Test.YtkmklafjcjkpdaaExpI
namespace Go.Proofs.Ytkmklafjcjkpdaa
open Go.RowKit
set_option linter.unusedVariables false
set_option linter.unusedSimpArgs false
/-- A row while it is filled: the first elements are in, the block has room for N. -/
def FilT {α : Type} (K : Kind α) (T : TypeId) (w : World) (B G N : Nat) (l : List α) (k : Nat) : Prop :=
  ∃ (es : List (El α)) (cs : Array Value), B ≤ G ∧ w.heap[G]? = some (.cells cs T (0, 0)) ∧ cs.size = N * K.size ∧ (∀ (j : Nat) (u : Value), (rowOf K es)[j]? = some u → cs[j]? = some u) ∧ Bod K w B w.heap.size G es ∧ es.map (·.x) = l.take k
section
variable {α : Type} {K : Kind α} {T : TypeId} {w w' : World} {B G N : Nat} {l : List α} {k : Nat}
theorem FilT.zero {cs : Array Value} (hB : B ≤ G) (h : w.heap[G]? = some (.cells cs T (0, 0))) (hs : cs.size = N * K.size) : FilT K T w B G N l 0 :=
  ⟨[], cs, hB, h, hs, fun j u hu => by simp [rowOf] at hu, .nil, by simp⟩
theorem FilT.ext (h : FilT K T w B G N l k) (hE : Ext w w') : FilT K T w' B G N l k := by
  obtain ⟨es, cs, h1, h2, h3, h4, h5, h6⟩ := h
  exact ⟨es, cs, h1, ext_blk hE h2, h3, h4, (h5.ext hE).mono (Nat.le_refl _) hE.size, h6⟩
/-- The facts that a store of element k needs. -/
theorem FilT.at_ (h : FilT K T w B G N l k) (hk : k < N) : (∀ j, j < K.size → ∃ u, w.cell? ⟨G, k * K.size + j, none⟩ = some u) ∧ (∀ i, w.frozen? ⟨G, i, none⟩ = false) ∧ G < w.heap.size := by
  obtain ⟨es, cs, h1, h2, h3, h4, h5, h6⟩ := h
  obtain ⟨q1, q2, q3⟩ := blk_cells h2
  refine ⟨fun j hj => ?_, q2, q3⟩
  have : k * K.size + j < cs.size := by
    rw [h3]
    have : (k + 1) * K.size ≤ N * K.size := Nat.mul_le_mul_right _ hk
    rw [Nat.succ_mul] at this
    omega
  exact ⟨cs[k * K.size + j], by rw [q1, Array.getElem?_eq_getElem this]⟩
/-- Element k is stored: its body a block that was new when the filling of k began (in world w0). -/
theorem FilT.step {w0 : World} {g : Nat} {A : Option Addr} {c : Nat} (h : FilT K T w0 B G N l k) (hE : Ext w0 w) (hk : k < l.length) (hN : l.length ≤ N) (hg : w0.heap.size ≤ g)
    (hok : (⟨l[k], g, A, c⟩ : El α).ok K w B w.heap.size G) : FilT K T (setW w G (k * K.size) (K.hd l[k] (.slice A (K.bd l[k]).length c))) B G N l (k + 1) := by
  have h' := h.ext hE
  obtain ⟨es0, cs0, g1, g2, g3, g4, g5, g6⟩ := h
  have hlen : (K.hd l[k] (.slice A (K.bd l[k]).length c)).length = K.size := K.hlen _ _
  have hesl : es0.length = k := by
    have := congrArg List.length g6
    simp at this
    omega
  have hroom : k * K.size + K.size ≤ cs0.size := by
    rw [g3]
    have : (k + 1) * K.size ≤ N * K.size := Nat.mul_le_mul_right _ (by omega)
    rw [Nat.succ_mul] at this
    omega
  refine ⟨es0 ++ [⟨l[k], g, A, c⟩], setL cs0 (k * K.size) (K.hd l[k] (.slice A (K.bd l[k]).length c)), g1, setW_blk _ _ _ _ (ext_blk hE g2), by rw [setL_size, g3], ?_, ?_, ?_⟩
  · intro j u hu
    rw [setL_get _ _ _ _ (by rw [hlen]; exact hroom), hlen]
    rw [rowOf_append] at hu
    have hrl : (rowOf K es0).length = k * K.size := by rw [rowOf_len, hesl]
    by_cases hj : j < k * K.size
    · rw [if_neg (by omega)]
      rw [List.getElem?_append_left (by omega)] at hu
      exact g4 j u hu
    · rw [List.getElem?_append_right (by omega), hrl] at hu
      have hc : rowOf K [(⟨l[k], g, A, c⟩ : El α)] = K.hd l[k] (.slice A (K.bd l[k]).length c) := by simp [rowOf, El.cells]
      rw [hc] at hu
      have : j - k * K.size < K.size := by
        rcases Nat.lt_or_ge (j - k * K.size) K.size with h | h
        · exact h
        · rw [List.getElem?_eq_none (by omega)] at hu
          cases hu
      rw [if_pos (by omega)]
      exact hu
  · have hsz := setW_size (G := G) (K.hd l[k] (.slice A (K.bd l[k]).length c)) w (k * K.size)
    rw [hsz]
    have hb : Bod K w B w.heap.size G es0 := (g5.ext hE).mono (Nat.le_refl _) hE.size
    have hall : Bod K w B w.heap.size G (es0 ++ [⟨l[k], g, A, c⟩]) := hb.snoc hok fun e' he' h0 => by
      have := g5.lt he' h0
      simp only
      omega
    refine ⟨fun e he => (hall.1 e he).keep fun h0 => setW_ne ?_ _ _ _, hall.2⟩
    obtain ⟨_, _, h3⟩ := hall.1 e he
    exact (h3.resolve_left h0).2.2.2.1
  · rw [List.map_append, g6, take_snoc_get l k hk]
    rfl
theorem FilT.done (h : FilT K T w B G l.length l l.length) (hm : l.length ≤ maxLen) : AppR K T w B (fun _ => False) (.slice (some ⟨G, 0, none⟩) l.length l.length) l := by
  obtain ⟨es, cs, h1, h2, h3, h4, h5, h6⟩ := h
  rw [List.take_length] at h6
  have hl : es.length = l.length := by have := congrArg List.length h6; simpa using this
  refine ⟨es, ⟨rowOf_len, .inr ⟨G, l.length, cs, by rw [hl], h1, h2, by omega, hm, h3, ?_⟩⟩, fun G' hG => ⟨fun h => h, by simp [Value.ownBlock] at hG; subst hG; exact h5⟩, fun e he h0 hx => hx, h6⟩
  have hrl : (rowOf K es).length = cs.toList.length := by rw [rowOf_len, hl, ← h3]; exact Array.length_toList.symm
  have htk : cs.toList.take (es.length * K.size) = cs.toList := List.take_of_length_le (by rw [← hrl, rowOf_len]; exact Nat.le_refl _)
  rw [htk]
  refine List.ext_getElem hrl.symm fun i q1 q2 => ?_
  have := h4 i _ (List.getElem?_eq_getElem q2)
  rw [Array.getElem?_eq_getElem (by simpa using q1)] at this
  simpa using Option.some.inj this
end
/-- A row of its own, seen with less. -/
theorem AppR.weak {α : Type} {K : Kind α} {T : TypeId} {w : World} {B B' : Nat} {X X' : Nat → Prop} {v : Value} {l : List α} (h : AppR K T w B X v l) (hB : B' ≤ B) (hX : ∀ x, X' x → X x) : AppR K T w B' X' v l := by
  obtain ⟨es, h1, h2, h3, h4⟩ := h
  refine ⟨es, ⟨h1.1, h1.2.imp_right ?_⟩, fun G hG => ⟨fun hx => (h2 G hG).1 (hX G hx), (h2 G hG).2.mono hB (Nat.le_refl _)⟩, fun e he h0 hx => h3 e he h0 (hX _ hx), h4⟩
  rintro ⟨g, cap, cur, a, b, c⟩
  exact ⟨g, cap, cur, a, by omega, c⟩
set_option maxHeartbeats 1000000 in
theorem sCopyQ (w : World) (A : Option Addr) (n c : Nat) (d : Int) (l : List Msg) (hn : l.length = n) (hM : Els w A 4 (kE kMsg) l) (hb : ∀ m ∈ l, m.body.length ≤ 1048576) (hl : n ≤ 1048576) :
    Calls Try.prog 160 #[.agg #[.slice A n c, .int .i64 d]] w fun e w' => ∃ A' c', e = .returned (.agg #[.slice A' n c', .int .i64 d]) ∧ Ext w w' ∧ AppR kMsg 59 w' w.heap.size (fun _ => False) (.slice A' n c') l := by
  subst hn
  have hM' := Lib.hid hM
  have hb' := Lib.hid hb
  have hE0 := Lib.hid (Ext.refl (((w.alloc (.cells #[.slice A l.length c, .int .i64 d] 55)).alloc (.cells #[.slice none 0 0, .int .i64 0] 55)).alloc (.cells #[.slice none 0 0, .int .i64 d] 55)))
  clear hM hb
  go_enter Try.func160, Try.ntmps160
  go_wp2
  go_loopw [4] (fun i wr => ∃ (k : Nat) (v : Value), k ≤ l.length ∧ i = .int .i64 k ∧ Hid (Ext (((w.alloc (.cells #[.slice A l.length c, .int .i64 d] 55)).alloc (.cells #[.slice none 0 0, .int .i64 0] 55)).alloc (.cells #[v, .int .i64 d] 55)) wr) ∧ Hid (AppR kMsg 59 wr (w.heap.size + 1 + 1) (fun x => x = w.heap.size + 1 ∨ x = w.heap.size + 1 + 1) v (l.take k))) (fun i _ => l.length - (intOf i).toNat)
  case atStart => exact ⟨0, _, Nat.zero_le _, rfl, hE0, Lib.hid AppR.nil⟩
  case round =>
    obtain ⟨k, v, hk, rfl, hE, hA⟩ := hrel
    clear hE0
    obtain ⟨x1, x2, x3⟩ := blk_cells (ext_blk (Ext.trans (Ext.trans (Ext.alloc_ _ _) (Ext.alloc_ _ _)) hE.out) (new_blk1 w _ _))
    obtain ⟨y1, y2, y3⟩ := blk_cells (ext_blk (Ext.trans (Ext.alloc_ _ _) hE.out) (new_blk2 w _ _ _))
    have hbox := hE.out.box
    simp only [World.size_alloc] at hbox
    obtain ⟨z1, z2, z3⟩ := blk_cells hbox
    have p0 := x1 0
    have q0 := y1 0
    have q1 := y1 1
    have r0 := z1 0
    have r1 := z1 1
    simp at p0 q0 q1 r0 r1
    have hbox' := Lib.hid hbox
    clear x1 y1 z1 hbox
    by_cases hlt : k < l.length
    · obtain ⟨b, off, rfl, hb, hc⟩ := (els_up hM'.out (Ext.trans (Ext.trans (Ext.trans (Ext.alloc_ _ _) (Ext.alloc_ _ _)) (Ext.alloc_ _ _)) hE.out)).at_ (List.ne_nil_of_length_pos (by omega))
      obtain ⟨B, cB, hRB, k0, k1, k2, k3⟩ := els_msg hc k hlt
      have hbl := hb'.out _ (List.getElem_mem hlt)
      have R := Lib.hid hRB
      clear hc hRB
      go_wp2_with fail
      refine (sMsgC _ _ _ _ _ _ _ l[k].body rfl R.out (by omega)).mono ?_
      rintro e w4 ⟨g', A', c', rfl, hE4, hN⟩
      have F4 := Lib.hid hE4
      have N4 := Lib.hid hN
      obtain ⟨z1, z2, z3⟩ := blk_cells (ext_blk hE4 hbox'.out)
      have r0 := z1 0
      have r1 := z1 1
      simp at r0 r1
      have hL := Lib.hid (cel_lit (w4.alloc (.cells #[.int .i64 l[k].to, .int .i64 l[k].cat, .int .i64 l[k].dl, .slice A' l[k].body.length c'] 59)) 59 #[.int .i64 l[k].to, .int .i64 l[k].cat, .int .i64 l[k].dl, .slice A' l[k].body.length c'])
      rw [World.size_alloc] at hL
      have hG := Lib.hid (Ext.trans F4.out (Ext.trans (Ext.alloc_ w4 (.cells #[.int .i64 l[k].to, .int .i64 l[k].cat, .int .i64 l[k].dl, .slice A' l[k].body.length c'] 59)) (Ext.alloc_ _ (.cells #[.int .i64 l[k].to, .int .i64 l[k].cat, .int .i64 l[k].dl, .slice A' l[k].body.length c'] 59))))
      have hel := Lib.hid (((N4.out.mono (B' := w.heap.size + 1 + 1) (by omega)).el (K := kMsg) (x := l[k])).ext (Ext.trans (Ext.alloc_ w4 (.cells #[.int .i64 l[k].to, .int .i64 l[k].cat, .int .i64 l[k].dl, .slice A' l[k].body.length c'] 59)) (Ext.alloc_ _ (.cells #[.int .i64 l[k].to, .int .i64 l[k].cat, .int .i64 l[k].dl, .slice A' l[k].body.length c'] 59))))
      have hsz := Lib.hid hG.out.size
      have hone := Lib.hid (msg_one l[k] A' l[k].body.length c')
      clear hE4 hN z1 x2 x3 y2 p0 q0 q1
      go_wp2_with (at_builtin; refine wpPush (K := kMsg) (.tmp 23) (.tmp 25) elMsg rfl rfl (w.heap.size + 1 + 1) (w1 := ((w.alloc (.cells #[.slice (some ⟨b, off, none⟩) l.length c, .int .i64 d] 55)).alloc (.cells #[.slice none 0 0, .int .i64 0] 55))) v (l.take k) rfl hA.out hG.out _ _ l[k] g' A' c' rfl hL.out (by simp) hone.out hel.out N4.out.2.2.1 (fun x hx => by rcases hx with hx | hx <;> rw [hx] <;> omega) (by simp; unfold maxLen; omega) (by simp; omega) (by have := hsz.out; omega) (Ext.trans (Ext.trans (Ext.alloc_ _ _) hE.out) hG.out) (by simp) ?_)
      intro v' w' hA' hE' hX1 hX'
      obtain ⟨A2, c2, hv, -⟩ := hA'.own
      obtain ⟨n2, hn2⟩ : ∃ n2, (l.take (k + 1)).length = n2 := ⟨_, rfl⟩
      rw [hn2] at hv
      subst hv
      clear hn2
      have hbx := Lib.hid (hX'.trans (ext_blk hG.out hbox'.out))
      obtain ⟨z1, z2, z3⟩ := blk_cells hbx.out
      have r0' := z1 0
      simp at r0'
      have K1 := Lib.hid (Ext.snoc hE' (by simpa using hbx.out))
      have A1 := Lib.hid hA'
      clear hL hG hel hsz hone hX1 hX' hE' z1 hA' r0 r1 k0 k1 k2 k3
      go_wp2
      go_roundw
      case rel =>
        exact ⟨k + 1, .slice A2 n2 c2, by omega, by go_num, Lib.hid (by
          have h := K1.out.boxSet 0 (.slice A2 n2 c2)
          simp only [World.size_alloc] at h
          exact h), Lib.hid (A1.out.set_ (.inr rfl) _)⟩
      case measure => simp [intOf]; omega
    · obtain rfl : k = l.length := by omega
      have hA1 := hA.out
      rw [List.take_length] at hA1
      obtain ⟨A', c', rfl, -, -, -, -⟩ := hA1.own
      have hA2 := Lib.hid hA1
      clear hA hA1
      go_wp2_with fail
      refine bodyPost_ret (v := .agg #[.slice A' l.length c', .int .i64 d]) (by clear r0 r1 p0 x2 x3 z2 z3 hA2 hE hbox' hM' hb'; simp [results, Try.results160, go_sem, q0, q1, y2, y3]) rfl ⟨A', c', rfl, ?_, ?_⟩
      · iterate 2 refine Ext.setCell_ ?_ (by simp <;> omega) _
        exact Ext.trans (Ext.trans (Ext.trans (Ext.alloc_ _ _) (Ext.alloc_ _ _)) (Ext.alloc_ _ _)) hE.out
      · have h := ((hA2.out.set_ (p := ⟨w.heap.size + 1, 0, none⟩) (.inl rfl) (.slice A' l.length c')).set_ (p := ⟨w.heap.size + 1, 1, none⟩) (.inl rfl) (.int .i64 d))
        exact h.weak (by omega) (fun x hx => hx.elim)
/-- A made row; a queue over it. -/
def SP.mkR (B : Nat) (n : Nat) (cs : Array Value) (T : TypeId) : SP :=
  { p := fun v w => ∃ G, v = .slice (some ⟨G, 0, none⟩) n n ∧ B ≤ G ∧ w.heap[G]? = some (.cells cs T (0, 0))
    st := fun v w w' hE ⟨g, h1, h2, h3⟩ => ⟨g, h1, h2, ext_blk hE h3⟩ }
def SP.mkQ (B : Nat) (n : Nat) (d : Int) (cs : Array Value) (T : TypeId) : SP :=
  { p := fun v w => ∃ G, v = .agg #[.slice (some ⟨G, 0, none⟩) n n, .int .i64 d] ∧ B ≤ G ∧ w.heap[G]? = some (.cells cs T (0, 0))
    st := fun v w w' hE ⟨g, h1, h2, h3⟩ => ⟨g, h1, h2, ext_blk hE h3⟩ }
set_option maxHeartbeats 2000000 in
theorem iCopyQ (w : World) (A : Option Addr) (n c : Nat) (d : Int) (l : List Msg) (hn : l.length = n) (hM : Els w A 4 (kE kMsg) l) (hb : ∀ m ∈ l, m.body.length ≤ 1048576) (hl : n ≤ 1048576) :
    Calls Try.prog 109 #[.agg #[.slice A n c, .int .i64 d]] w fun e w' => ∃ A' c', e = .returned (.agg #[.slice A' n c', .int .i64 d]) ∧ Ext w w' ∧ AppR kMsg 59 w' w.heap.size (fun _ => False) (.slice A' n c') l := by
  obtain ⟨cs, hcs, hmk⟩ := make_els elMsg n (by omega) (by omega)
  subst hn
  have hM' := Lib.hid hM
  have hb' := Lib.hid hb
  have hcs' := Lib.hid hcs
  clear hM hb hcs
  go_enter Try.func109, Try.ntmps109
  go_wp2_with fail
  refine wp_region_chain 8 (by kernel_rfl) (by kernel_rfl) ?_
  simp only [List.take_succ_cons, List.take_zero, List.drop_succ_cons, List.drop_zero]
  repeat (apply Chain.quiet; · (intro vs wq hEq hd; obtain ⟨hcq, hfq⟩ := bcell hEq; clear hEq hd; (try simp only [Act.put, SP.pick, SP.is, SP.box, id_eq, List.take_succ_cons, List.take_zero, List.drop_succ_cons, List.drop_zero, List.setIfInBounds_toArray, List.set_cons_zero, List.set_cons_succ]); refine growOp_go ?_; go_simp; exact ⟨Ext.refl _, rfl⟩))
  refine Chain.sp (SP.mkR (w.heap.size + 1 + 1) l.length cs 59) ?_ ?_
  · intro vs wq hEq hd
    have hz := hEq.size
    clear hd
    (try simp only [Act.put, SP.pick, SP.is, SP.box, id_eq, List.take_succ_cons, List.take_zero, List.drop_succ_cons, List.drop_zero, List.setIfInBounds_toArray, List.set_cons_zero, List.set_cons_succ])
    refine growOp_go ?_
    go_simp
    exact ⟨Ext.alloc_ _ _, wq.heap.size, rfl, by simpa using hz, new_blk1 wq cs 59⟩
  repeat (apply Chain.quiet; · (intro vs wq hEq hd; obtain ⟨hcq, hfq⟩ := bcell hEq; clear hEq hd; (try simp only [Act.put, SP.pick, SP.is, SP.box, id_eq, List.take_succ_cons, List.take_zero, List.drop_succ_cons, List.drop_zero, List.setIfInBounds_toArray, List.set_cons_zero, List.set_cons_succ]); refine growOp_go ?_; go_simp; exact ⟨Ext.refl _, rfl⟩))
  refine Chain.sp (SP.mkQ (w.heap.size + 1 + 1) l.length d cs 59) ?_ ?_
  · intro vs wq hEq hd
    obtain ⟨g7, e7, hg7, hb7⟩ := hd 3 (by kernel_rfl)
    have hb8 := Lib.hid hb7
    clear hd hb7
    simp only [Act.put, SP.pick, SP.is, SP.box, id_eq, List.take_succ_cons, List.take_zero, List.drop_succ_cons, List.drop_zero, List.setIfInBounds_toArray, List.set_cons_zero, List.set_cons_succ]
    rw [e7]
    refine growOp_go ?_
    go_simp
    exact ⟨Ext.refl _, g7, rfl, hg7, hb8.out⟩
  refine Chain.sp (SP.box (w.heap.size + 1 + 1) #[.slice none 0 0, .int .i64 0] 55) ?_ ?_
  · intro vs wq hEq hd
    have hz := hEq.size
    clear hd
    (try simp only [Act.put, SP.pick, SP.is, SP.box, id_eq, List.take_succ_cons, List.take_zero, List.drop_succ_cons, List.drop_zero, List.setIfInBounds_toArray, List.set_cons_zero, List.set_cons_succ])
    refine growOp_go ?_
    go_simp
    exact ⟨Ext.alloc_ _ _, by simpa using hz, by first | exact new_blk1 wq _ _ | exact (Array.getElem?_eq_some_iff.1 (new_blk1 wq _ _)).2⟩
  refine Chain.done ?_
  intro vs w1 hE1 hd1
  simp only [Act.put, SP.pick, SP.is, SP.box, id_eq, List.take_succ_cons, List.take_zero, List.drop_succ_cons, List.drop_zero, List.setIfInBounds_toArray, List.set_cons_zero, List.set_cons_succ]
  obtain ⟨G, eG, hG, bG⟩ := hd1 6
  obtain ⟨gb, eb, hgb, bb⟩ := hd1 7
  rw [eG, eb]
  simp only [SP.mkQ, SP.box, id_eq]
  have hne : G ≠ gb := by
    intro h
    subst h
    rw [bG] at bb
    injection bb with bb
    injection bb with _ h2 _
    exact absurd h2 (by decide)
  have H1 := Lib.hid hE1
  have F0 := Lib.hid (FilT.zero (K := kMsg) (l := l) (B := w.heap.size + 1 + 1) hG bG hcs'.out)
  obtain ⟨y1, y2, y3⟩ := blk_cells bb
  have q0 := y1 0
  have q1 := y1 1
  simp at q0 q1
  obtain ⟨x1, x2, x3⟩ := blk_cells (ext_blk (Ext.trans (Ext.alloc_ _ _) hE1) (new_blk1 w _ _))
  have p0 := x1 0
  simp at p0
  have hbb := Lib.hid (show ((w1.setCell ⟨gb, 0, none⟩ (.slice (some ⟨G, 0, none⟩) l.length l.length)).setCell ⟨gb, 1, none⟩ (.int .i64 d)).heap[gb]? = some (.cells #[.slice (some ⟨G, 0, none⟩) l.length l.length, .int .i64 d] 55 (0, 0)) from blk_set (blk_set bb 0 _) 1 _)
  have hF1 := Lib.hid (show FilT kMsg 59 ((w1.setCell ⟨gb, 0, none⟩ (.slice (some ⟨G, 0, none⟩) l.length l.length)).setCell ⟨gb, 1, none⟩ (.int .i64 d)) (w.heap.size + 1 + 1) G l.length l 0 from FilT.zero hG (by rw [Below.heap_setCell _ _ _ _ (by simpa using hne), Below.heap_setCell _ _ _ _ (by simpa using hne)]; exact bG) hcs'.out)
  have hEE := Lib.hid ((H1.out.setCell_ (p := ⟨gb, 0, none⟩) (by simp; omega) (.slice (some ⟨G, 0, none⟩) l.length l.length)).setCell_ (p := ⟨gb, 1, none⟩) (by simp; omega) (.int .i64 d))
  clear hd1 eG eb bG bb y1 x1 F0 hE1 H1 hmk
  have hbb2 := hbb
  go_wp2
  clear q0 q1 p0 x2 x3 y2 y3
  go_loopw [16] (fun i wr => ∃ (k : Nat), k ≤ l.length ∧ i = .int .i64 k ∧ Hid (Ext ((w.alloc (.cells #[.slice A l.length c, .int .i64 d] 55)).alloc (.cells #[.slice none 0 0, .int .i64 0] 55)) wr) ∧ Hid (wr.heap[gb]? = some (.cells #[.slice (some ⟨G, 0, none⟩) l.length l.length, .int .i64 d] 55 (0, 0))) ∧ Hid (FilT kMsg 59 wr (w.heap.size + 1 + 1) G l.length l k)) (fun i _ => l.length - (intOf i).toNat)
  case atStart => exact ⟨0, Nat.zero_le _, rfl, hEE, hbb, hF1⟩
  case round =>
    obtain ⟨k, hk, rfl, hE, hB, hF⟩ := hrel
    clear hbb2 hbb hF1 hEE
    obtain ⟨x1, x2, x3⟩ := blk_cells (ext_blk (Ext.trans (Ext.alloc_ _ _) hE.out) (new_blk1 w _ _))
    obtain ⟨y1, y2, y3⟩ := blk_cells (ext_blk hE.out (new_blk2 w _ _ _))
    obtain ⟨z1, z2, z3⟩ := blk_cells hB.out
    have r0 := z1 0
    have r1 := z1 1
    have q0 := y1 0
    have q1 := y1 1
    simp at r0 r1 q0 q1
    clear x1 y1 z1
    by_cases hlt : k < l.length
    · obtain ⟨b, off, rfl, hb, hc⟩ := (els_up hM'.out (Ext.trans (Ext.trans (Ext.alloc_ _ _) (Ext.alloc_ _ _)) hE.out)).at_ (List.ne_nil_of_length_pos (by omega))
      obtain ⟨B, cB, hRB, k0, k1, k2, k3⟩ := els_msg hc k hlt
      have hbl := hb'.out _ (List.getElem_mem hlt)
      have R := Lib.hid hRB
      have hgl : gb < wr.heap.size + 1 := by omega
      clear hc hRB q0 q1
      go_wp2_with fail
      have hEm := Lib.hid (Ext.alloc_ wr (.cells #[.int .i64 l[k].to, .int .i64 l[k].cat, .int .i64 l[k].dl, .slice B l[k].body.length cB] 59))
      have z4 : gb ≤ wr.heap.size := by omega
      have p0 : (0 : Int) ≤ (k : Int) := by omega
      have p1 : (k : Int) < (l.length : Int) := by omega
      refine wp_region_chain 6 (by kernel_rfl) (by kernel_rfl) ?_
      simp only [List.take_succ_cons, List.take_zero, List.drop_succ_cons, List.drop_zero]
      repeat (apply Chain.quiet; · (intro vs wq hEq hd; obtain ⟨hcq, hfq⟩ := bcell hEq; clear hEq hd; (try simp only [Act.put, SP.pick, SP.is, SP.box, id_eq, List.take_succ_cons, List.take_zero, List.drop_succ_cons, List.drop_zero, List.setIfInBounds_toArray, List.set_cons_zero, List.set_cons_succ]); refine growOp_go ?_; go_simp; exact ⟨Ext.refl _, rfl⟩))
      refine Chain.sp (SP.msgC wr.heap.size l[k].to l[k].cat l[k].dl l[k].body) ?_ ?_
      · intro vs wq hEq hd
        clear hd
        (try simp only [Act.put, SP.pick, SP.is, SP.box, id_eq, List.take_succ_cons, List.take_zero, List.drop_succ_cons, List.drop_zero, List.setIfInBounds_toArray, List.set_cons_zero, List.set_cons_succ])
        refine growOp_go ?_
        go_simp
        refine (iMsgC _ _ _ _ _ _ _ l[k].body rfl (R.out.ext (Ext.trans hEm.out hEq)) (by omega)).mono ?_
        rintro e w6 ⟨g6, A6, c6, rfl, hE6, hN6⟩
        exact ⟨_, rfl, hE6, g6, A6, c6, rfl, hN6.mono (Ext.trans hEm.out hEq).size⟩
      (apply Chain.quiet; · (intro vs wq hEq hd; obtain ⟨hcq, hfq⟩ := bcell hEq; clear hEq hd; (try simp only [Act.put, SP.pick, SP.is, SP.box, id_eq, List.take_succ_cons, List.take_zero, List.drop_succ_cons, List.drop_zero, List.setIfInBounds_toArray, List.set_cons_zero, List.set_cons_succ]); refine growOp_go ?_; go_simp; exact ⟨Ext.refl _, rfl⟩))
      refine Chain.done ?_
      intro vs w5 hE5 hd5
      simp only [Act.put, SP.pick, SP.is, SP.box, id_eq, List.take_succ_cons, List.take_zero, List.drop_succ_cons, List.drop_zero, List.setIfInBounds_toArray, List.set_cons_zero, List.set_cons_succ]
      obtain ⟨g5, A5, c5, e5, N5⟩ := hd5 4
      rw [e5]
      simp only [SP.msgC, id_eq]
      clear hd5 e5
      have F5 := Lib.hid (Ext.trans hEm.out hE5)
      obtain ⟨hu, hfz, hGl⟩ := (hF.out.ext F5.out).at_ hlt
      obtain ⟨u0, g0⟩ := hu 0 (by decide)
      obtain ⟨u1, g1⟩ := hu 1 (by decide)
      obtain ⟨u2, g2⟩ := hu 2 (by decide)
      obtain ⟨u3, g3⟩ := hu 3 (by decide)
      rw [Nat.add_zero] at g0
      simp only [show kMsg.size = 4 from rfl] at g0 g1 g2 g3
      have hok := Lib.hid (((N5.mono (B' := w.heap.size + 1 + 1) (by have := hE.out.size; simp at this; omega)).el (K := kMsg) (x := l[k])).ok (G := G) (by have h1 := N5.2.2.1; have h2 : G < wr.heap.size := (blk_cells (w := wr) hF.out.choose_spec.choose_spec.2.1).2.2; simp only; omega))
      have hgg := Lib.hid N5.2.2.1
      have hB5 := Lib.hid (ext_blk F5.out hB.out)
      clear hu hE5 N5 x2 x3 y2 y3 z2 z3 r0 r1 k0 k1 k2 k3 hgl z4
      go_wp2
      go_roundw
      case rel =>
        have hs := hF.out.step (g := g5) (A := A5) (c := c5) F5.out hlt (Nat.le_refl _) hgg.out hok.out
        refine ⟨k + 1, by omega, by go_num, Lib.hid ?_, Lib.hid ?_, Lib.hid hs⟩
        · exact setW_ext (G := G) (by simp; omega) (kMsg.hd l[k] (.slice A5 l[k].body.length c5)) w5 (k * 4) (Ext.trans hE.out F5.out)
        · rw [Below.heap_setCell _ _ _ _ (by simpa using hne.symm), Below.heap_setCell _ _ _ _ (by simpa using hne.symm), Below.heap_setCell _ _ _ _ (by simpa using hne.symm), Below.heap_setCell _ _ _ _ (by simpa using hne.symm)]
          exact hB5.out
      case measure => simp [intOf]; omega
    · obtain rfl : k = l.length := by omega
      have hA := Lib.hid (hF.out.done (by unfold maxLen; omega))
      clear hF
      go_wp2_with fail
      refine bodyPost_ret (v := .agg #[.slice (some ⟨G, 0, none⟩) l.length l.length, .int .i64 d]) (by clear r0 r1 x2 x3 z2 z3 hA hE hB hM' hb'; simp [results, Try.results109, go_sem, q0, q1, y2, y3]) rfl ⟨some ⟨G, 0, none⟩, l.length, rfl, ?_, ?_⟩
      · iterate 2 refine Ext.setCell_ ?_ (by simp <;> omega) _
        exact Ext.trans (Ext.trans (Ext.alloc_ _ _) (Ext.alloc_ _ _)) hE.out
      · obtain ⟨es, h1, h2, h3, h4⟩ := hA.out
        have hX : AppR kMsg 59 wr (w.heap.size + 1 + 1) (fun x => x = w.heap.size + 1) (.slice (some ⟨G, 0, none⟩) l.length l.length) l := ⟨es, h1, fun G' hG' => ⟨by simp [Value.ownBlock] at hG'; omega, (h2 G' hG').2⟩, fun e he h0 hx => by
          obtain ⟨_, _, q⟩ := (h2 G rfl).2.1 e he
          have := (q.resolve_left h0).2.1
          omega, h4⟩
        exact ((hX.set_ (p := ⟨w.heap.size + 1, 0, none⟩) rfl (.slice (some ⟨G, 0, none⟩) l.length l.length)).set_ (p := ⟨w.heap.size + 1, 1, none⟩) rfl (.int .i64 d)).weak (by omega) (fun x hx => hx.elim)
end Go.Proofs.Ytkmklafjcjkpdaa
