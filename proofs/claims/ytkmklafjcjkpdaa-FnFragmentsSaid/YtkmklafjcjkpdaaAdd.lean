/- A fragment is added to a list of at most one reassembly. -/
import Derived.Test.YtkmklafjcjkpdaaAdr
import Derived.Test.YtkmklafjcjkpdaaByt
namespace Go.Proofs.Ytkmklafjcjkpdaa
open Go.RowKit
set_option linter.unusedVariables false
set_option linter.unusedSimpArgs false
theorem iCopyO (w : World) (A : Option Addr) (n c : Nat) (l : List Int) (hn : l.length = n) (hr : RB w A c l) (hl : n ≤ 1073741824) :
    Calls Try.prog 137 #[.slice A n c] w fun e w' => ∃ g, e = .returned (.slice (some ⟨g, 0, none⟩) n n) ∧ Ext w w' ∧ w.heap.size ≤ g ∧ w'.heap[g]? = some (.cells (l.map (Value.int .u8)).toArray 5 (0, 0)) := by
  have hmk := fun W => make_one elByte (z := .int .u8 0) (by kernel_rfl) rfl n (by omega) (by omega) W
  subst hn
  have hC : Cel w A (l.map (Value.int .u8)) := hr.1
  have hb := Lib.hid (new_blk1 w (List.replicate l.length (Value.int .u8 0)).toArray 5)
  have hone := Lib.hid (bytes_one l)
  obtain ⟨xs, hxs⟩ : ∃ xs, xs = l.map (Value.int .u8) := ⟨_, rfl⟩
  obtain ⟨zs, hzs⟩ : ∃ zs, zs = List.replicate l.length (Value.int .u8 0) := ⟨_, rfl⟩
  rw [← hzs] at hb hmk
  rw [← hxs] at hone
  have hxl := Lib.hid (show xs.length = l.length by rw [hxs]; simp)
  have hzl := Lib.hid (show zs.length = l.length by rw [hzs]; simp)
  rw [← hxs] at hC
  have hC' := Lib.hid hC
  have hx := Lib.hid hxs
  clear hr hxs hzs hC
  go_enter Try.func137, Try.ntmps137
  go_wp2_with ((with_reducible show wpList _ _ _ (⟨some 9, _, _, _, _, _⟩ :: _) _ _); refine wpCopyB (.tmp 7) (.tmp 8) Try.underlying22 (by kernel_rfl) rfl rfl w.heap.size l.length zs xs A c rfl rfl hb.out hxl.out hzl.out (hC'.out.ext (Ext.alloc_ _ _)) hone.out (Ext.alloc_ _ _) (Nat.le_refl _) ?_)
  intro w2 hg2 hE2
  clear hmk hb
  go_wp2
  go_ret
  exact ⟨_, rfl, hE2, Nat.le_refl _, by have h := hg2; rw [hx.out] at h; exact h⟩
theorem own1 {α : Type} {K : Kind α} {w : World} {B C : Nat} {A : Option Addr} {x : α} (h : Own K w B C A [x]) : ∃ (G : Nat) (cs : Array Value) (T : TypeId) (Ab : Option Addr) (cb : Nat), A = some ⟨G, 0, none⟩ ∧ B ≤ G ∧ G < C ∧ w.heap[G]? = some (.cells cs T (0, 0)) ∧ (∀ (j : Nat) (u : Value), (K.hd x (.slice Ab (K.bd x).length cb))[j]? = some u → cs[j]? = some u) ∧ RB w Ab cb (K.bd x) := by
  rcases h with h | ⟨G, es, cs, T, h1, h2, h3, h4, h5, h6, h7⟩
  · cases h
  · obtain ⟨e, rfl⟩ : ∃ e, es = [e] := by
      have := congrArg List.length h7
      simp at this
      exact List.length_eq_one_iff.1 this
    simp at h7
    subst h7
    have hrow : rowOf K [e] = K.hd e.x (.slice e.A (K.bd e.x).length e.c) := by simp [rowOf, El.cells]
    rw [hrow] at h5
    obtain ⟨q1, q2, q3⟩ := h6.1 e (by simp)
    refine ⟨G, cs, T, e.A, e.c, h1, h2, h3, h4, h5, ?_⟩
    by_cases h0 : K.bd e.x = []
    · rw [h0]
      exact ⟨.inl rfl, q1, by simp⟩
    · obtain ⟨a, b, c, d, cs', T', f1, f2⟩ := q3.resolve_left h0
      exact NewB.rb (B := B) (g := e.g) ⟨q1, q2, b, .inr ⟨a, heap_lt f1, cs', T', f1, f2⟩⟩
def SP.blkB (B : Nat) (l : List Int) : SP :=
  { p := fun v w => ∃ g, v = .slice (some ⟨g, 0, none⟩) l.length l.length ∧ B ≤ g ∧ w.heap[g]? = some (.cells (l.map (Value.int .u8)).toArray 5 (0, 0))
    st := fun v w w' hE ⟨g, h1, h2, h3⟩ => ⟨g, h1, h2, ext_blk hE h3⟩ }
theorem blk_own {w : World} {B g : Nat} {l : List Int} (hB : B ≤ g) (h : w.heap[g]? = some (.cells (l.map (Value.int .u8)).toArray 5 (0, 0))) (hl : l.length ≤ maxLen) : w.ownsRow B 5 1 (.slice (some ⟨g, 0, none⟩) l.length l.length) l.length (l.map (Value.int .u8)) :=
  ⟨by simp, .inr ⟨g, l.length, _, rfl, hB, h, Nat.le_refl _, hl, by simp, by simp; exact List.take_of_length_le (by simp)⟩⟩
set_option maxHeartbeats 1000000 in
theorem iAddA (w : World) (kd fm to sq : Int) (re : Bool) (du : Int) (A0 : Option Addr) (c0 : Nat) (Ab : Option Addr) (cb : Nat) (now : Int) (bl : List Int) (hr : RB w Ab cb bl) (hl : bl.length ≤ 1048576) :
    Calls Try.prog 85 #[.slice A0 0 c0, .agg #[.int .i64 kd, .int .i64 fm, .int .i64 to, .int .i64 sq, .int .i64 0, .bool true, .bool re, .int .i64 du, .slice Ab bl.length cb], .int .i64 now] w fun e w' => ∃ (A' : Option Addr) (c' : Nat) (B' : Option Addr) (cB' : Nat), e = .returned (.tuple #[.slice A' 1 c', .slice B' 0 cB', .bool false]) ∧ Ext w w' ∧ Els w' A' 5 (kE kRea) [({ frm := fm, sq := sq, nx := 1, body := bl, st := now } : Rea)] := by
  have b1 := Lib.hid (new_blk1 w #[.int .i64 kd, .int .i64 fm, .int .i64 to, .int .i64 sq, .int .i64 0, .bool true, .bool re, .int .i64 du, .slice Ab bl.length cb] 66)
  have E1 := Lib.hid (Ext.alloc_ w (.cells #[.int .i64 kd, .int .i64 fm, .int .i64 to, .int .i64 sq, .int .i64 0, .bool true, .bool re, .int .i64 du, .slice Ab bl.length cb] 66))
  have R1 := Lib.hid (hr.ext E1.out)
  clear hr
  obtain ⟨x1, x2, x3⟩ := blk_cells (b1.out)
  have p0 := x1 0
  have p1 := x1 1
  have p2 := x1 2
  have p3 := x1 3
  have p4 := x1 4
  have p5 := x1 5
  have p6 := x1 6
  have p7 := x1 7
  have p8 := x1 8
  simp at p0 p1 p2 p3 p4 p5 p6 p7 p8
  clear x1
  go_enter Try.func85, Try.ntmps85
  go_wp2_with fail
  refine (iFnd0 _ _ _ _).mono ?_
  rintro e w2 ⟨rfl, h2⟩
  have E2 := Lib.hid (Ext.trans E1.out h2)
  have b2 := Lib.hid (ext_blk h2 b1.out)
  have R2 := Lib.hid (R1.out.ext h2)
  clear E1 b1 R1 p0 p1 p2 p3 p4 p5 p6 p7 p8 x2 x3
  obtain ⟨x1, x2, x3⟩ := blk_cells (b2.out)
  have p0 := x1 0
  have p1 := x1 1
  have p2 := x1 2
  have p3 := x1 3
  have p4 := x1 4
  have p5 := x1 5
  have p6 := x1 6
  have p7 := x1 7
  have p8 := x1 8
  simp at p0 p1 p2 p3 p4 p5 p6 p7 p8
  clear x1
  go_wp2_with fail
  refine (iCpA _ _ 0 _ [] rfl (.inl rfl) (by simp) (by omega)).mono ?_
  rintro e w3 ⟨v3, rfl, h3, hA3⟩
  have A3 := Lib.hid hA3
  have F3 := Lib.hid h3
  have E2k := Lib.hid E2.out
  have E3 := Lib.hid (Ext.trans E2.out h3)
  have b3 := Lib.hid (ext_blk h3 b2.out)
  have R3 := Lib.hid (R2.out.ext h3)
  clear E2 b2 R2 p0 p1 p2 p3 p4 p5 p6 p7 p8 x2 x3
  clear hA3
  obtain ⟨x1, x2, x3⟩ := blk_cells (b3.out)
  have p0 := x1 0
  have p1 := x1 1
  have p2 := x1 2
  have p3 := x1 3
  have p4 := x1 4
  have p5 := x1 5
  have p6 := x1 6
  have p7 := x1 7
  have p8 := x1 8
  simp at p0 p1 p2 p3 p4 p5 p6 p7 p8
  clear x1
  go_wp2_with fail
  refine (iStart _ _ _ _ _ _ _ _ _ _ _ _ _ bl rfl R3.out (by omega)).mono ?_
  rintro e w4 ⟨g, A4, c4, rfl, h4, hN4⟩
  obtain ⟨m, hm⟩ : ∃ m : Rea, m = { frm := fm, sq := sq, nx := 1, body := bl, st := now } := ⟨_, rfl⟩
  have HM := Lib.hid hm
  have m1 : m.frm = fm := by rw [hm]
  have m2 : m.sq = sq := by rw [hm]
  have m3 : m.nx = 1 := by rw [hm]
  have m4 : m.body = bl := by rw [hm]
  have m5 : m.st = now := by rw [hm]
  rw [← m4] at hN4
  have hcell : (#[.int .i64 fm, .int .i64 sq, .int .i64 1, .slice A4 bl.length c4, .int .i64 now] : Array Value) = #[.int .i64 m.frm, .int .i64 m.sq, .int .i64 m.nx, .slice A4 m.body.length c4, .int .i64 m.st] := by rw [m1, m2, m3, m4, m5]
  have e5 := Ext.alloc_ w4 (.cells #[.int .i64 m.frm, .int .i64 m.sq, .int .i64 m.nx, .slice A4 m.body.length c4, .int .i64 m.st] 114)
  have hL0 := cel_lit w4 114 #[.int .i64 m.frm, .int .i64 m.sq, .int .i64 m.nx, .slice A4 m.body.length c4, .int .i64 m.st]
  rw [← hcell] at e5 hL0
  have hL := Lib.hid (show Cel (w4.alloc (.cells #[.int .i64 fm, .int .i64 sq, .int .i64 1, .slice A4 bl.length c4, .int .i64 now] 114)) (some ⟨w4.heap.size, 0, none⟩) (kRea.hd m (.slice A4 (kRea.bd m).length c4)) by
    have h := hL0
    rw [hcell] at h ⊢
    exact h)
  have hG := Lib.hid (Ext.trans h4 e5)
  have hel := Lib.hid (((hN4.mono (B' := w2.heap.size) F3.out.size).el (K := kRea) (x := m)).ext e5)
  have hgg := Lib.hid hN4.2.2.1
  have hone := Lib.hid (rea_one m A4 (kRea.bd m).length c4)
  have hsz := Lib.hid (show w2.heap.size ≤ w4.heap.size from Nat.le_trans F3.out.size h4.size)
  clear hm m1 m2 m3 m4 m5 hcell e5 hL0 hN4 h4 p0 p1 p2 p3 p4 p5 p6 p7 p8 x2 x3
  go_wp2_with (at_builtin; refine wpPush (K := kRea) (.tmp 26) (.tmp 30) elRea rfl rfl w2.heap.size (w1 := w2) v3 [] rfl A3.out hG.out _ _ m g A4 c4 rfl hL.out (by simp) hone.out hel.out hgg.out (fun x hx => hx.elim) (by unfold maxLen; simp) (by simp) (by have := hsz.out; simp; omega) (Ext.trans F3.out hG.out) (Nat.le_refl _) ?_)
  intro v5 w6 hA5 hE5
  obtain ⟨A5, c5, hv5, -, -, hO5, -⟩ := hA5.own
  have hv5' : v5 = .slice A5 1 c5 := hv5
  subst hv5'
  have O5 := Lib.hid (show Own kRea w6 w2.heap.size w6.heap.size A5 [m] from hO5)
  have G5 := Lib.hid hE5
  clear hv5 hA5 hO5 hE5 hG hL hel hgg hone
  go_wp2_with fail
  refine bodyPost_ret (v := .tuple #[.slice A5 1 c5, .slice (some ⟨w6.heap.size, 0, none⟩) 0 0, .bool false]) (by clear O5 G5 E2k HM E3 b3 R3 A3 F3 hsz; simp [results, Try.results85, go_sem, *]) rfl ⟨A5, c5, _, _, rfl, ?_, ?_⟩
  · exact Ext.trans (Ext.trans E2k.out G5.out) (Ext.alloc_ _ _)
  · rw [← HM.out]
    exact els_up O5.out.els (Ext.alloc_ _ _)
set_option maxHeartbeats 1000000 in
theorem iAddB (w : World) (kd fm to sq : Int) (re : Bool) (du : Int) (A0 : Option Addr) (c0 : Nat) (Ab : Option Addr) (cb : Nat) (now : Int) (bl : List Int) (hr : RB w Ab cb bl) (hl : bl.length ≤ 1048576) :
    Calls Try.prog 85 #[.slice A0 0 c0, .agg #[.int .i64 kd, .int .i64 fm, .int .i64 to, .int .i64 sq, .int .i64 0, .bool false, .bool re, .int .i64 du, .slice Ab bl.length cb], .int .i64 now] w fun e w' => ∃ (A' : Option Addr) (c' : Nat) (B' : Option Addr) (cB' : Nat), e = .returned (.tuple #[.slice A' 0 c', .slice B' bl.length cB', .bool true]) ∧ Ext w w' ∧ RB w' B' cB' bl := by
  have b1 := Lib.hid (new_blk1 w #[.int .i64 kd, .int .i64 fm, .int .i64 to, .int .i64 sq, .int .i64 0, .bool false, .bool re, .int .i64 du, .slice Ab bl.length cb] 66)
  have E1 := Lib.hid (Ext.alloc_ w (.cells #[.int .i64 kd, .int .i64 fm, .int .i64 to, .int .i64 sq, .int .i64 0, .bool false, .bool re, .int .i64 du, .slice Ab bl.length cb] 66))
  have R1 := Lib.hid (hr.ext E1.out)
  clear hr
  obtain ⟨x1, x2, x3⟩ := blk_cells (b1.out)
  have p0 := x1 0
  have p1 := x1 1
  have p2 := x1 2
  have p3 := x1 3
  have p4 := x1 4
  have p5 := x1 5
  have p6 := x1 6
  have p7 := x1 7
  have p8 := x1 8
  simp at p0 p1 p2 p3 p4 p5 p6 p7 p8
  clear x1
  go_enter Try.func85, Try.ntmps85
  go_wp2_with fail
  refine (iFnd0 _ _ _ _).mono ?_
  rintro e w2 ⟨rfl, h2⟩
  have E2 := Lib.hid (Ext.trans E1.out h2)
  have b2 := Lib.hid (ext_blk h2 b1.out)
  have R2 := Lib.hid (R1.out.ext h2)
  clear E1 b1 R1 p0 p1 p2 p3 p4 p5 p6 p7 p8 x2 x3
  obtain ⟨x1, x2, x3⟩ := blk_cells (b2.out)
  have p0 := x1 0
  have p1 := x1 1
  have p2 := x1 2
  have p3 := x1 3
  have p4 := x1 4
  have p5 := x1 5
  have p6 := x1 6
  have p7 := x1 7
  have p8 := x1 8
  simp at p0 p1 p2 p3 p4 p5 p6 p7 p8
  clear x1
  go_wp2_with fail
  refine (iCpA _ _ 0 _ [] rfl (.inl rfl) (by simp) (by omega)).mono ?_
  rintro e w3 ⟨v3, rfl, h3, hA3⟩
  obtain ⟨A3, c3, hv3, -, -, -, -⟩ := hA3.own
  have hv3' : v3 = .slice A3 0 c3 := hv3
  subst hv3'
  have E3 := Lib.hid (Ext.trans E2.out h3)
  have b3 := Lib.hid (ext_blk h3 b2.out)
  have R3 := Lib.hid (R2.out.ext h3)
  clear E2 b2 R2 p0 p1 p2 p3 p4 p5 p6 p7 p8 x2 x3
  clear hA3 hv3
  obtain ⟨x1, x2, x3⟩ := blk_cells (b3.out)
  have p0 := x1 0
  have p1 := x1 1
  have p2 := x1 2
  have p3 := x1 3
  have p4 := x1 4
  have p5 := x1 5
  have p6 := x1 6
  have p7 := x1 7
  have p8 := x1 8
  simp at p0 p1 p2 p3 p4 p5 p6 p7 p8
  clear x1
  go_wp2_with fail
  refine (iCopyB _ _ _ _ bl rfl R3.out (by omega)).mono ?_
  rintro e w4 ⟨g, A4, c4, rfl, h4, hN4⟩
  have E4 := Lib.hid (Ext.trans E3.out h4)
  have N4 := Lib.hid hN4.rb
  clear h4 hN4 p0 p1 p2 p3 p4 p5 p6 p7 p8 x2 x3
  go_wp2_with fail
  refine bodyPost_ret (v := .tuple #[.slice A3 0 c3, .slice A4 bl.length c4, .bool true]) (by clear E4 N4 E3 b3 R3; simp [results, Try.results85, go_sem, *]) rfl ⟨A3, c3, A4, c4, rfl, E4.out, N4.out⟩
set_option maxHeartbeats 1000000 in
theorem iAddC (w : World) (kd fm to sq : Int) (re : Bool) (du : Int) (A0 : Option Addr) (c0 : Nat) (Ab : Option Addr) (cb : Nat) (now : Int) (bl : List Int) (fr : Int) (mo : Bool) (hfr : 0 < fr) (hr : RB w Ab cb bl) (hl : bl.length ≤ 1048576) :
    Calls Try.prog 85 #[.slice A0 0 c0, .agg #[.int .i64 kd, .int .i64 fm, .int .i64 to, .int .i64 sq, .int .i64 fr, .bool mo, .bool re, .int .i64 du, .slice Ab bl.length cb], .int .i64 now] w fun e w' => ∃ (A' : Option Addr) (c' : Nat) (B' : Option Addr) (cB' : Nat), e = .returned (.tuple #[.slice A' 0 c', .slice B' 0 cB', .bool false]) ∧ Ext w w' := by
  have hf0 : ¬ fr = 0 := by omega
  have hf1 : ¬ fr < 0 := by omega
  have b1 := Lib.hid (new_blk1 w #[.int .i64 kd, .int .i64 fm, .int .i64 to, .int .i64 sq, .int .i64 fr, .bool mo, .bool re, .int .i64 du, .slice Ab bl.length cb] 66)
  have E1 := Lib.hid (Ext.alloc_ w (.cells #[.int .i64 kd, .int .i64 fm, .int .i64 to, .int .i64 sq, .int .i64 fr, .bool mo, .bool re, .int .i64 du, .slice Ab bl.length cb] 66))
  have R1 := Lib.hid (hr.ext E1.out)
  clear hr
  obtain ⟨x1, x2, x3⟩ := blk_cells (b1.out)
  have p0 := x1 0
  have p1 := x1 1
  have p2 := x1 2
  have p3 := x1 3
  have p4 := x1 4
  have p5 := x1 5
  have p6 := x1 6
  have p7 := x1 7
  have p8 := x1 8
  simp at p0 p1 p2 p3 p4 p5 p6 p7 p8
  clear x1
  go_enter Try.func85, Try.ntmps85
  go_wp2_with fail
  refine (iFnd0 _ _ _ _).mono ?_
  rintro e w2 ⟨rfl, h2⟩
  have E2 := Lib.hid (Ext.trans E1.out h2)
  have b2 := Lib.hid (ext_blk h2 b1.out)
  have R2 := Lib.hid (R1.out.ext h2)
  clear E1 b1 R1 p0 p1 p2 p3 p4 p5 p6 p7 p8 x2 x3
  obtain ⟨x1, x2, x3⟩ := blk_cells (b2.out)
  have p0 := x1 0
  have p1 := x1 1
  have p2 := x1 2
  have p3 := x1 3
  have p4 := x1 4
  have p5 := x1 5
  have p6 := x1 6
  have p7 := x1 7
  have p8 := x1 8
  simp at p0 p1 p2 p3 p4 p5 p6 p7 p8
  clear x1
  go_wp2_with fail
  refine (iCpA _ _ 0 _ [] rfl (.inl rfl) (by simp) (by omega)).mono ?_
  rintro e w3 ⟨v3, rfl, h3, hA3⟩
  obtain ⟨A3, c3, hv3, -, -, -, -⟩ := hA3.own
  have hv3' : v3 = .slice A3 0 c3 := hv3
  subst hv3'
  have E3 := Lib.hid (Ext.trans E2.out h3)
  have b3 := Lib.hid (ext_blk h3 b2.out)
  have R3 := Lib.hid (R2.out.ext h3)
  clear E2 b2 R2 p0 p1 p2 p3 p4 p5 p6 p7 p8 x2 x3
  clear hA3 hv3
  obtain ⟨x1, x2, x3⟩ := blk_cells (b3.out)
  have p0 := x1 0
  have p1 := x1 1
  have p2 := x1 2
  have p3 := x1 3
  have p4 := x1 4
  have p5 := x1 5
  have p6 := x1 6
  have p7 := x1 7
  have p8 := x1 8
  simp at p0 p1 p2 p3 p4 p5 p6 p7 p8
  clear x1
  go_wp2_with fail
  refine bodyPost_ret (v := .tuple #[.slice A3 0 c3, .slice (some ⟨w3.heap.size, 0, none⟩) 0 0, .bool false]) (by clear E3 b3 R3; simp [results, Try.results85, go_sem, *]) rfl ⟨A3, c3, _, _, rfl, Ext.trans E3.out (Ext.alloc_ _ _)⟩
end Go.Proofs.Ytkmklafjcjkpdaa
