/- Seen frames remembered: copies of rows without bodies, one element set or added. -/
import Derived.Test.YtkmklafjcjkpdaaLaw
import Derived.Test.YtkmklafjcjkpdaaCpy
namespace Go.Proofs.Ytkmklafjcjkpdaa
open Go.RowKit
set_option linter.unusedVariables false
set_option linter.unusedSimpArgs false

theorem run_copyS {P : Program} (w : World) (dT sT ty elem : TypeId) (s : Nat) (g dCap : Nat) (a : Addr) (n sCap : Nat) (cur : Array Value) (t : TypeId) (cs : List Value)
    (hu : P.underlying dT = some (.slice elem)) (hs : (P.info? elem).map (·.size) = some s) (hg : w.heap[g]? = some (.cells cur t (0, 0))) (hn : cs.length = n * s)
    (hsrc : ∀ j v, cs[j]? = some v → w.cell? (a.add j) = some v) (hfit : cs.length = cur.size) (h1 : ∀ v ∈ cs, v.oneCell' = true) :
    (Builtin.copy_ #[dT, sT] ty #[.slice (some ⟨g, 0, none⟩) n dCap, .slice (some a) n sCap]).run P w = .ok (goInt n) (w.setRow g cs.toArray) := by
  have hl := run_loadCells_list (P := P) w a cs hsrc
  have hst := run_storeCells_at P g 0 t cs 0 cur w hg (by simp; omega) h1
  cases hq : P.info? elem with
  | none => simp [hq] at hs
  | some i =>
    have hi : i.size = s := by simpa [hq] using hs
    have hd : cur.toList.drop cs.length = [] := List.drop_eq_nil_of_le (by simp; omega)
    simp only [Nat.zero_add, List.take_zero, List.nil_append, hd, List.append_nil] at hst
    simp [Builtin.copy_, run_underlying hu, Builtin.lenOf, Builtin.firstCells, sizeOf, typeInfo, hq, hi, ← hn, hl, hst]
theorem run_copyS0 {P : Program} (w : World) (dT sT ty elem : TypeId) (A A' : Option Addr) (dCap sCap : Nat) (hu : P.underlying dT = some (.slice elem)) (hs : ∃ s, (P.info? elem).map (·.size) = some s) :
    (Builtin.copy_ #[dT, sT] ty #[.slice A 0 dCap, .slice A' 0 sCap]).run P w = .ok (goInt 0) w := by
  obtain ⟨s, hs⟩ := hs
  cases hq : P.info? elem with
  | none => simp [hq] at hs
  | some i =>
    cases A <;> cases A' <;> simp [Builtin.copy_, run_underlying hu, Builtin.lenOf, Builtin.firstCells, sizeOf, typeInfo, hq, storeCells, loadCells, loadCellsFrom]
/-- copy of a whole row into a new one of the same length. -/
theorem wpCopyS {P : Program} {ops : Array Oper} {rest : List Oper} {o : Oper} {a : Act} {w : World} {Q : Exit → Act → World → Prop} (d s : Operand) {T e : TypeId} {size : Nat} (hu : P.underlying T = some (.slice e)) (hsz : (P.info? e).map (·.size) = some size) (hgd : o.guard = none)
    (ho : o.op = .call { callee := .builtin .copy, args := #[d, s], argTypes := #[T, T] }) (g n : Nat) (cur : Array Value) (xs : List Value) (A : Option Addr) (c : Nat) (hd : a.eval d = .slice (some ⟨g, 0, none⟩) n n) (hs : a.eval s = .slice A n c)
    (hg : w.heap[g]? = some (.cells cur e (0, 0))) (hx : xs.length = n * size) (hcur : cur.size = n * size) (hC : Cel w A xs) (hp : 0 < size) (h1 : ∀ v ∈ xs, v.oneCell' = true) {w0 : World} (hb : Ext w0 w) (hBg : w0.heap.size ≤ g)
    (h : ∀ w', Hid (w'.heap[g]? = some (.cells xs.toArray e (0, 0))) → Ext w0 w' → wpList P ops Q rest (a.put o.dst (goInt n)) w') : wpList P ops Q (o :: rest) a w := by
  refine wpList_plain hgd fun K hK => ?_
  by_cases h0 : n = 0
  · subst h0
    have hx0 : xs = [] := List.eq_nil_of_length_eq_zero (by simpa using hx)
    have hc0 : cur = #[] := Array.eq_empty_of_size_eq_zero (by simpa using hcur)
    subst hx0 hc0
    have hrun := run_copyS0 (P := P) w T T o.type e (some ⟨g, 0, none⟩) A 0 c hu ⟨size, hsz⟩
    unfold Oper.wp
    simp only [execOp, ho, resolve, invoke, builtin, Sem.run_bind, Sem.run_pure, Result.andThen_ok, List.map_toArray, List.map_cons, List.map_nil, hd, hs, hrun]
    exact hK _ _ (h w hg hb)
  · obtain ⟨b, off, rfl, e2, e3⟩ := hC.at_ (by intro h; subst h; have := Nat.mul_pos (Nat.pos_of_ne_zero h0) hp; simp only [List.length_nil] at hx; omega)
    have hrun := run_copyS (P := P) w T T o.type e size g n ⟨b, off, none⟩ n c cur e xs hu hsz hg hx (fun j v hj => by rw [add_zero_addr]; exact e3 j v hj) (by omega) h1
    unfold Oper.wp
    simp only [execOp, ho, resolve, invoke, builtin, Sem.run_bind, Sem.run_pure, Result.andThen_ok, List.map_toArray, List.map_cons, List.map_nil, hd, hs, hrun]
    exact hK _ _ (h _ (setRow_heap w g cur _ e _ hg) (below_setRow hb hBg _))

def rowS (l : List Seen) : List Value := rowOf kSeen (l.map fun s => ⟨s, 0, none, 0⟩)
theorem rowS_len (l : List Seen) : (rowS l).length = l.length * 4 := by unfold rowS; rw [rowOf_len]; simp; rfl
theorem rowS_one (l : List Seen) : ∀ u ∈ rowS l, u.oneCell' = true := by
  intro u hu
  simp only [rowS, rowOf, List.mem_flatten, List.mem_map] at hu
  obtain ⟨cs, ⟨e, _, rfl⟩, hu⟩ := hu
  simp [El.cells, kSeen] at hu
  rcases hu with rfl | rfl | rfl | rfl <;> rfl
theorem els_cel {w : World} {A : Option Addr} {l : List Seen} (h : Els w A 4 (kE kSeen) l) : Cel w A (rowS l) := by
  rcases h with h | ⟨b, off, h1, h2, h3⟩
  · subst h; exact .inl rfl
  · refine .inr ⟨b, off, h1, h2, fun j u hu => ?_⟩
    have hj : j < l.length * 4 := by
      rcases Nat.lt_or_ge j (l.length * 4) with h | h
      · exact h
      · rw [List.getElem?_eq_none (by rw [rowS_len]; exact h)] at hu
        cases hu
    have hi : j / 4 < l.length := by omega
    obtain ⟨cs, ⟨A', c', rfl, _⟩, h5⟩ := h3 (j / 4) hi
    have hr := rowOf_get (K := kSeen) (es := l.map fun s => (⟨s, 0, none, 0⟩ : El Seen)) (j / 4) (j % 4) (by simpa using hi) (show j % 4 < 4 by omega)
    have hjj : j / 4 * kSeen.size + j % 4 = j := by show j / 4 * 4 + j % 4 = j; omega
    rw [hjj] at hr
    unfold rowS at hu
    rw [hr] at hu
    have := h5 (j % 4) u (by simpa [El.cells, kSeen] using hu)
    rw [show off + j = off + j / 4 * 4 + j % 4 by omega]
    exact this
theorem AppR.seen {T : TypeId} {w : World} {B : Nat} {v : Value} {n : Nat} {l : List Seen} (h : w.ownsRow B T 4 v n (rowS l)) : AppR kSeen T w B (fun _ => False) v l := by
  have hn : n = l.length := by have := h.1; rw [rowS_len] at this; omega
  subst hn
  refine ⟨l.map fun s => ⟨s, 0, none, 0⟩, by simpa [rowS, show kSeen.size = 4 from rfl] using h, fun G hG => ⟨fun h => h, ?_, ?_⟩, fun e he h0 => absurd rfl h0, by simp [Function.comp_def]⟩
  · intro e he
    obtain ⟨s, _, rfl⟩ := List.mem_map.1 he
    exact kSeen.ok _ _ _ _ _ _
  · exact List.pairwise_iff_getElem.2 fun i j hi hj hlt h0 => absurd rfl h0
def remS (l : List Seen) (fm sq fr ca : Int) : List Seen := if fnd l fm ca < 0 then l ++ [⟨fm, ca, sq, fr⟩] else l.set (fnd l fm ca).toNat ⟨fm, ca, sq, fr⟩
theorem remS_len (l : List Seen) (fm sq fr ca : Int) : (remS l fm sq fr ca).length ≤ l.length + 1 := by unfold remS; split <;> simp
theorem seen_one (m : Seen) : ∀ u ∈ kSeen.hd m (.slice none 0 0), u.oneCell' = true := by
  intro u hu
  simp [kSeen] at hu
  rcases hu with rfl | rfl | rfl | rfl <;> rfl
theorem seen_new {w : World} {B g : Nat} (s : Seen) : (⟨s, g, none, 0⟩ : El Seen).new kSeen w B := ⟨fun _ => rfl, Nat.le_refl _, .inl rfl⟩
theorem iCopyS (w : World) (A : Option Addr) (n c : Nat) (l : List Seen) (hn : l.length = n) (hM : Els w A 4 (kE kSeen) l) (hl : n ≤ 1048577) :
    Calls Try.prog 112 #[.slice A n c] w fun e w' => ∃ A' c', e = .returned (.slice A' n c') ∧ Ext w w' ∧ AppR kSeen 131 w' w.heap.size (fun _ => False) (.slice A' n c') l := by
  obtain ⟨cs, hcs, hmk⟩ := make_els elSeen n (by omega) (by omega)
  subst hn
  have hC := Lib.hid ((els_cel hM).ext (Ext.alloc_ w (.cells cs 131)))
  have hb := Lib.hid (new_blk1 w cs 131)
  have hcs' := Lib.hid hcs
  have hone := Lib.hid (rowS_one l)
  have hln := Lib.hid (rowS_len l)
  obtain ⟨xs, hxs⟩ : ∃ xs, xs = rowS l := ⟨_, rfl⟩
  rw [← hxs] at hC hone hln
  have hx := Lib.hid hxs
  clear hM hcs hxs
  go_enter Try.func112, Try.ntmps112
  go_wp2_with ((with_reducible show wpList _ _ _ (⟨some 9, _, _, _, _, _⟩ :: _) _ _); refine wpCopyS (.tmp 7) (.tmp 8) Try.underlying64 (by kernel_rfl) rfl rfl w.heap.size l.length cs xs A c rfl rfl hb.out hln.out hcs'.out hC.out (by decide) hone.out (Ext.alloc_ _ _) (Nat.le_refl _) ?_)
  intro w2 hg2 hE2
  have hA := Lib.hid (show AppR kSeen 131 w2 w.heap.size (fun _ => False) (.slice (some ⟨w.heap.size, 0, none⟩) l.length l.length) l from by
    refine AppR.seen (n := l.length) ⟨rowS_len l, .inr ⟨w.heap.size, l.length, xs.toArray, rfl, Nat.le_refl _, hg2, Nat.le_refl _, by unfold maxLen; omega, by simpa using hln.out, ?_⟩⟩
    rw [hx.out, List.take_of_length_le (by simp [rowS_len])])
  clear hmk hb hg2
  go_wp2
  go_ret
  exact ⟨_, _, rfl, hE2, hA.out⟩
/-- Element k of a row is stored whole. -/
theorem own_set4 {w : World} {B C G : Nat} {T : TypeId} {es : List (El Seen)} (h : OwnE kSeen w B C G T es) {i : Nat} (hi : i < es.length) (x y z u : Int) {l : List Seen} (hm : es.map (·.x) = l) :
    Own kSeen ((((w.setCell ⟨G, i * 4, none⟩ (.int .i64 x)).setCell ⟨G, i * 4 + 1, none⟩ (.int .i64 y)).setCell ⟨G, i * 4 + 2, none⟩ (.int .i64 z)).setCell ⟨G, i * 4 + 3, none⟩ (.int .i64 u)) B C (some ⟨G, 0, none⟩) (l.set i ⟨x, y, z, u⟩) := by
  have h1 := (ownE_seen3 h hi x y z u).own
  rwa [map_set_x, hm] at h1
theorem own_set2 {w : World} {B C G : Nat} {T : TypeId} {es : List (El Seen)} (h : OwnE kSeen w B C G T es) {i : Nat} (hi : i < es.length) (z u : Int) {l : List Seen} (hm : es.map (·.x) = l) (hi' : i < l.length) :
    Own kSeen ((w.setCell ⟨G, i * 4 + 2, none⟩ (.int .i64 z)).setCell ⟨G, i * 4 + 3, none⟩ (.int .i64 u)) B C (some ⟨G, 0, none⟩) (l.set i ⟨l[i].frm, l[i].cat, z, u⟩) := by
  have hx : es[i].x = l[i] := by subst hm; simp
  have h2 := h.setHd i hi 2 (by decide) ⟨es[i].x.frm, es[i].x.cat, z, es[i].x.fr⟩ (.int .i64 z) (by simp [kSeen]) (fun v => by simp [kSeen])
  have h3 := h2.setHd i (by simpa using hi) 3 (by decide) ⟨es[i].x.frm, es[i].x.cat, z, u⟩ (.int .i64 u) (by simp [kSeen]) (fun v => by simp [kSeen])
  have h4 := h3.own
  simp only [show kSeen.size = 4 from rfl] at h4
  rw [map_set_x, map_set_x, List.set_set, hm, hx] at h4
  exact h4
set_option maxHeartbeats 1000000 in
theorem iRem (w : World) (kd fm to sq fr : Int) (mo re : Bool) (du : Int) (A A0 : Option Addr) (n c n0 c0 : Nat) (ca : Int) (l : List Seen) (hn : l.length = n0) (hM : Els w A0 4 (kE kSeen) l) (hl : n0 ≤ 1048576) :
    Calls Try.prog 113 #[.slice A0 n0 c0, .agg #[.int .i64 kd, .int .i64 fm, .int .i64 to, .int .i64 sq, .int .i64 fr, .bool mo, .bool re, .int .i64 du, .slice A n c], .int .i64 ca] w fun e w' => ∃ A' c', e = .returned (.slice A' (remS l fm sq fr ca).length c') ∧ Ext w w' ∧ Own kSeen w' w.heap.size w'.heap.size A' (remS l fm sq fr ca) := by
  subst hn
  have hM' := Lib.hid (els_up hM (Ext.alloc_ w (.cells #[.int .i64 kd, .int .i64 fm, .int .i64 to, .int .i64 sq, .int .i64 fr, .bool mo, .bool re, .int .i64 du, .slice A n c] 66)))
  have E0 := Lib.hid (Ext.alloc_ w (.cells #[.int .i64 kd, .int .i64 fm, .int .i64 to, .int .i64 sq, .int .i64 fr, .bool mo, .bool re, .int .i64 du, .slice A n c] 66))
  have b1 := Lib.hid (new_blk1 w #[.int .i64 kd, .int .i64 fm, .int .i64 to, .int .i64 sq, .int .i64 fr, .bool mo, .bool re, .int .i64 du, .slice A n c] 66)
  clear hM
  rcases fnd_range l fm ca with hf | ⟨k, hk, hf, hkf, hkc⟩
  · have hR := Lib.hid (show remS l fm sq fr ca = l ++ [⟨fm, ca, sq, fr⟩] by unfold remS; rw [hf]; rfl)
    have hf' := Lib.hid hf
    clear hf
    go_enter Try.func113, Try.ntmps113
    go_wp2_with fail
    refine (iCopyS _ _ _ _ l rfl hM'.out (by omega)).mono ?_
    rintro e w1 ⟨A1, c1, rfl, h1, hA1⟩
    have E1 := Lib.hid (Ext.trans E0.out h1)
    have F1 := Lib.hid hA1
    have hO := Lib.hid (show Els w1 A1 4 (kE kSeen) l from by
      obtain ⟨A2, c2, e2, _, _, h3, _⟩ := hA1.own
      injection e2 with e2
      subst e2
      exact h3.els)
    obtain ⟨x1, x2, x3⟩ := blk_cells (ext_blk h1 b1.out)
    have H1 := Lib.hid h1
    clear h1 hA1
    go_wp2_with fail
    refine (iFind _ _ _ _ l _ _ rfl hO.out (by omega)).mono ?_
    rintro e w2 ⟨rfl, h2⟩
    rw [hf'.out]
    have F2 := Lib.hid h2
    clear h2 x1 x2 x3
    obtain ⟨x1, x2, x3⟩ := blk_cells (ext_blk (Ext.trans H1.out F2.out) b1.out)
    have p1 := x1 1
    have p3 := x1 3
    have p4 := x1 4
    simp at p1 p3 p4
    have hL := Lib.hid (cel_lit w2 131 #[.int .i64 fm, .int .i64 ca, .int .i64 sq, .int .i64 fr])
    have hG := Lib.hid (Ext.trans F2.out (Ext.alloc_ w2 (.cells #[.int .i64 fm, .int .i64 ca, .int .i64 sq, .int .i64 fr] 131)))
    have hone := Lib.hid (seen_one ⟨fm, ca, sq, fr⟩)
    have hsz := Lib.hid (show w.heap.size ≤ w1.heap.size ∧ w1.heap.size ≤ w2.heap.size from ⟨E1.out.size, F2.out.size⟩)
    have F1' := Lib.hid (show AppR kSeen 131 w1 w.heap.size (fun _ => False) (.slice A1 l.length c1) l from by
      obtain ⟨es, q1, q2, q3, q4⟩ := F1.out
      simp only [World.size_alloc] at q1 q2
      refine ⟨es, ⟨q1.1, q1.2.imp_right ?_⟩, fun G hG => ⟨fun h => h, (q2 G hG).2.mono (by omega) (Nat.le_refl _)⟩, q3, q4⟩
      rintro ⟨g, cap, cur, a, b, c⟩
      exact ⟨g, cap, cur, a, by omega, c⟩)
    clear x1 F1
    go_wp2_with (at_builtin; refine wpPush (K := kSeen) (.tmp 18) (.tmp 27) elSeen rfl rfl w.heap.size (w1 := w) _ l rfl F1'.out hG.out _ _ ⟨fm, ca, sq, fr⟩ w1.heap.size none 0 rfl hL.out (by simp) hone.out (seen_new _) (Nat.le_refl _) (fun x hx => hx.elim) (by unfold maxLen; omega) (by omega) (by have := hsz.out; simp; omega) (Ext.trans E1.out hG.out) (Nat.le_refl _) ?_)
    intro v' w' hA' hE'
    obtain ⟨A2, c2, rfl, -, -, hO2, -⟩ := hA'.own
    have K1 := Lib.hid hE'
    have O2 := Lib.hid hO2
    clear hL hG hone hsz hE' hA' hO2 p1 p3 p4 F1'
    go_wp2
    go_ret
    exact ⟨A2, c2, by rw [hR.out]; first | rfl | simp, K1.out, by rw [hR.out]; exact O2.out⟩
  · have hR := Lib.hid (show remS l fm sq fr ca = l.set k ⟨fm, ca, sq, fr⟩ by
      unfold remS
      rw [hf, if_neg (by omega), Int.toNat_natCast])
    have hf' := Lib.hid hf
    have hkl := Lib.hid (show l.length ≠ 0 by omega)
    clear hf
    go_enter Try.func113, Try.ntmps113
    go_wp2_with fail
    refine (iCopyS _ _ _ _ l rfl hM'.out (by omega)).mono ?_
    rintro e w1 ⟨A1, c1, rfl, h1, hA1⟩
    obtain ⟨A2, c2, e2, -, -, h3, -⟩ := hA1.own
    injection e2 with e2 e3 e4
    subst e2 e4
    have E1 := Lib.hid (Ext.trans E0.out h1)
    have O1 := Lib.hid h3
    have H1 := Lib.hid h1
    obtain ⟨x1, x2, x3⟩ := blk_cells (ext_blk h1 b1.out)
    clear h1 hA1 h3 e3
    go_wp2_with fail
    refine (iFind _ _ _ _ l _ _ rfl O1.out.els (by omega)).mono ?_
    rintro e w2 ⟨rfl, h2⟩
    rw [hf'.out]
    have F2 := Lib.hid h2
    clear h2 x1 x2 x3
    obtain ⟨x1, x2, x3⟩ := blk_cells (ext_blk (Ext.trans H1.out F2.out) b1.out)
    have p3 := x1 3
    have p4 := x1 4
    simp at p3 p4
    obtain ⟨G, T, es, rfl, hE, hm⟩ := (O1.out.ext F2.out).open_ (by intro h; subst h; simp at hk)
    have hel : k < es.length := by have := congrArg List.length hm; simp at this; omega
    obtain ⟨k0, k1, k2, k3, hf2, hG⟩ := ownE_seen hE hel
    have hS := Lib.hid (own_set2 hE hel sq fr hm hk)
    have hGB := Lib.hid hE.1
    have hGne : G ≠ w.heap.size := by have := hE.1; simp at this; omega
    clear hE x1 k0 k1
    go_wp2
    go_ret
    refine ⟨some ⟨G, 0, none⟩, c1, by rw [hR.out, List.length_set]; first | done | rfl, ?_, ?_⟩
    · have hz := hGB.out
      simp at hz
      exact ((Ext.trans E1.out F2.out).setCell_ (p := ⟨G, k * 4 + 2, none⟩) (by simp; omega) _).setCell_ (p := ⟨G, k * 4 + 3, none⟩) (by simp; omega) _
    · rw [hR.out]
      have h := hS.out
      rw [hkf, hkc] at h
      exact h.mono (by simp) (by simp; exact F2.out.size)
set_option maxHeartbeats 1000000 in
theorem sRem (w : World) (kd fm to sq fr : Int) (mo re : Bool) (du : Int) (A A0 : Option Addr) (n c n0 c0 : Nat) (ca : Int) (l : List Seen) (hn : l.length = n0) (hM : Els w A0 4 (kE kSeen) l) (hA0 : A0 = none → c0 = 0) (hl : n0 ≤ 1048576) :
    Calls Try.prog 159 #[.slice A0 n0 c0, .agg #[.int .i64 kd, .int .i64 fm, .int .i64 to, .int .i64 sq, .int .i64 fr, .bool mo, .bool re, .int .i64 du, .slice A n c], .int .i64 ca] w fun e w' => ∃ A' c', e = .returned (.slice A' (remS l fm sq fr ca).length c') ∧ Ext w w' ∧ Own kSeen w' w.heap.size w'.heap.size A' (remS l fm sq fr ca) := by
  subst hn
  have hM' := Lib.hid (els_up hM (Ext.alloc_ w (.cells #[.int .i64 kd, .int .i64 fm, .int .i64 to, .int .i64 sq, .int .i64 fr, .bool mo, .bool re, .int .i64 du, .slice A n c] 66)))
  have E0 := Lib.hid (Ext.alloc_ w (.cells #[.int .i64 kd, .int .i64 fm, .int .i64 to, .int .i64 sq, .int .i64 fr, .bool mo, .bool re, .int .i64 du, .slice A n c] 66))
  have b1 := Lib.hid (new_blk1 w #[.int .i64 kd, .int .i64 fm, .int .i64 to, .int .i64 sq, .int .i64 fr, .bool mo, .bool re, .int .i64 du, .slice A n c] 66)
  have hOw := World.ownsRow_lit (size := 4) (e := 131) (base := w.heap.size + 1) (w.alloc (.cells #[.int .i64 kd, .int .i64 fm, .int .i64 to, .int .i64 sq, .int .i64 fr, .bool mo, .bool re, .int .i64 du, .slice A n c] 66)) #[] 0 (by simp) (by unfold maxLen; omega) (by simp)
  simp only [World.size_alloc] at hOw
  have hC := Lib.hid ((els_cel hM).ext (Ext.trans (Ext.alloc_ w (.cells #[.int .i64 kd, .int .i64 fm, .int .i64 to, .int .i64 sq, .int .i64 fr, .bool mo, .bool re, .int .i64 du, .slice A n c] 66)) (Ext.alloc_ _ (.cells #[] 131))))
  have hone0 := Lib.hid (rowS_one l)
  have hln := Lib.hid (rowS_len l)
  have hAn := Lib.hid hA0
  have hOw' := Lib.hid hOw
  clear hM hOw
  rcases fnd_range l fm ca with hf | ⟨k, hk, hf, hkf, hkc⟩
  · have hR := Lib.hid (show remS l fm sq fr ca = l ++ [⟨fm, ca, sq, fr⟩] by unfold remS; rw [hf]; rfl)
    have hf' := Lib.hid hf
    clear hf
    go_enter Try.func159, Try.ntmps159
    go_wp2_with (at_builtin; refine wpApp (.tmp 10) (.tmp 11) elSeen rfl rfl (w.heap.size + 1) _ _ _ rfl hOw'.out _ _ _ _ rfl hC.out (by simpa using hln.out) hAn.out hone0.out (by unfold maxLen; omega) (by omega) (by simp <;> omega) ?_)
    intro v1 w1 hO1 hg1 _
    have H1 := Lib.hid (ext_grown (w0 := w.alloc (.cells #[.int .i64 kd, .int .i64 fm, .int .i64 to, .int .i64 sq, .int .i64 fr, .bool mo, .bool re, .int .i64 du, .slice A n c] 66)) (Ext.alloc_ _ _) hg1 hOw'.out (by simp))
    have hA1 := AppR.seen (T := 131) (l := l) (by simpa using hO1)
    obtain ⟨A1, c1, rfl, -, -, hO, -⟩ := hA1.own
    have F1 := Lib.hid hA1
    have O1 := Lib.hid hO.els
    obtain ⟨x1, x2, x3⟩ := blk_cells (ext_blk H1.out b1.out)
    have hMl := Lib.hid (els_up hM'.out H1.out)
    clear hO1 hg1 hA1 hO hC hOw'
    go_wp2_with fail
    refine (sFind _ _ _ _ l _ _ rfl hMl.out (by omega)).mono ?_
    rintro e w2 ⟨rfl, h2⟩
    rw [hf'.out]
    have F2 := Lib.hid h2
    clear h2 x1 x2 x3
    obtain ⟨x1, x2, x3⟩ := blk_cells (ext_blk (Ext.trans H1.out F2.out) b1.out)
    have p1 := x1 1
    have p3 := x1 3
    have p4 := x1 4
    simp at p1 p3 p4
    have hL := Lib.hid (cel_lit (w2.alloc (.cells #[.int .i64 fm, .int .i64 ca, .int .i64 sq, .int .i64 fr] 131)) 131 #[.int .i64 fm, .int .i64 ca, .int .i64 sq, .int .i64 fr])
    rw [World.size_alloc] at hL
    have hG := Lib.hid (Ext.trans F2.out (Ext.trans (Ext.alloc_ w2 (.cells #[.int .i64 fm, .int .i64 ca, .int .i64 sq, .int .i64 fr] 131)) (Ext.alloc_ _ (.cells #[.int .i64 fm, .int .i64 ca, .int .i64 sq, .int .i64 fr] 131))))
    have hone := Lib.hid (seen_one ⟨fm, ca, sq, fr⟩)
    have hsz := Lib.hid (show w.heap.size + 1 ≤ w1.heap.size ∧ w1.heap.size ≤ w2.heap.size from ⟨by have := H1.out.size; simpa using this, F2.out.size⟩)
    clear x1
    go_wp2_with (at_builtin; refine wpPush (K := kSeen) (.tmp 28) (.tmp 30) elSeen rfl rfl (w.heap.size + 1) (w1 := w.alloc (.cells #[.int .i64 kd, .int .i64 fm, .int .i64 to, .int .i64 sq, .int .i64 fr, .bool mo, .bool re, .int .i64 du, .slice A n c] 66)) _ l rfl F1.out hG.out _ _ ⟨fm, ca, sq, fr⟩ w1.heap.size none 0 rfl hL.out (by simp) hone.out (seen_new _) (Nat.le_refl _) (fun x hx => hx.elim) (by unfold maxLen; omega) (by omega) (by have := hsz.out; simp; omega) (Ext.trans H1.out hG.out) (by simp) ?_)
    intro v' w' hA' hE'
    obtain ⟨A2, c2, rfl, -, -, hO2, -⟩ := hA'.own
    have K1 := Lib.hid (Ext.trans E0.out hE')
    have O2 := Lib.hid (hO2.mono (B' := w.heap.size) (by omega) (Nat.le_refl _))
    clear hL hG hone hsz hE' hA' hO2 p1 p3 p4 F1
    go_wp2
    go_ret
    exact ⟨A2, c2, by rw [hR.out]; first | rfl | simp, K1.out, by rw [hR.out]; exact O2.out⟩
  · have hR := Lib.hid (show remS l fm sq fr ca = l.set k ⟨fm, ca, sq, fr⟩ by
      unfold remS
      rw [hf, if_neg (by omega), Int.toNat_natCast])
    have hf' := Lib.hid hf
    clear hf hkf hkc
    go_enter Try.func159, Try.ntmps159
    go_wp2_with (at_builtin; refine wpApp (.tmp 10) (.tmp 11) elSeen rfl rfl (w.heap.size + 1) _ _ _ rfl hOw'.out _ _ _ _ rfl hC.out (by simpa using hln.out) hAn.out hone0.out (by unfold maxLen; omega) (by omega) (by simp <;> omega) ?_)
    intro v1 w1 hO1 hg1 _
    have H1 := Lib.hid (ext_grown (w0 := w.alloc (.cells #[.int .i64 kd, .int .i64 fm, .int .i64 to, .int .i64 sq, .int .i64 fr, .bool mo, .bool re, .int .i64 du, .slice A n c] 66)) (Ext.alloc_ _ _) hg1 hOw'.out (by simp))
    have hA1 := AppR.seen (T := 131) (l := l) (by simpa using hO1)
    obtain ⟨A1, c1, rfl, -, -, hO, -⟩ := hA1.own
    have O1 := Lib.hid hO
    obtain ⟨x1, x2, x3⟩ := blk_cells (ext_blk H1.out b1.out)
    have hMl := Lib.hid (els_up hM'.out H1.out)
    clear hO1 hg1 hA1 hO hC hOw'
    go_wp2_with fail
    refine (sFind _ _ _ _ l _ _ rfl hMl.out (by omega)).mono ?_
    rintro e w2 ⟨rfl, h2⟩
    rw [hf'.out]
    have F2 := Lib.hid h2
    clear h2 x1 x2 x3
    obtain ⟨x1, x2, x3⟩ := blk_cells (ext_blk (Ext.trans H1.out F2.out) b1.out)
    have p1 := x1 1
    have p3 := x1 3
    have p4 := x1 4
    simp at p1 p3 p4
    obtain ⟨G, T, es, rfl, hE, hm⟩ := ((O1.out.ext F2.out).ext (Ext.alloc_ w2 (.cells #[.int .i64 fm, .int .i64 ca, .int .i64 sq, .int .i64 fr] 131))).open_ (by intro h; subst h; simp at hk)
    have hel : k < es.length := by have := congrArg List.length hm; simp at this; omega
    obtain ⟨k0, k1, k2, k3, hf2, hG⟩ := ownE_seen hE hel
    have hS := Lib.hid (own_set4 hE hel fm ca sq fr hm)
    have hGB := Lib.hid hE.1
    have hGC := Lib.hid hE.2.1
    have hGne : G ≠ w2.heap.size := by have := hE.2.1; have := F2.out.size; omega
    clear hE x1
    go_wp2
    go_ret
    refine ⟨some ⟨G, 0, none⟩, c1, by rw [hR.out, List.length_set]; first | done | rfl, ?_, ?_⟩
    · have hz := hGB.out
      iterate 4 refine Ext.setCell_ ?_ (by simp; omega) _
      exact Ext.trans (Ext.trans E0.out (Ext.trans H1.out F2.out)) (Ext.alloc_ _ _)
    · rw [hR.out]
      exact hS.out.mono (by omega) (by simp; have := F2.out.size; omega)
end Go.Proofs.Ytkmklafjcjkpdaa
