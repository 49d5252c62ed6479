/- Messages and queues: what a value in memory reads as. -/
import Derived.Test.YtkmklafjcjkpdaaSl
namespace Go.Proofs.Ytkmklafjcjkpdaa
open Go.RowKit
set_option linter.unusedVariables false
set_option linter.unusedSimpArgs false

/-- A slice of bytes reads as l. -/
def RB (w : World) (A : Option Addr) (c : Nat) (l : List Int) : Prop := Cel w A (l.map (Value.int .u8)) ∧ (A = none → c = 0) ∧ l.length ≤ c
theorem RB.ext {w w' : World} {A : Option Addr} {c : Nat} {l : List Int} (h : RB w A c l) (hE : Ext w w') : RB w' A c l := ⟨h.1.ext hE, h.2⟩

/-- Elements of several cells each, one behind the other. -/
def Els {α : Type} (w : World) (A : Option Addr) (size : Nat) (E : World → α → List Value → Prop) (l : List α) : Prop :=
  l = [] ∨ ∃ b off, A = some ⟨b, off, none⟩ ∧ b < w.heap.size ∧ ∀ i (h : i < l.length), ∃ cs, E w l[i] cs ∧ ∀ j u, cs[j]? = some u → w.cell? ⟨b, off + i * size + j, none⟩ = some u

theorem Els.ext {α : Type} {w w' : World} {A : Option Addr} {size : Nat} {E : World → α → List Value → Prop} {l : List α} (h : Els w A size E l) (hE : Ext w w') (hm : ∀ x cs, E w x cs → E w' x cs) : Els w' A size E l := by
  rcases h with h | ⟨b, off, h1, h2, h3⟩
  · exact .inl h
  · refine .inr ⟨b, off, h1, Nat.lt_of_lt_of_le h2 hE.size, fun i hi => ?_⟩
    obtain ⟨cs, e1, e2⟩ := h3 i hi
    exact ⟨cs, hm _ _ e1, fun j u hu => (hE.cell (p := ⟨b, off + i * size + j, none⟩) h2).trans (e2 j u hu)⟩
theorem Els.at_ {α : Type} {w : World} {A : Option Addr} {size : Nat} {E : World → α → List Value → Prop} {l : List α} (h : Els w A size E l) (hl : l ≠ []) :
    ∃ b off, A = some ⟨b, off, none⟩ ∧ b < w.heap.size ∧ ∀ i (h : i < l.length), ∃ cs, E w l[i] cs ∧ ∀ j u, cs[j]? = some u → w.cell? ⟨b, off + i * size + j, none⟩ = some u := h.resolve_left hl

/-- Elements of a slice that came in. -/
theorem view_els {P : Program} {w : World} {t e : TypeId} {α : Type} {E : World → α → List Value → Prop} {A : Option Addr} {n c : Nat} (ht : P.underlying t = some (.slice e)) (hp : 0 < P.cellsOf e)
    (hE : ∀ es, Rd P w e es → ∃ x, E w x es) (h : Rd P w t [.slice A n c]) : ∃ l : List α, l.length = n ∧ Els w A (P.cellsOf e) E l ∧ (A = none → c = 0) ∧ n ≤ c ∧ c ≤ maxLen := by
  rcases Rd.slice ht h with h0 | ⟨a, n', c', hcs, h1, h2, h3⟩
  · simp at h0
    obtain ⟨rfl, rfl, rfl⟩ := h0
    exact ⟨[], rfl, .inl rfl, fun _ => rfl, Nat.le_refl _, Nat.zero_le _⟩
  · simp at hcs
    obtain ⟨rfl, rfl, rfl⟩ := hcs
    obtain ⟨l, hl, hz⟩ := rd_list (p := fun i x => ∃ es, E w x es ∧ es.length = P.cellsOf e ∧ ∀ j, j < P.cellsOf e → w.cell? (a.add (i * P.cellsOf e + j)) = es[j]?) n fun i hi => by
      obtain ⟨es, l1, c1, r1⟩ := h3 i hi
      obtain ⟨x, hx⟩ := hE es r1
      exact ⟨x, es, hx, l1, c1⟩
    refine ⟨l, hl, ?_, fun h => by simp at h, h1, h2⟩
    rcases Nat.eq_zero_or_pos l.length with h0 | h0
    · exact .inl (by simpa using h0)
    · obtain ⟨b, off, spot⟩ := a
      obtain ⟨es, _, hlen, h00⟩ := hz 0 h0
      have h00 := h00 0 hp
      rw [List.getElem?_eq_getElem (by omega)] at h00
      have hspot : spot = none := by simpa [Addr.add] using World.cell?_spot h00
      subst hspot
      have hlt : b < w.heap.size := by
        rcases Nat.lt_or_ge b w.heap.size with h | h
        · exact h
        · rw [add_zero_addr] at h00
          simp [World.cell?, Array.getElem?_eq_none h] at h00
      refine .inr ⟨b, off, rfl, hlt, fun i hi => ?_⟩
      obtain ⟨es, e1, e2, e3⟩ := hz i hi
      refine ⟨es, e1, fun j u hu => ?_⟩
      have hj : j < P.cellsOf e := by
        rcases Nat.lt_or_ge j (P.cellsOf e) with h | h
        · exact h
        · rw [List.getElem?_eq_none (by omega)] at hu
          cases hu
      have := e3 j hj
      rw [add_zero_addr, ← Nat.add_assoc] at this
      rw [this, hu]

structure Msg where
  to : Int
  cat : Int
  dl : Int
  body : List Int
def msgE (w : World) (m : Msg) (cs : List Value) : Prop := ∃ A c, cs = [.int .i64 m.to, .int .i64 m.cat, .int .i64 m.dl, .slice A m.body.length c] ∧ RB w A c m.body
theorem msgE.ext {w w' : World} (hE : Ext w w') (m : Msg) (cs : List Value) (h : msgE w m cs) : msgE w' m cs := by
  obtain ⟨A, c, h1, h2⟩ := h
  exact ⟨A, c, h1, h2.ext hE⟩
theorem cells_byte : Try.prog.cellsOf 5 = 1 := by kernel_rfl
theorem cells_int1 : Try.prog.cellsOf 3 = 1 := by kernel_rfl
/-- A field that is a slice of bytes. -/
theorem rb_field {w : World} {A : Option Addr} {n c : Nat} (h : Rd Try.prog w 22 [.slice A n c]) : ∃ l : List Int, l.length = n ∧ RB w A c l ∧ n ≤ maxLen := by
  obtain ⟨zs, h1, h2, -, h3, h4, h5⟩ := view_nums Try.underlying22 Try.underlying5 cells_byte h
  exact ⟨zs, h1, ⟨h2, h3, by omega⟩, by omega⟩
theorem slice_cell {w : World} {t e : TypeId} (ht : Try.prog.underlying t = some (.slice e)) {cs : List Value} (h : Rd Try.prog w t cs) : ∃ A n c, cs = [.slice A n c] := by
  rcases Rd.slice ht h with h0 | ⟨a, n, c, h0, _⟩
  · exact ⟨_, _, _, h0⟩
  · exact ⟨_, _, _, h0⟩
theorem int_f {w : World} {cs : List Value} {fs : Array Field} {t : TypeId} (ht : Try.prog.underlying t = some (.struct fs)) (h : Rd Try.prog w t cs) (i : Nat) (f : Field) (hf : fs[i]? = some f)
    (hk : Try.prog.underlying f.type = some (.int .i64)) (hc : Try.prog.cellsOf f.type = 1) : ∃ n, (cs.drop f.offset).take 1 = [.int .i64 n] := by
  have h1 := (Rd.struct ht h).2 i f hf
  rw [hc] at h1
  obtain ⟨n, h2, _⟩ := Rd.int hk h1
  exact ⟨n, h2⟩
theorem bool_f {w : World} {cs : List Value} {fs : Array Field} {t : TypeId} (ht : Try.prog.underlying t = some (.struct fs)) (h : Rd Try.prog w t cs) (i : Nat) (f : Field) (hf : fs[i]? = some f)
    (hk : Try.prog.underlying f.type = some .bool) (hc : Try.prog.cellsOf f.type = 1) : ∃ b, (cs.drop f.offset).take 1 = [.bool b] := by
  have h1 := (Rd.struct ht h).2 i f hf
  rw [hc] at h1
  exact Rd.bool hk h1
theorem bytes_f {w : World} {cs : List Value} {fs : Array Field} {t : TypeId} (ht : Try.prog.underlying t = some (.struct fs)) (h : Rd Try.prog w t cs) (i : Nat) (f : Field) (hf : fs[i]? = some f)
    (hk : f.type = 22) : ∃ A l c, (cs.drop f.offset).take 1 = [.slice A (List.length l) c] ∧ RB w A c l ∧ l.length ≤ maxLen := by
  have h1 := (Rd.struct ht h).2 i f hf
  rw [hk, show Try.prog.cellsOf 22 = 1 from by kernel_rfl] at h1
  obtain ⟨A, n, c, h2⟩ := slice_cell Try.underlying22 h1
  rw [h2] at h1
  obtain ⟨l, rfl, h3, h4⟩ := rb_field h1
  exact ⟨A, l, c, h2, h3, h4⟩
def staB (x : Int) : Bool := inB x 0 15 || (x == 63)
def msgB (to cat dl : Int) (n : Nat) : Bool := (inB to 0 15 || (to == 63)) && inB cat 0 3 && inB dl 0 1000000000000 && decide ((n : Int) ≤ 100)
theorem msgB_false {to cat dl : Int} {n : Nat} (h : (inB to 0 15 || (to == 63)) = false ∨ inB cat 0 3 = false ∨ inB dl 0 1000000000000 = false) : msgB to cat dl n = false := by
  unfold msgB
  rcases h with h | h | h <;> rw [h] <;> simp
set_option maxHeartbeats 800000 in
theorem sMsgOk (w : World) (to cat dl : Int) (A : Option Addr) (n c : Nat) :
    Calls Try.prog 76 #[.agg #[.int .i64 to, .int .i64 cat, .int .i64 dl, .slice A n c]] w
      fun e w' => e = .returned (.bool (msgB to cat dl n)) ∧ Below w.heap.size w w' := by
  by_cases h1 : inB to 0 15 = true
  · by_cases h2 : inB cat 0 3 = true
    · by_cases h3 : inB dl 0 1000000000000 = true
      · have HF := Lib.hid (show msgB to cat dl n = decide ((n : Int) ≤ 100) by simp only [msgB, h1, h2, h3, Bool.true_or, Bool.true_and])
        go_enter Try.func76, Try.ntmps76
        go_wp2_with (first | (go_at_call 92; refine (sIn _ _ _ _).mono ?_; rintro e w' ⟨rfl, rfl⟩) )
        go_ret
        exact ⟨by rw [HF.out]; rfl, by repeat (first | (with_reducible exact Below.refl _ _) | (with_reducible assumption) | (with_reducible refine Below.alloc ?_ (by simp <;> omega) _) | (with_reducible refine Below.setCell ?_ (by simp <;> omega) _) | (with_reducible refine Below.drew ?_))⟩
      · have h3' : inB dl 0 1000000000000 = false := by simpa using h3
        have HF := Lib.hid (show msgB to cat dl n = false from msgB_false (.inr (.inr h3')))
        go_enter Try.func76, Try.ntmps76
        go_wp2_with (first | (go_at_call 92; refine (sIn _ _ _ _).mono ?_; rintro e w' ⟨rfl, rfl⟩) )
        go_ret
        exact ⟨by rw [HF.out]; rfl, by repeat (first | (with_reducible exact Below.refl _ _) | (with_reducible assumption) | (with_reducible refine Below.alloc ?_ (by simp <;> omega) _) | (with_reducible refine Below.setCell ?_ (by simp <;> omega) _) | (with_reducible refine Below.drew ?_))⟩
    · have h2' : inB cat 0 3 = false := by simpa using h2
      have HF := Lib.hid (show msgB to cat dl n = false from msgB_false (.inr (.inl h2')))
      go_enter Try.func76, Try.ntmps76
      go_wp2_with (first | (go_at_call 92; refine (sIn _ _ _ _).mono ?_; rintro e w' ⟨rfl, rfl⟩) )
      go_ret
      exact ⟨by rw [HF.out]; rfl, by repeat (first | (with_reducible exact Below.refl _ _) | (with_reducible assumption) | (with_reducible refine Below.alloc ?_ (by simp <;> omega) _) | (with_reducible refine Below.setCell ?_ (by simp <;> omega) _) | (with_reducible refine Below.drew ?_))⟩
  · have h1' : inB to 0 15 = false := by simpa using h1
    by_cases h4 : (to == 63) = true
    · by_cases h2 : inB cat 0 3 = true
      · by_cases h3 : inB dl 0 1000000000000 = true
        · have HF := Lib.hid (show msgB to cat dl n = decide ((n : Int) ≤ 100) by simp only [msgB, h4, h2, h3, Bool.or_true, Bool.true_and])
          go_enter Try.func76, Try.ntmps76
          go_wp2_with (first | (go_at_call 92; refine (sIn _ _ _ _).mono ?_; rintro e w' ⟨rfl, rfl⟩) )
          go_ret
          exact ⟨by rw [HF.out]; rfl, by repeat (first | (with_reducible exact Below.refl _ _) | (with_reducible assumption) | (with_reducible refine Below.alloc ?_ (by simp <;> omega) _) | (with_reducible refine Below.setCell ?_ (by simp <;> omega) _) | (with_reducible refine Below.drew ?_))⟩
        · have h3' : inB dl 0 1000000000000 = false := by simpa using h3
          have HF := Lib.hid (show msgB to cat dl n = false from msgB_false (.inr (.inr h3')))
          go_enter Try.func76, Try.ntmps76
          go_wp2_with (first | (go_at_call 92; refine (sIn _ _ _ _).mono ?_; rintro e w' ⟨rfl, rfl⟩) )
          go_ret
          exact ⟨by rw [HF.out]; rfl, by repeat (first | (with_reducible exact Below.refl _ _) | (with_reducible assumption) | (with_reducible refine Below.alloc ?_ (by simp <;> omega) _) | (with_reducible refine Below.setCell ?_ (by simp <;> omega) _) | (with_reducible refine Below.drew ?_))⟩
      · have h2' : inB cat 0 3 = false := by simpa using h2
        have HF := Lib.hid (show msgB to cat dl n = false from msgB_false (.inr (.inl h2')))
        go_enter Try.func76, Try.ntmps76
        go_wp2_with (first | (go_at_call 92; refine (sIn _ _ _ _).mono ?_; rintro e w' ⟨rfl, rfl⟩) )
        go_ret
        exact ⟨by rw [HF.out]; rfl, by repeat (first | (with_reducible exact Below.refl _ _) | (with_reducible assumption) | (with_reducible refine Below.alloc ?_ (by simp <;> omega) _) | (with_reducible refine Below.setCell ?_ (by simp <;> omega) _) | (with_reducible refine Below.drew ?_))⟩
    · have h4' : (to == 63) = false := by simpa using h4
      have HF := Lib.hid (show msgB to cat dl n = false from msgB_false (.inl (by simp [h1', h4'])))
      clear h4
      go_enter Try.func76, Try.ntmps76
      go_wp2_with (first | (go_at_call 92; refine (sIn _ _ _ _).mono ?_; rintro e w' ⟨rfl, rfl⟩) )
      go_ret
      exact ⟨by rw [HF.out]; rfl, by repeat (first | (with_reducible exact Below.refl _ _) | (with_reducible assumption) | (with_reducible refine Below.alloc ?_ (by simp <;> omega) _) | (with_reducible refine Below.setCell ?_ (by simp <;> omega) _) | (with_reducible refine Below.drew ?_))⟩
set_option maxHeartbeats 800000 in
theorem iMsgOk (w : World) (to cat dl : Int) (A : Option Addr) (n c : Nat) :
    Calls Try.prog 134 #[.agg #[.int .i64 to, .int .i64 cat, .int .i64 dl, .slice A n c]] w
      fun e w' => e = .returned (.bool (msgB to cat dl n)) ∧ Below w.heap.size w w' := by
  by_cases h1 : inB to 0 15 = true
  · by_cases h2 : inB cat 0 3 = true
    · by_cases h3 : inB dl 0 1000000000000 = true
      · have HF := Lib.hid (show msgB to cat dl n = decide ((n : Int) ≤ 100) by simp only [msgB, h1, h2, h3, Bool.true_or, Bool.true_and])
        go_enter Try.func134, Try.ntmps134
        go_wp2_with (first | (go_at_call 94; refine (iIn _ _ _ _).mono ?_; rintro e w' ⟨rfl, rfl⟩)  | (go_at_call 116; refine (iStation _ _).mono ?_; rintro e w' ⟨rfl, rfl⟩) | (go_at_call 97; refine (iCat _ _).mono ?_; rintro e w' ⟨rfl, rfl⟩))
        go_ret
        exact ⟨by rw [HF.out]; rfl, by repeat (first | (with_reducible exact Below.refl _ _) | (with_reducible assumption) | (with_reducible refine Below.alloc ?_ (by simp <;> omega) _) | (with_reducible refine Below.setCell ?_ (by simp <;> omega) _) | (with_reducible refine Below.drew ?_))⟩
      · have h3' : inB dl 0 1000000000000 = false := by simpa using h3
        have HF := Lib.hid (show msgB to cat dl n = false from msgB_false (.inr (.inr h3')))
        go_enter Try.func134, Try.ntmps134
        go_wp2_with (first | (go_at_call 94; refine (iIn _ _ _ _).mono ?_; rintro e w' ⟨rfl, rfl⟩)  | (go_at_call 116; refine (iStation _ _).mono ?_; rintro e w' ⟨rfl, rfl⟩) | (go_at_call 97; refine (iCat _ _).mono ?_; rintro e w' ⟨rfl, rfl⟩))
        go_ret
        exact ⟨by rw [HF.out]; rfl, by repeat (first | (with_reducible exact Below.refl _ _) | (with_reducible assumption) | (with_reducible refine Below.alloc ?_ (by simp <;> omega) _) | (with_reducible refine Below.setCell ?_ (by simp <;> omega) _) | (with_reducible refine Below.drew ?_))⟩
    · have h2' : inB cat 0 3 = false := by simpa using h2
      have HF := Lib.hid (show msgB to cat dl n = false from msgB_false (.inr (.inl h2')))
      go_enter Try.func134, Try.ntmps134
      go_wp2_with (first | (go_at_call 94; refine (iIn _ _ _ _).mono ?_; rintro e w' ⟨rfl, rfl⟩)  | (go_at_call 116; refine (iStation _ _).mono ?_; rintro e w' ⟨rfl, rfl⟩) | (go_at_call 97; refine (iCat _ _).mono ?_; rintro e w' ⟨rfl, rfl⟩))
      go_ret
      exact ⟨by rw [HF.out]; rfl, by repeat (first | (with_reducible exact Below.refl _ _) | (with_reducible assumption) | (with_reducible refine Below.alloc ?_ (by simp <;> omega) _) | (with_reducible refine Below.setCell ?_ (by simp <;> omega) _) | (with_reducible refine Below.drew ?_))⟩
  · have h1' : inB to 0 15 = false := by simpa using h1
    by_cases h4 : (to == 63) = true
    · by_cases h2 : inB cat 0 3 = true
      · by_cases h3 : inB dl 0 1000000000000 = true
        · have HF := Lib.hid (show msgB to cat dl n = decide ((n : Int) ≤ 100) by simp only [msgB, h4, h2, h3, Bool.or_true, Bool.true_and])
          go_enter Try.func134, Try.ntmps134
          go_wp2_with (first | (go_at_call 94; refine (iIn _ _ _ _).mono ?_; rintro e w' ⟨rfl, rfl⟩)  | (go_at_call 116; refine (iStation _ _).mono ?_; rintro e w' ⟨rfl, rfl⟩) | (go_at_call 97; refine (iCat _ _).mono ?_; rintro e w' ⟨rfl, rfl⟩))
          go_ret
          exact ⟨by rw [HF.out]; rfl, by repeat (first | (with_reducible exact Below.refl _ _) | (with_reducible assumption) | (with_reducible refine Below.alloc ?_ (by simp <;> omega) _) | (with_reducible refine Below.setCell ?_ (by simp <;> omega) _) | (with_reducible refine Below.drew ?_))⟩
        · have h3' : inB dl 0 1000000000000 = false := by simpa using h3
          have HF := Lib.hid (show msgB to cat dl n = false from msgB_false (.inr (.inr h3')))
          go_enter Try.func134, Try.ntmps134
          go_wp2_with (first | (go_at_call 94; refine (iIn _ _ _ _).mono ?_; rintro e w' ⟨rfl, rfl⟩)  | (go_at_call 116; refine (iStation _ _).mono ?_; rintro e w' ⟨rfl, rfl⟩) | (go_at_call 97; refine (iCat _ _).mono ?_; rintro e w' ⟨rfl, rfl⟩))
          go_ret
          exact ⟨by rw [HF.out]; rfl, by repeat (first | (with_reducible exact Below.refl _ _) | (with_reducible assumption) | (with_reducible refine Below.alloc ?_ (by simp <;> omega) _) | (with_reducible refine Below.setCell ?_ (by simp <;> omega) _) | (with_reducible refine Below.drew ?_))⟩
      · have h2' : inB cat 0 3 = false := by simpa using h2
        have HF := Lib.hid (show msgB to cat dl n = false from msgB_false (.inr (.inl h2')))
        go_enter Try.func134, Try.ntmps134
        go_wp2_with (first | (go_at_call 94; refine (iIn _ _ _ _).mono ?_; rintro e w' ⟨rfl, rfl⟩)  | (go_at_call 116; refine (iStation _ _).mono ?_; rintro e w' ⟨rfl, rfl⟩) | (go_at_call 97; refine (iCat _ _).mono ?_; rintro e w' ⟨rfl, rfl⟩))
        go_ret
        exact ⟨by rw [HF.out]; rfl, by repeat (first | (with_reducible exact Below.refl _ _) | (with_reducible assumption) | (with_reducible refine Below.alloc ?_ (by simp <;> omega) _) | (with_reducible refine Below.setCell ?_ (by simp <;> omega) _) | (with_reducible refine Below.drew ?_))⟩
    · have h4' : (to == 63) = false := by simpa using h4
      have HF := Lib.hid (show msgB to cat dl n = false from msgB_false (.inl (by simp [h1', h4'])))
      clear h4
      go_enter Try.func134, Try.ntmps134
      go_wp2_with (first | (go_at_call 94; refine (iIn _ _ _ _).mono ?_; rintro e w' ⟨rfl, rfl⟩)  | (go_at_call 116; refine (iStation _ _).mono ?_; rintro e w' ⟨rfl, rfl⟩) | (go_at_call 97; refine (iCat _ _).mono ?_; rintro e w' ⟨rfl, rfl⟩))
      go_ret
      exact ⟨by rw [HF.out]; rfl, by repeat (first | (with_reducible exact Below.refl _ _) | (with_reducible assumption) | (with_reducible refine Below.alloc ?_ (by simp <;> omega) _) | (with_reducible refine Below.setCell ?_ (by simp <;> omega) _) | (with_reducible refine Below.drew ?_))⟩
end Go.Proofs.Ytkmklafjcjkpdaa
