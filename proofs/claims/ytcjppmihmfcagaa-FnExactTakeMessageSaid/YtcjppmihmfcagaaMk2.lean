/- Marks of reassemblies and of seen frames; marks of one record's body. -/
import Derived.Test.YtcjppmihmfcagaaMk
namespace Go.Proofs.Ytcjppmihmfcagaa
open Go.RowKit
set_option linter.unusedVariables false
set_option linter.unusedSimpArgs false

def mkRea (k : Int) (m : Rea) : Rea := ⟨k, k + 1, k + 1 + 1, k + 1 + 1 + 1 + m.body.length, bytesK (k + 1 + 1 + 1) m.body.length⟩
def cRea (m : Rea) : Nat := 4 + m.body.length
theorem ownE_rea {w : World} {B C G : Nat} {T : TypeId} {es : List (El Rea)} (h : OwnE kRea w B C G T es) {i : Nat} (hi : i < es.length) :
    w.cell? ⟨G, i * 5, none⟩ = some (.int .i64 es[i].x.frm) ∧ w.cell? ⟨G, i * 5 + 1, none⟩ = some (.int .i64 es[i].x.sq) ∧ w.cell? ⟨G, i * 5 + 2, none⟩ = some (.int .i64 es[i].x.nx) ∧ w.cell? ⟨G, i * 5 + 3, none⟩ = some (.slice es[i].A es[i].x.body.length es[i].c) ∧ w.cell? ⟨G, i * 5 + 4, none⟩ = some (.int .i64 es[i].x.st) ∧ (∀ p, w.frozen? ⟨G, p, none⟩ = false) ∧ G < w.heap.size :=
  ⟨(h.at_ hi (j := 0) (by decide)).1, (h.at_ hi (j := 1) (by decide)).1, (h.at_ hi (j := 2) (by decide)).1, (h.at_ hi (j := 3) (by decide)).1, (h.at_ hi (j := 4) (by decide)).1, (h.at_ hi (j := 3) (by decide)).2⟩
theorem ownE_rea3 {w : World} {B C G : Nat} {T : TypeId} {es : List (El Rea)} (h : OwnE kRea w B C G T es) {i : Nat} (hi : i < es.length) (x y z : Int) :
    OwnE kRea (((w.setCell ⟨G, i * 5, none⟩ (.int .i64 x)).setCell ⟨G, i * 5 + 1, none⟩ (.int .i64 y)).setCell ⟨G, i * 5 + 2, none⟩ (.int .i64 z)) B C G T (es.set i { es[i] with x := ⟨x, y, z, es[i].x.st, es[i].x.body⟩ }) := by
  have h1 := h.setHd i hi 0 (by decide) { es[i].x with frm := x } (.int .i64 x) rfl (fun v => rfl)
  have h2 := h1.setHd i (by simpa using hi) 1 (by decide) ⟨x, y, es[i].x.nx, es[i].x.st, es[i].x.body⟩ (.int .i64 y) (by simp [kRea]) (fun v => by simp [kRea])
  have h3 := h2.setHd i (by simpa using hi) 2 (by decide) ⟨x, y, z, es[i].x.st, es[i].x.body⟩ (.int .i64 z) (by simp [kRea]) (fun v => by simp [kRea])
  simpa [show kRea.size = 5 from rfl] using h3
theorem markReaS_ (w : World) (A : Option Addr) (n c B C : Nat) (k : Int) (l : List Rea) (hn : l.length = n) (hO : Own kRea w B C A l) (hk : 1 ≤ k) (hs : k + (sumC cRea l : Nat) ≤ 1073741824) :
    Calls Try.prog 31 #[.slice A n c, .int .i64 k] w fun e w' => e = .returned (.int .i64 (k + (sumC cRea l : Nat))) ∧ Chg w w' (fun b => B ≤ b ∧ b < C) ∧ w'.heap.size = w.heap.size ∧ Own kRea w' B C A (markL mkRea cRea k l) := by
  subst hn
  by_cases hl : l = []
  · subst hl
    clear hO hs
    simp only [List.length_nil]
    go_enter Try.func31, Try.ntmps31
    go_wp2
    go_loopw [1, 5] (fun kv i wr => kv = .int .i64 k ∧ i = .int .i64 0 ∧ wr = w) (fun _ _ _ => 0)
    case atStart => exact ⟨rfl, rfl, rfl⟩
    case round =>
      obtain ⟨rfl, rfl, rfl⟩ := hrel
      go_wp2
      go_ret
      exact ⟨by simp [sumC], Chg.refl _ _, rfl, .inl rfl⟩
  · obtain ⟨G, T, es0, rfl, hE0, hmap0⟩ := hO.open_ hl
    have hin := Lib.hid hE0
    have hmp := Lib.hid hmap0
    have hlim := Lib.hid (show l.length ≤ sumC cRea l from by
      clear hs hO hl hE0 hmap0 hin hmp
      induction l with
      | nil => simp
      | cons x xs ih => simp only [sumC, cRea, List.map_cons, List.sum_cons, List.length_cons] at ih ⊢; omega)
    have hln : l.length ≤ 1073741824 := by have := hlim.out; omega
    have hs' := Lib.hid hs
    clear hO hl hE0 hmap0 hs
    go_enter Try.func31, Try.ntmps31
    go_wp2
    go_loopw [1, 5] (fun kv i wr => ∃ m : Nat, ∃ kk : Int, m ≤ l.length ∧ i = .int .i64 m ∧ kv = .int .i64 kk ∧ Hid (kk = k + (sumC cRea (l.take m) : Nat)) ∧ Hid (∃ es : List (El Rea), OwnE kRea wr B C G T es ∧ es.map (·.x) = markL mkRea cRea k (l.take m) ++ l.drop m) ∧ Chg w wr (fun b => B ≤ b ∧ b < C) ∧ wr.heap.size = w.heap.size) (fun _ i _ => l.length - (intOf i).toNat)
    case atStart => exact ⟨0, k, Nat.zero_le _, rfl, rfl, Lib.hid (by simp [sumC]), Lib.hid ⟨es0, hin.out, by rw [hmp.out]; simp [markL]⟩, Chg.refl _ _, rfl⟩
    case round =>
      obtain ⟨m, kk, hm, rfl, rfl, hkk, hI, hC, hz⟩ := hrel
      clear hin hmp
      by_cases hlt : m < l.length
      · obtain ⟨es, hO, hmap⟩ := hI.out
        have hel : m < es.length := by
          have := congrArg List.length hmap
          simp [markL_len] at this
          omega
        have hx : es[m].x = l[m] := by
          have := mem_get hmap (m := m) (by simpa using hel) (by simp [markL_len]; omega)
          rw [markL_mid _ _ _ hlt] at this
          simpa using this
        have hkr : 1 ≤ kk ∧ kk + cRea l[m] ≤ 1073741824 := by
          have h1 := hkk.out
          have h2 := sumC_take (ct := cRea) l m hlt
          have h3 := sumC_le (ct := cRea) l (m + 1)
          have h4 := hs'.out
          omega
        have hcm : cRea l[m] = 4 + l[m].body.length := rfl
        obtain ⟨k0, k1, k2, k3, k4, hf, hG⟩ := ownE_rea hO hel
        have hO3 := ownE_rea3 hO hel kk (kk + 1) (kk + 1 + 1)
        have hmp3 := hO3.body m (by simpa using hel)
        have hch3 := hO3.chgS m (by simpa using hel)
        simp only [List.getElem_set_self] at hmp3 hch3
        have hb3 := Lib.hid hmp3
        have hc3 := Lib.hid hch3
        have hOE := Lib.hid hO3
        have hmap' := Lib.hid hmap
        have hx' := Lib.hid hx
        rw [hx] at k0 k1 k2 k3 k4
        clear hmp3 hch3 hO3 hO hmap hI hx
        have hbl : l[m].body.length ≤ 1073741824 := by omega
        have hk3 : 1 ≤ kk + 1 + 1 + 1 ∧ kk + 1 + 1 + 1 ≤ 1099511627776 := by omega
        go_wp2_with fail
        refine (markByteS_ _ _ _ _ es[m].g _ hk3 hbl (by have h := hb3.out; rw [hx'.out] at h; exact h)).mono ?_
        rintro e w4 ⟨rfl, h1, h2, h3, h4⟩
        have hO4 := Lib.hid (show ∃ es : List (El Rea), OwnE kRea w4 B C G T es ∧ ∃ h : m < es.length, es[m].x = ⟨kk, kk + 1, kk + 1 + 1, l[m].st, bytesK (kk + 1 + 1 + 1) l[m].body.length⟩ ∧ ∀ x', (es.set m { es[m] with x := x' }).map (·.x) = (markL mkRea cRea k (l.take m) ++ l.drop m).set m x' from by
          have hx := hx'.out
          refine ⟨_, hOE.out.setBd m (by simpa using hel) ⟨kk, kk + 1, kk + 1 + 1, l[m].st, bytesK (kk + 1 + 1 + 1) l[m].body.length⟩ ?_ ?_ ?_ ?_ ?_, by simpa using hel, by simp, ?_⟩
          · simp [kRea, bytesK_len, hx]
          · intro v; simp [kRea, hx]
          · simpa using h1
          · intro h; exact h3 (by rw [← hx]; simpa [kRea] using h)
          · intro h; simpa [kRea] using h4 (by rw [← hx]; simpa [kRea] using h)
          · intro x'
            simp only [map_set_x, hmap'.out, List.set_set])
        have hC4 := Lib.hid (show Chg w w4 (fun b => B ≤ b ∧ b < C) from (((hC.set (p := ⟨G, m * 5, none⟩) ⟨hOE.out.1, hOE.out.2.1⟩ _).set (p := ⟨G, m * 5 + 1, none⟩) ⟨hOE.out.1, hOE.out.2.1⟩ _).set (p := ⟨G, m * 5 + 2, none⟩) ⟨hOE.out.1, hOE.out.2.1⟩ _).trans (chg_body h1 h3 (fun h => hc3.out (by rw [hx'.out] at *; simpa [kRea] using h))))
        have hz4 := Lib.hid (show w4.heap.size = w.heap.size by rw [h2]; simpa using hz)
        have hGB := Lib.hid (show B ≤ G ∧ G < C from ⟨hOE.out.1, hOE.out.2.1⟩)
        obtain ⟨es4, hq4, hel4, hx4, hmap4⟩ := hO4.out
        obtain ⟨-, -, -, -, g4, hf4, hG4⟩ := ownE_rea hq4 hel4
        rw [hx4] at g4
        have hfin := Lib.hid (show ∃ es : List (El Rea), OwnE kRea (w4.setCell ⟨G, m * 5 + 4, none⟩ (.int .i64 (kk + 1 + 1 + 1 + (l[m].body.length : Nat)))) B C G T es ∧ es.map (·.x) = markL mkRea cRea k (l.take (m + 1)) ++ l.drop (m + 1) from by
          refine ⟨_, hq4.setHd m hel4 4 (by decide) (mkRea kk l[m]) (.int .i64 (kk + 1 + 1 + 1 + (l[m].body.length : Nat))) ?_ ?_, ?_⟩
          · rw [hx4]; rfl
          · intro v; rw [hx4]; rfl
          · rw [hmap4, ← markL_step l k m hlt, hkk.out])
        clear h1 h2 h3 h4 hOE hb3 hc3 hmap' hO4 hq4 hel4 hx4 hmap4
        go_wp2
        go_roundw
        case rel =>
          exact ⟨m + 1, _, by omega, by go_num, rfl, Lib.hid (by rw [sumC_take l m hlt, hkk.out, hcm]; omega), hfin, hC4.out.set (p := ⟨G, m * 5 + 4, none⟩) hGB.out _, by simpa using hz4.out⟩
        case measure => simp [intOf]; omega
      · obtain rfl : m = l.length := by omega
        have hF := Lib.hid (show Own kRea wr B C (some ⟨G, 0, none⟩) (markL mkRea cRea k l) from by
          obtain ⟨es, hO, hmap⟩ := hI.out
          rw [List.take_length, List.drop_length, List.append_nil] at hmap
          rw [← hmap]
          exact hO.own)
        have hkl := hkk.out
        rw [List.take_length] at hkl
        subst hkl
        clear hI hkk
        go_wp2
        go_ret
        exact ⟨rfl, hC, hz, hF.out⟩
theorem heldReaS_ (w : World) (A : Option Addr) (n c : Nat) (k : Int) (l : List Rea) (hn : l.length = n) (hM : Els w A 5 (kE kRea) (markL mkRea cRea k l)) (hk : 1 ≤ k) (hs : k + (sumC cRea l : Nat) ≤ 1073741824) :
    Calls Try.prog 32 #[.slice A n c, .int .i64 k] w fun e w' => e = .returned (.int .i64 (k + (sumC cRea l : Nat))) ∧ Below w.heap.size w w' := by
  subst hn
  have hlim := Lib.hid (show l.length ≤ sumC cRea l from by
    clear hs hM
    induction l with
    | nil => simp
    | cons x xs ih => simp only [sumC, cRea, List.map_cons, List.sum_cons, List.length_cons] at ih ⊢; omega)
  have hln : l.length ≤ 1073741824 := by have := hlim.out; omega
  have hs' := Lib.hid hs
  clear hs
  go_enter Try.func32, Try.ntmps32
  go_wp2
  go_loopw [1, 5] (fun kv i wr => ∃ m : Nat, ∃ kk : Int, m ≤ l.length ∧ i = .int .i64 m ∧ kv = .int .i64 kk ∧ Hid (kk = k + (sumC cRea (l.take m) : Nat)) ∧ Ext w wr) (fun _ i _ => l.length - (intOf i).toNat)
  case atStart => exact ⟨0, k, Nat.zero_le _, rfl, rfl, Lib.hid (by simp [sumC]), Ext.refl _⟩
  case round =>
    obtain ⟨m, kk, hm, rfl, rfl, hkk, hE⟩ := hrel
    by_cases hlt : m < l.length
    · obtain ⟨b, off, rfl, hb, hc⟩ := (els_up hM hE).at_ (List.ne_nil_of_length_pos (by rw [markL_len]; omega))
      obtain ⟨B, cB, hRB, k0, k1, k2, k3, k4⟩ := els_rea hc m (by rw [markL_len]; exact hlt)
      rw [markL_get l k m hlt, ← hkk.out] at k0 k1 k2 k3 k4 hRB
      have hkr : 1 ≤ kk ∧ kk + cRea l[m] ≤ 1073741824 := by
        have h1 := hkk.out
        have h2 := sumC_take (ct := cRea) l m hlt
        have h3 := sumC_le (ct := cRea) l (m + 1)
        have h4 := hs'.out
        omega
      have hcm : cRea l[m] = 4 + l[m].body.length := rfl
      simp only [mkRea, bytesK_len] at k0 k1 k2 k3 k4 hRB
      have hR := Lib.hid hRB
      have hbl : l[m].body.length ≤ 1073741824 := by omega
      have hk3 : 1 ≤ kk + 1 + 1 + 1 ∧ kk + 1 + 1 + 1 ≤ 1099511627776 := by omega
      clear hc hM hRB
      go_wp2_with fail
      refine (heldByteS_ _ _ _ _ _ hk3 hbl hR.out).mono ?_
      rintro e w4 ⟨rfl, hb4⟩
      have q4 := ((bcell hb4).1 b (off + m * 5 + 4) hb).trans k4
      have qb := Nat.lt_of_lt_of_le hb hb4.size
      have hnn : ¬ (kk + 1 + 1 + 1 + (l[m].body.length : Int) < 0) := by omega
      go_wp2
      go_roundw
      case rel =>
        exact ⟨m + 1, _, by omega, by go_num, rfl, Lib.hid (by rw [sumC_take l m hlt, hkk.out, hcm]; omega), Ext.trans hE hb4⟩
      case measure => simp [intOf]; omega
    · obtain rfl : m = l.length := by omega
      have hkl := hkk.out
      rw [List.take_length] at hkl
      subst hkl
      clear hM hkk
      go_wp2
      go_ret
      exact ⟨rfl, hE⟩
def mkSeen (k : Int) (m : Seen) : Seen := ⟨k, k + 1, k + 1 + 1, k + 1 + 1 + 1⟩
def cSeen (m : Seen) : Nat := 4
theorem ownE_seen {w : World} {B C G : Nat} {T : TypeId} {es : List (El Seen)} (h : OwnE kSeen w B C G T es) {i : Nat} (hi : i < es.length) :
    w.cell? ⟨G, i * 4, none⟩ = some (.int .i64 es[i].x.frm) ∧ w.cell? ⟨G, i * 4 + 1, none⟩ = some (.int .i64 es[i].x.cat) ∧ w.cell? ⟨G, i * 4 + 2, none⟩ = some (.int .i64 es[i].x.sq) ∧ w.cell? ⟨G, i * 4 + 3, none⟩ = some (.int .i64 es[i].x.fr) ∧ (∀ p, w.frozen? ⟨G, p, none⟩ = false) ∧ G < w.heap.size :=
  ⟨(h.at_ hi (j := 0) (by decide)).1, (h.at_ hi (j := 1) (by decide)).1, (h.at_ hi (j := 2) (by decide)).1, (h.at_ hi (j := 3) (by decide)).1, (h.at_ hi (j := 3) (by decide)).2⟩
theorem ownE_seen3 {w : World} {B C G : Nat} {T : TypeId} {es : List (El Seen)} (h : OwnE kSeen w B C G T es) {i : Nat} (hi : i < es.length) (x y z u : Int) :
    OwnE kSeen ((((w.setCell ⟨G, i * 4, none⟩ (.int .i64 x)).setCell ⟨G, i * 4 + 1, none⟩ (.int .i64 y)).setCell ⟨G, i * 4 + 2, none⟩ (.int .i64 z)).setCell ⟨G, i * 4 + 3, none⟩ (.int .i64 u)) B C G T (es.set i { es[i] with x := ⟨x, y, z, u⟩ }) := by
  have h1 := h.setHd i hi 0 (by decide) { es[i].x with frm := x } (.int .i64 x) rfl (fun v => rfl)
  have h2 := h1.setHd i (by simpa using hi) 1 (by decide) ⟨x, y, es[i].x.sq, es[i].x.fr⟩ (.int .i64 y) (by simp [kSeen]) (fun v => by simp [kSeen])
  have h3 := h2.setHd i (by simpa using hi) 2 (by decide) ⟨x, y, z, es[i].x.fr⟩ (.int .i64 z) (by simp [kSeen]) (fun v => by simp [kSeen])
  have h3 := h3.setHd i (by simpa using hi) 3 (by decide) ⟨x, y, z, u⟩ (.int .i64 u) (by simp [kSeen]) (fun v => by simp [kSeen])
  simpa [show kSeen.size = 4 from rfl] using h3
theorem markSeenS_ (w : World) (A : Option Addr) (n c B C : Nat) (k : Int) (l : List Seen) (hn : l.length = n) (hO : Own kSeen w B C A l) (hk : 1 ≤ k) (hs : k + (sumC cSeen l : Nat) ≤ 1073741824) :
    Calls Try.prog 45 #[.slice A n c, .int .i64 k] w fun e w' => e = .returned (.int .i64 (k + (sumC cSeen l : Nat))) ∧ Chg w w' (fun b => B ≤ b ∧ b < C) ∧ w'.heap.size = w.heap.size ∧ Own kSeen w' B C A (markL mkSeen cSeen k l) := by
  subst hn
  by_cases hl : l = []
  · subst hl
    clear hO hs
    simp only [List.length_nil]
    go_enter Try.func45, Try.ntmps45
    go_wp2
    go_loopw [1, 5] (fun kv i wr => kv = .int .i64 k ∧ i = .int .i64 0 ∧ wr = w) (fun _ _ _ => 0)
    case atStart => exact ⟨rfl, rfl, rfl⟩
    case round =>
      obtain ⟨rfl, rfl, rfl⟩ := hrel
      go_wp2
      go_ret
      exact ⟨by simp [sumC], Chg.refl _ _, rfl, .inl rfl⟩
  · obtain ⟨G, T, es0, rfl, hE0, hmap0⟩ := hO.open_ hl
    have hin := Lib.hid hE0
    have hmp := Lib.hid hmap0
    have hlim := Lib.hid (show l.length ≤ sumC cSeen l from by
      clear hs hO hl hE0 hmap0 hin hmp
      induction l with
      | nil => simp
      | cons x xs ih => simp only [sumC, cSeen, List.map_cons, List.sum_cons, List.length_cons] at ih ⊢; omega)
    have hln : l.length ≤ 1073741824 := by have := hlim.out; omega
    have hs' := Lib.hid hs
    clear hO hl hE0 hmap0 hs
    go_enter Try.func45, Try.ntmps45
    go_wp2
    go_loopw [1, 5] (fun kv i wr => ∃ m : Nat, ∃ kk : Int, m ≤ l.length ∧ i = .int .i64 m ∧ kv = .int .i64 kk ∧ Hid (kk = k + (sumC cSeen (l.take m) : Nat)) ∧ Hid (∃ es : List (El Seen), OwnE kSeen wr B C G T es ∧ es.map (·.x) = markL mkSeen cSeen k (l.take m) ++ l.drop m) ∧ Chg w wr (fun b => B ≤ b ∧ b < C) ∧ wr.heap.size = w.heap.size) (fun _ i _ => l.length - (intOf i).toNat)
    case atStart => exact ⟨0, k, Nat.zero_le _, rfl, rfl, Lib.hid (by simp [sumC]), Lib.hid ⟨es0, hin.out, by rw [hmp.out]; simp [markL]⟩, Chg.refl _ _, rfl⟩
    case round =>
      obtain ⟨m, kk, hm, rfl, rfl, hkk, hI, hC, hz⟩ := hrel
      clear hin hmp
      by_cases hlt : m < l.length
      · obtain ⟨es, hO, hmap⟩ := hI.out
        have hel : m < es.length := by
          have := congrArg List.length hmap
          simp [markL_len] at this
          omega
        have hx : es[m].x = l[m] := by
          have := mem_get hmap (m := m) (by simpa using hel) (by simp [markL_len]; omega)
          rw [markL_mid _ _ _ hlt] at this
          simpa using this
        have hkr : 1 ≤ kk ∧ kk + cSeen l[m] ≤ 1073741824 := by
          have h1 := hkk.out
          have h2 := sumC_take (ct := cSeen) l m hlt
          have h3 := sumC_le (ct := cSeen) l (m + 1)
          have h4 := hs'.out
          omega
        have hcm : cSeen l[m] = 4 := rfl
        obtain ⟨k0, k1, k2, k3, hf, hG⟩ := ownE_seen hO hel
        have hO3 := ownE_seen3 hO hel kk (kk + 1) (kk + 1 + 1) (kk + 1 + 1 + 1)
        have hGB := Lib.hid (show B ≤ G ∧ G < C from ⟨hO.1, hO.2.1⟩)
        have hfin := Lib.hid (show ∃ es : List (El Seen), OwnE kSeen ((((wr.setCell ⟨G, m * 4, none⟩ (.int .i64 kk)).setCell ⟨G, m * 4 + 1, none⟩ (.int .i64 (kk + 1))).setCell ⟨G, m * 4 + 2, none⟩ (.int .i64 (kk + 1 + 1))).setCell ⟨G, m * 4 + 3, none⟩ (.int .i64 (kk + 1 + 1 + 1))) B C G T es ∧ es.map (·.x) = markL mkSeen cSeen k (l.take (m + 1)) ++ l.drop (m + 1) from
          ⟨_, hO3, by rw [map_set_x, hmap, ← markL_step l k m hlt, hkk.out]; rfl⟩)
        rw [hx] at k0 k1 k2 k3
        clear hO3 hO hmap hI hx
        go_wp2
        go_roundw
        case rel =>
          exact ⟨m + 1, _, by omega, by go_num, rfl, Lib.hid (by rw [sumC_take l m hlt, hkk.out, hcm]; omega), hfin, (((hC.set (p := ⟨G, m * 4, none⟩) hGB.out _).set (p := ⟨G, m * 4 + 1, none⟩) hGB.out _).set (p := ⟨G, m * 4 + 2, none⟩) hGB.out _).set (p := ⟨G, m * 4 + 3, none⟩) hGB.out _, by simpa using hz⟩
        case measure => simp [intOf]; omega
      · obtain rfl : m = l.length := by omega
        have hF := Lib.hid (show Own kSeen wr B C (some ⟨G, 0, none⟩) (markL mkSeen cSeen k l) from by
          obtain ⟨es, hO, hmap⟩ := hI.out
          rw [List.take_length, List.drop_length, List.append_nil] at hmap
          rw [← hmap]
          exact hO.own)
        have hkl := hkk.out
        rw [List.take_length] at hkl
        subst hkl
        clear hI hkk
        go_wp2
        go_ret
        exact ⟨rfl, hC, hz, hF.out⟩
theorem heldSeenS_ (w : World) (A : Option Addr) (n c : Nat) (k : Int) (l : List Seen) (hn : l.length = n) (hM : Els w A 4 (kE kSeen) (markL mkSeen cSeen k l)) (hk : 1 ≤ k) (hs : k + (sumC cSeen l : Nat) ≤ 1073741824) :
    Calls Try.prog 46 #[.slice A n c, .int .i64 k] w fun e w' => e = .returned (.int .i64 (k + (sumC cSeen l : Nat))) ∧ Below w.heap.size w w' := by
  subst hn
  have hlim := Lib.hid (show l.length ≤ sumC cSeen l from by
    clear hs hM
    induction l with
    | nil => simp
    | cons x xs ih => simp only [sumC, cSeen, List.map_cons, List.sum_cons, List.length_cons] at ih ⊢; omega)
  have hln : l.length ≤ 1073741824 := by have := hlim.out; omega
  have hs' := Lib.hid hs
  clear hs
  go_enter Try.func46, Try.ntmps46
  go_wp2
  go_loopw [1, 5] (fun kv i wr => ∃ m : Nat, ∃ kk : Int, m ≤ l.length ∧ i = .int .i64 m ∧ kv = .int .i64 kk ∧ Hid (kk = k + (sumC cSeen (l.take m) : Nat)) ∧ Ext w wr) (fun _ i _ => l.length - (intOf i).toNat)
  case atStart => exact ⟨0, k, Nat.zero_le _, rfl, rfl, Lib.hid (by simp [sumC]), Ext.refl _⟩
  case round =>
    obtain ⟨m, kk, hm, rfl, rfl, hkk, hE⟩ := hrel
    by_cases hlt : m < l.length
    · obtain ⟨b, off, rfl, hb, hc⟩ := (els_up hM hE).at_ (List.ne_nil_of_length_pos (by rw [markL_len]; omega))
      obtain ⟨k0, k1, k2, k3⟩ := els_seen hc m (by rw [markL_len]; exact hlt)
      rw [markL_get l k m hlt, ← hkk.out] at k0 k1 k2 k3
      have hkr : 1 ≤ kk ∧ kk + cSeen l[m] ≤ 1073741824 := by
        have h1 := hkk.out
        have h2 := sumC_take (ct := cSeen) l m hlt
        have h3 := sumC_le (ct := cSeen) l (m + 1)
        have h4 := hs'.out
        omega
      have hcm : cSeen l[m] = 4 := rfl
      simp only [mkSeen] at k0 k1 k2 k3
      clear hc hM
      go_wp2
      go_roundw
      case rel =>
        exact ⟨m + 1, _, by omega, by go_num, rfl, Lib.hid (by rw [sumC_take l m hlt, hkk.out, hcm]; omega), hE⟩
      case measure => simp [intOf]; omega
    · obtain rfl : m = l.length := by omega
      have hkl := hkk.out
      rw [List.take_length] at hkl
      subst hkl
      clear hM hkk
      go_wp2
      go_ret
      exact ⟨rfl, hE⟩
theorem mark1Msg_ (w : World) (t1 c1 d1 : Int) (A : Option Addr) (n c g : Nat) (k : Int) (hk : 1 ≤ k ∧ k ≤ 1099511627776) (hn : n ≤ 1073741824) (hb : n = 0 ∨ A = some ⟨g, 0, none⟩ ∧ ∃ (cs : Array Value) (T : TypeId), w.heap[g]? = some (.cells cs T (0, 0)) ∧ n ≤ cs.size) :
    Calls Try.prog 52 #[.agg #[.int .i64 t1, .int .i64 c1, .int .i64 d1, .slice A n c], .int .i64 k] w fun e w' => e = .returned (.int .i64 (k + n)) ∧ Chg w w' (fun b => n ≠ 0 ∧ b = g) ∧
      (n ≠ 0 → ∃ (cs : Array Value) (T : TypeId), w'.heap[g]? = some (.cells cs T (0, 0)) ∧ ∀ (j : Nat) (u : Int), (bytesK k n)[j]? = some u → cs[j]? = some (Value.int .u8 u)) := by
  have hE := Ext.alloc_ w (.cells #[.int .i64 t1, .int .i64 c1, .int .i64 d1, .slice A n c] 71)
  have hb' := Lib.hid (show n = 0 ∨ A = some ⟨g, 0, none⟩ ∧ ∃ (cs : Array Value) (T : TypeId), (w.alloc (.cells #[.int .i64 t1, .int .i64 c1, .int .i64 d1, .slice A n c] 71)).heap[g]? = some (.cells cs T (0, 0)) ∧ n ≤ cs.size from hb.imp_right fun ⟨h1, cs, T, h2, h3⟩ => ⟨h1, cs, T, ext_blk hE h2, h3⟩)
  have hE' := Lib.hid hE
  clear hb hE
  go_enter Try.func52, Try.ntmps52
  go_wp2_with fail
  refine (markByteS_ _ _ _ _ g _ hk hn hb'.out).mono ?_
  rintro e w1 ⟨rfl, h1, h2, h3, h4⟩
  have h1' := Lib.hid h1
  have h3' := Lib.hid h3
  have h4' := Lib.hid h4
  clear h1 h2 h3 h4
  go_wp2_with fail
  go_ret
  exact ⟨rfl, (Chg.of_ext _ hE'.out).trans (chg_body h1'.out h3'.out (fun h => ⟨h, rfl⟩)), h4'.out⟩
theorem held1Msg_ (w : World) (t1 c1 d1 : Int) (A : Option Addr) (n c : Nat) (k : Int) (hk : 1 ≤ k ∧ k ≤ 1099511627776) (hn : n ≤ 1073741824) (hr : RB w A c (bytesK k n)) :
    Calls Try.prog 53 #[.agg #[.int .i64 t1, .int .i64 c1, .int .i64 d1, .slice A n c], .int .i64 k] w fun e w' => e = .returned (.int .i64 (k + n)) ∧ Below w.heap.size w w' := by
  have hr' := Lib.hid (hr.ext (Ext.alloc_ w (.cells #[.int .i64 t1, .int .i64 c1, .int .i64 d1, .slice A n c] 71)))
  clear hr
  have hnn : ¬ (k + (n : Int) < 0) := by omega
  go_enter Try.func53, Try.ntmps53
  go_wp2_with fail
  refine (heldByteS_ _ _ _ _ _ hk hn hr'.out).mono ?_
  rintro e w1 ⟨rfl, h1⟩
  go_wp2_with fail
  go_ret
  exact ⟨rfl, Ext.trans (Ext.alloc_ _ _) h1⟩
theorem mark1Rea_ (w : World) (frm sq nx st : Int) (A : Option Addr) (n c g : Nat) (k : Int) (hk : 1 ≤ k ∧ k ≤ 1099511627776) (hn : n ≤ 1073741824) (hb : n = 0 ∨ A = some ⟨g, 0, none⟩ ∧ ∃ (cs : Array Value) (T : TypeId), w.heap[g]? = some (.cells cs T (0, 0)) ∧ n ≤ cs.size) :
    Calls Try.prog 24 #[.agg #[.int .i64 frm, .int .i64 sq, .int .i64 nx, .slice A n c, .int .i64 st], .int .i64 k] w fun e w' => e = .returned (.int .i64 (k + n)) ∧ Chg w w' (fun b => n ≠ 0 ∧ b = g) ∧
      (n ≠ 0 → ∃ (cs : Array Value) (T : TypeId), w'.heap[g]? = some (.cells cs T (0, 0)) ∧ ∀ (j : Nat) (u : Int), (bytesK k n)[j]? = some u → cs[j]? = some (Value.int .u8 u)) := by
  have hE := Ext.alloc_ w (.cells #[.int .i64 frm, .int .i64 sq, .int .i64 nx, .slice A n c, .int .i64 st] 31)
  have hb' := Lib.hid (show n = 0 ∨ A = some ⟨g, 0, none⟩ ∧ ∃ (cs : Array Value) (T : TypeId), (w.alloc (.cells #[.int .i64 frm, .int .i64 sq, .int .i64 nx, .slice A n c, .int .i64 st] 31)).heap[g]? = some (.cells cs T (0, 0)) ∧ n ≤ cs.size from hb.imp_right fun ⟨h1, cs, T, h2, h3⟩ => ⟨h1, cs, T, ext_blk hE h2, h3⟩)
  have hE' := Lib.hid hE
  clear hb hE
  go_enter Try.func24, Try.ntmps24
  go_wp2_with fail
  refine (markByteS_ _ _ _ _ g _ hk hn hb'.out).mono ?_
  rintro e w1 ⟨rfl, h1, h2, h3, h4⟩
  have h1' := Lib.hid h1
  have h3' := Lib.hid h3
  have h4' := Lib.hid h4
  clear h1 h2 h3 h4
  go_wp2_with fail
  go_ret
  exact ⟨rfl, (Chg.of_ext _ hE'.out).trans (chg_body h1'.out h3'.out (fun h => ⟨h, rfl⟩)), h4'.out⟩
theorem held1Rea_ (w : World) (frm sq nx st : Int) (A : Option Addr) (n c : Nat) (k : Int) (hk : 1 ≤ k ∧ k ≤ 1099511627776) (hn : n ≤ 1073741824) (hr : RB w A c (bytesK k n)) :
    Calls Try.prog 25 #[.agg #[.int .i64 frm, .int .i64 sq, .int .i64 nx, .slice A n c, .int .i64 st], .int .i64 k] w fun e w' => e = .returned (.int .i64 (k + n)) ∧ Below w.heap.size w w' := by
  have hr' := Lib.hid (hr.ext (Ext.alloc_ w (.cells #[.int .i64 frm, .int .i64 sq, .int .i64 nx, .slice A n c, .int .i64 st] 31)))
  clear hr
  have hnn : ¬ (k + (n : Int) < 0) := by omega
  go_enter Try.func25, Try.ntmps25
  go_wp2_with fail
  refine (heldByteS_ _ _ _ _ _ hk hn hr'.out).mono ?_
  rintro e w1 ⟨rfl, h1⟩
  go_wp2_with fail
  go_ret
  exact ⟨rfl, Ext.trans (Ext.alloc_ _ _) h1⟩
theorem mark1Mac_ (w : World) (kd fm to sq fr : Int) (mo re : Bool) (du : Int) (A : Option Addr) (n c g : Nat) (k : Int) (hk : 1 ≤ k ∧ k ≤ 1099511627776) (hn : n ≤ 1073741824) (hb : n = 0 ∨ A = some ⟨g, 0, none⟩ ∧ ∃ (cs : Array Value) (T : TypeId), w.heap[g]? = some (.cells cs T (0, 0)) ∧ n ≤ cs.size) :
    Calls Try.prog 23 #[.agg #[.int .i64 kd, .int .i64 fm, .int .i64 to, .int .i64 sq, .int .i64 fr, .bool mo, .bool re, .int .i64 du, .slice A n c], .int .i64 k] w fun e w' => e = .returned (.int .i64 (k + n)) ∧ Chg w w' (fun b => n ≠ 0 ∧ b = g) ∧
      (n ≠ 0 → ∃ (cs : Array Value) (T : TypeId), w'.heap[g]? = some (.cells cs T (0, 0)) ∧ ∀ (j : Nat) (u : Int), (bytesK k n)[j]? = some u → cs[j]? = some (Value.int .u8 u)) := by
  have hE := Ext.alloc_ w (.cells #[.int .i64 kd, .int .i64 fm, .int .i64 to, .int .i64 sq, .int .i64 fr, .bool mo, .bool re, .int .i64 du, .slice A n c] 33)
  have hb' := Lib.hid (show n = 0 ∨ A = some ⟨g, 0, none⟩ ∧ ∃ (cs : Array Value) (T : TypeId), (w.alloc (.cells #[.int .i64 kd, .int .i64 fm, .int .i64 to, .int .i64 sq, .int .i64 fr, .bool mo, .bool re, .int .i64 du, .slice A n c] 33)).heap[g]? = some (.cells cs T (0, 0)) ∧ n ≤ cs.size from hb.imp_right fun ⟨h1, cs, T, h2, h3⟩ => ⟨h1, cs, T, ext_blk hE h2, h3⟩)
  have hE' := Lib.hid hE
  clear hb hE
  go_enter Try.func23, Try.ntmps23
  go_wp2_with fail
  refine (markByteS_ _ _ _ _ g _ hk hn hb'.out).mono ?_
  rintro e w1 ⟨rfl, h1, h2, h3, h4⟩
  have h1' := Lib.hid h1
  have h3' := Lib.hid h3
  have h4' := Lib.hid h4
  clear h1 h2 h3 h4
  go_wp2_with fail
  go_ret
  exact ⟨rfl, (Chg.of_ext _ hE'.out).trans (chg_body h1'.out h3'.out (fun h => ⟨h, rfl⟩)), h4'.out⟩
theorem markTq_ (w : World) (A : Option Addr) (n c B C : Nat) (d k : Int) (l : List Msg) (hn : l.length = n) (hO : Own kMsg w B C A l) (hBC : C ≤ w.heap.size) (hk : 1 ≤ k) (hs : k + (sumC cMsg l : Nat) ≤ 1073741824) :
    Calls Try.prog 38 #[.agg #[.slice A n c, .int .i64 d], .int .i64 k] w fun e w' => e = .returned (.int .i64 (k + (sumC cMsg l : Nat))) ∧ Chg w w' (fun b => B ≤ b ∧ b < C) ∧ Own kMsg w' B C A (markL mkMsg cMsg k l) := by
  have hE := Ext.alloc_ w (.cells #[.slice A n c, .int .i64 d] 54)
  have hO' := Lib.hid (hO.ext hE)
  have hE' := Lib.hid hE
  have hn' := Lib.hid hn
  have hs' := Lib.hid hs
  clear hO hE hn hs
  go_enter Try.func38, Try.ntmps38
  go_wp2_with fail
  refine (markMsgS_ _ _ _ _ B C _ l hn'.out hO'.out hk hs'.out).mono ?_
  rintro e w1 ⟨rfl, h1, h2, h3⟩
  have h1' := Lib.hid h1
  have h3' := Lib.hid h3
  clear h1 h2 h3
  go_wp2_with fail
  go_ret
  exact ⟨rfl, (Chg.of_ext _ hE'.out).trans h1'.out, h3'.out⟩
theorem heldTq_ (w : World) (A : Option Addr) (n c : Nat) (d k : Int) (l : List Msg) (hn : l.length = n) (hM : Els w A 4 (kE kMsg) (markL mkMsg cMsg k l)) (hk : 1 ≤ k) (hs : k + (sumC cMsg l : Nat) ≤ 1073741824) :
    Calls Try.prog 39 #[.agg #[.slice A n c, .int .i64 d], .int .i64 k] w fun e w' => e = .returned (.int .i64 (k + (sumC cMsg l : Nat))) ∧ Below w.heap.size w w' := by
  have hM' := Lib.hid (els_up hM (Ext.alloc_ w (.cells #[.slice A n c, .int .i64 d] 54)))
  have hn' := Lib.hid hn
  have hs' := Lib.hid hs
  have hnn : ¬ (k + (sumC cMsg l : Nat) < 0) := by omega
  clear hM hn hs
  go_enter Try.func39, Try.ntmps39
  go_wp2_with fail
  refine (heldMsgS_ _ _ _ _ _ l hn'.out hM'.out hk hs'.out).mono ?_
  rintro e w1 ⟨rfl, h1⟩
  go_wp2_with fail
  go_ret
  exact ⟨rfl, Ext.trans (Ext.alloc_ _ _) h1⟩
end Go.Proofs.Ytcjppmihmfcagaa
