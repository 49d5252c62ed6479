/- The law on fragments: its walk. -/
import Derived.Test.YtkmklafjcjkpdaaFrd
import Derived.Test.YtkmklafjcjkpdaaAde
import Derived.Test.YtkmklafjcjkpdaaG19
import Derived.Test.YtkmklafjcjkpdaaSam
import Derived.Test.YtkmklafjcjkpdaaLs
namespace Go.Proofs.Ytkmklafjcjkpdaa
open Go.RowKit
set_option linter.unusedVariables false
set_option linter.unusedSimpArgs false
theorem frag_cover {b : Nat} {t : Int} {N tn : Nat} (h : fragV b t = N) (hN : 1 ≤ N) (ht : t = tn) (h1 : 1 ≤ tn) : b ≤ N * tn := by
  unfold fragV at h
  split at h
  · omega
  · split at h
    · omega
    · have h2 := Int.lt_ediv_add_one_mul_self ((b : Int) + t - 1) (by omega : 0 < t)
      rw [h, ht, Int.add_mul] at h2
      have h3 : ((N * tn : Nat) : Int) = (N : Int) * tn := by rw [Int.natCast_mul]
      omega
def pcK (l : List Int) (tn k : Nat) : List Int := (l.drop (k * tn)).take (min ((k + 1) * tn) l.length - k * tn)
theorem pc_len (l : List Int) (tn k : Nat) : (pcK l tn k).length ≤ tn := by
  unfold pcK
  rw [List.length_take]
  have : (k + 1) * tn = k * tn + tn := Nat.succ_mul k tn
  omega
theorem take_min (l : List Int) (x : Nat) : l.take (min x l.length) = l.take x := by
  by_cases h : x ≤ l.length
  · rw [Nat.min_eq_left h]
  · rw [Nat.min_eq_right (by omega), List.take_length, List.take_of_length_le (by omega)]
theorem pre_next (l : List Int) (tn k : Nat) (h : k * tn ≤ l.length) : l.take (k * tn) ++ pcK l tn k = l.take ((k + 1) * tn) := by
  unfold pcK
  rw [← List.take_add, ← take_min l ((k + 1) * tn)]
  congr 1
  have : (k + 1) * tn = k * tn + tn := Nat.succ_mul k tn
  omega
theorem els_one {w : World} {g : Nat} {T : TypeId} {m : Rea} {A : Option Addr} {n c : Nat} (h : w.heap[g]? = some (.cells #[.int .i64 m.frm, .int .i64 m.sq, .int .i64 m.nx, .slice A n c, .int .i64 m.st] T (0, 0))) (hn : n = m.body.length) (hr : RB w A c m.body) : Els w (some ⟨g, 0, none⟩) 5 (kE kRea) [m] := by
  subst hn
  obtain ⟨q1, -, q3⟩ := blk_cells h
  refine .inr ⟨g, 0, rfl, q3, fun i hi => ?_⟩
  obtain rfl : i = 0 := by simp at hi; omega
  refine ⟨_, ⟨A, c, rfl, hr⟩, fun j u hu => ?_⟩
  rw [q1]
  have e : (0 + 0 * 5 + j) = j := by omega
  rw [e]
  rw [← hu]
  rcases j with _ | _ | _ | _ | _ | j <;> rfl
def mkR (fm sq : Int) (l : List Int) (tn k : Nat) : Rea := { frm := fm, sq := sq, nx := (k : Int), st := 7, body := l.take (k * tn) }
theorem fAddB (w : World) (kd fm ta sq : Int) (k : Nat) (re : Bool) (du : Int) (B : Option Addr) (cB PL : Nat) (A : Option Addr) (c : Nat) (now : Int) (l P : List Int) (tn : Nat) (hk16 : k ≤ 16) (hp : PL = P.length) (hPL : PL ≤ 32) (hr : RB w B cB P) (hz : k = 0) (hf : l.take (k * tn) ++ P = l) :
    Calls Try.prog 85 #[.slice A 0 c, .agg #[.int .i64 kd, .int .i64 fm, .int .i64 ta, .int .i64 sq, .int .i64 (k : Int), .bool false, .bool re, .int .i64 du, .slice B PL cB], .int .i64 now] w fun e w' => ∃ (A' : Option Addr) (c' : Nat) (B' : Option Addr) (cB' : Nat), e = .returned (.tuple #[.slice A' 0 c', .slice B' l.length cB', .bool true]) ∧ Ext w w' ∧ RB w' B' cB' l := by
  subst hz
  subst hp
  have hPe : P = l := by simpa using hf
  subst hPe
  exact iAddB w kd fm ta sq re du A c B cB now P hr (by omega)
theorem fAddA (w : World) (kd fm ta sq : Int) (k : Nat) (re : Bool) (du : Int) (B : Option Addr) (cB PL : Nat) (A : Option Addr) (c : Nat) (now : Int) (l P : List Int) (tn : Nat) (hk16 : k ≤ 16) (hp : PL = P.length) (hPL : PL ≤ 32) (hr : RB w B cB P) (hz : k = 0) (h7 : now = 7) (hf : l.take (k * tn) ++ P = l.take ((k + 1) * tn)) :
    Calls Try.prog 85 #[.slice A 0 c, .agg #[.int .i64 kd, .int .i64 fm, .int .i64 ta, .int .i64 sq, .int .i64 (k : Int), .bool true, .bool re, .int .i64 du, .slice B PL cB], .int .i64 now] w fun e w' => ∃ (A' : Option Addr) (c' : Nat) (B' : Option Addr) (cB' : Nat), e = .returned (.tuple #[.slice A' 1 c', .slice B' 0 cB', .bool false]) ∧ Ext w w' ∧ Els w' A' 5 (kE kRea) [mkR fm sq l tn (k + 1)] := by
  subst hz
  subst hp
  subst h7
  have hPe : P = l.take ((0 + 1) * tn) := by simpa using hf
  refine (iAddA w kd fm ta sq re du A c B cB 7 P hr (by omega)).mono ?_
  rintro e w' ⟨A', c', B', cB', h1, h2, h3⟩
  refine ⟨A', c', B', cB', h1, h2, ?_⟩
  have hm : mkR fm sq l tn (0 + 1) = ({ frm := fm, sq := sq, nx := 1, body := P, st := 7 } : Rea) := by
    rw [hPe]; rfl
  rw [hm]
  exact h3
theorem fAddC (w : World) (kd fm ta sq : Int) (k : Nat) (re : Bool) (du : Int) (B : Option Addr) (cB PL : Nat) (A : Option Addr) (c : Nat) (now : Int) (l P : List Int) (tn : Nat) (hk16 : k ≤ 16) (hp : PL = P.length) (hPL : PL ≤ 32) (hr : RB w B cB P) (hz : 0 < k) (mo : Bool) :
    Calls Try.prog 85 #[.slice A 0 c, .agg #[.int .i64 kd, .int .i64 fm, .int .i64 ta, .int .i64 sq, .int .i64 (k : Int), .bool mo, .bool re, .int .i64 du, .slice B PL cB], .int .i64 now] w fun e w' => ∃ (A' : Option Addr) (c' : Nat) (B' : Option Addr) (cB' : Nat), e = .returned (.tuple #[.slice A' 0 c', .slice B' 0 cB', .bool false]) ∧ Ext w w' := by
  subst hp
  exact iAddC w kd fm ta sq re du A c B cB now P k mo (by omega) hr (by omega)
theorem fAddD (w : World) (kd fm ta sq : Int) (k : Nat) (re : Bool) (du : Int) (B : Option Addr) (cB PL : Nat) (A : Option Addr) (c : Nat) (now : Int) (l P : List Int) (tn : Nat) (hk16 : k ≤ 16) (hp : PL = P.length) (hPL : PL ≤ 32) (hr : RB w B cB P) (hz : 0 < k) (hl : l.length ≤ 32) (mo : Bool) (hM : Els w A 5 (kE kRea) [mkR fm sq l tn (k + 1)]) :
    Calls Try.prog 85 #[.slice A 1 c, .agg #[.int .i64 kd, .int .i64 fm, .int .i64 ta, .int .i64 sq, .int .i64 (k : Int), .bool mo, .bool re, .int .i64 du, .slice B PL cB], .int .i64 now] w fun e w' => ∃ (A' : Option Addr) (c' : Nat) (B' : Option Addr) (cB' : Nat), e = .returned (.tuple #[.slice A' 1 c', .slice B' 0 cB', .bool false]) ∧ Ext w w' ∧ Els w' A' 5 (kE kRea) [mkR fm sq l tn (k + 1)] := by
  subst hp
  refine iAddD w kd ta re du A c B cB now P (mkR fm sq l tn (k + 1)) hM ?_ k mo (by omega) ?_ hr (by omega)
  · show (l.take ((k + 1) * tn)).length ≤ _
    rw [List.length_take]
    omega
  · show ((k + 1 : Nat) : Int) ≠ k
    omega
theorem cat_len {l a b : List Int} {x : Nat} (h : a ++ b = l.take x) : a.length + b.length ≤ l.length := by
  have h1 := congrArg List.length h
  rw [List.length_append, List.length_take] at h1
  omega
theorem fAddF (w : World) (kd fm ta sq : Int) (k : Nat) (re : Bool) (du : Int) (B : Option Addr) (cB PL : Nat) (A : Option Addr) (c : Nat) (now : Int) (l P : List Int) (tn : Nat) (hk16 : k ≤ 16) (hp : PL = P.length) (hPL : PL ≤ 32) (hr : RB w B cB P) (hz : 0 < k) (hl : l.length ≤ 32) (hM : Els w A 5 (kE kRea) [mkR fm sq l tn k]) (hf : l.take (k * tn) ++ P = l) :
    Calls Try.prog 85 #[.slice A 1 c, .agg #[.int .i64 kd, .int .i64 fm, .int .i64 ta, .int .i64 sq, .int .i64 (k : Int), .bool false, .bool re, .int .i64 du, .slice B PL cB], .int .i64 now] w fun e w' => ∃ (A' : Option Addr) (c' : Nat) (B' : Option Addr) (cB' : Nat), e = .returned (.tuple #[.slice A' 0 c', .slice B' l.length cB', .bool true]) ∧ Ext w w' ∧ RB w' B' cB' l := by
  subst hp
  have h2 := cat_len (x := l.length) (hf.trans (List.take_length).symm)
  have h3 := iAddF w kd ta re du A c B cB now P (mkR fm sq l tn k) hM (by show (l.take (k * tn)).length ≤ _; omega) (by show (0 : Int) < (k : Int); omega) (by show (k : Int) ≤ _; omega) (by show (l.take (k * tn)).length + _ ≤ _; omega) hr (by omega)
  rw [show (mkR fm sq l tn k).body ++ P = l from hf] at h3
  exact h3
theorem fAddE (w : World) (kd fm ta sq : Int) (k : Nat) (re : Bool) (du : Int) (B : Option Addr) (cB PL : Nat) (A : Option Addr) (c : Nat) (now : Int) (l P : List Int) (tn : Nat) (hk16 : k ≤ 16) (hp : PL = P.length) (hPL : PL ≤ 32) (hr : RB w B cB P) (hz : 0 < k) (hl : l.length ≤ 32) (hM : Els w A 5 (kE kRea) [mkR fm sq l tn k]) (hf : l.take (k * tn) ++ P = l.take ((k + 1) * tn)) :
    Calls Try.prog 85 #[.slice A 1 c, .agg #[.int .i64 kd, .int .i64 fm, .int .i64 ta, .int .i64 sq, .int .i64 (k : Int), .bool true, .bool re, .int .i64 du, .slice B PL cB], .int .i64 now] w fun e w' => ∃ (A' : Option Addr) (c' : Nat) (B' : Option Addr) (cB' : Nat), e = .returned (.tuple #[.slice A' 1 c', .slice B' 0 cB', .bool false]) ∧ Ext w w' ∧ Els w' A' 5 (kE kRea) [mkR fm sq l tn (k + 1)] := by
  subst hp
  have h2 := cat_len hf
  have h3 := iAddE w kd ta re du A c B cB now P (mkR fm sq l tn k) hM (by show (l.take (k * tn)).length ≤ _; omega) (by show (0 : Int) < (k : Int); omega) (by show (k : Int) ≤ _; omega) (by show (l.take (k * tn)).length + _ ≤ _; omega) hr (by omega)
  have hm : mkR fm sq l tn (k + 1) = ({ mkR fm sq l tn k with nx := (mkR fm sq l tn k).nx + 1, body := (mkR fm sq l tn k).body ++ P } : Rea) := by
    show mkR fm sq l tn (k + 1) = ({ frm := fm, sq := sq, nx := (k : Int) + 1, body := l.take (k * tn) ++ P, st := 7 } : Rea)
    rw [hf]
    rfl
  rw [hm]
  exact h3
theorem byt_take {l : List Int} (h : ∀ x ∈ l, 0 ≤ x ∧ x ≤ 255) (hl : l.length ≤ 32) (n : Nat) : Byt (l.take n) :=
  ⟨by rw [List.length_take]; unfold maxLen; omega, fun z hz => h z (List.mem_of_mem_take hz)⟩
set_option maxRecDepth 8000 in
set_option maxHeartbeats 8000000 in
theorem walk_FnFragments (a0 : Option Addr) (n0 c0 : Nat) (w : World) (r0 : Rd Try.prog w 22 [.slice a0 n0 c0]) :
    Calls Try.prog 12 #[.slice a0 n0 c0] w fun e w' => e = .returned (.bool true) ∧ Below w.heap.size w w' := by
  obtain ⟨l0, hn, hr, hb, hm⟩ := view_code r0
  clear r0
  by_cases hbig : (1048576 : Int) < n0
  · go_enter Try.func12, Try.ntmps12
    go_wp2_with fail
    refine (big_ _ _ _ _ hm).mono ?_
    rintro e w' ⟨rfl, rfl⟩
    rw [decide_eq_true hbig]
    go_wp2_with fail
    go_ret
    exact ⟨rfl, Below.refl _ _⟩
  · have hn01 : n0 ≤ 1048576 := by omega
    go_enter Try.func12, Try.ntmps12
    go_wp2_with fail
    refine (big_ _ _ _ _ hm).mono ?_
    rintro e w' ⟨rfl, rfl⟩
    rw [decide_eq_false (by omega)]
    go_wp2_with fail
    refine (sDrawFrg _ _ _ _ l0 hn hr hb hn01).mono ?_
    rintro e w1 ⟨kd, fm, ta, sq, fr, mo, re, du, G, c, l, t, rfl, hl32, hlb, ht, hR, hE⟩
    have e2 := Ext.alloc_ w1 (.cells #[.int .i64 kd, .int .i64 fm, .int .i64 ta, .int .i64 sq, .int .i64 fr, .bool mo, .bool re, .int .i64 du, .slice (some ⟨G, 0, none⟩) l.length c] 66)
    have b2 := Lib.hid (new_blk1 w1 #[.int .i64 kd, .int .i64 fm, .int .i64 ta, .int .i64 sq, .int .i64 fr, .bool mo, .bool re, .int .i64 du, .slice (some ⟨G, 0, none⟩) l.length c] 66)
    have E2 := Lib.hid (Ext.trans hE e2)
    have R2 := Lib.hid (hR.ext e2)
    have HB := Lib.hid hlb
    obtain ⟨nb, hnb⟩ : ∃ nb, nb = l.length := ⟨_, rfl⟩
    have HN := Lib.hid hnb
    rw [← hnb] at b2 E2 R2 hl32 ⊢
    clear hn hr hb hm hbig hE e2 hR hlb hnb
    go_wp2_with fail
    generalize World.alloc w1 _ = w2 at *
    generalize w1.heap.size = gf at *
    refine (iFrgsC _ _ _ _ _ _ _ _ _ G nb c t l HN.out.symm R2.out (by omega)).mono ?_
    rintro e w3 ⟨AL, cL, rfl, h3, hO3⟩
    obtain ⟨L, hL⟩ : ∃ L, L = frgL ⟨kd, fm, ta, sq, fr, mo, re, du, l⟩ t := ⟨_, rfl⟩
    obtain ⟨N, hN⟩ : ∃ N, N = L.length := ⟨_, rfl⟩
    rw [← hL] at hO3 ⊢
    rw [← hN]
    have hNf : fragV nb t = (N : Int) := by
      rw [hN, hL, frgL_len, ← HN.out]
      have : 0 ≤ fragV nb t := by
        rcases fragV_cases nb t with h | ⟨N', tn, h, -⟩ <;> rw [h] <;> omega
      omega
    have hN16 : N ≤ 16 := by
      rcases fragV_cases nb t with h | ⟨N', tn, h, -, -, -, -, h16, -⟩ <;> rw [hNf] at h <;> omega
    have HLL := Lib.hid hN
    have HLD := Lib.hid hL
    have HNF := Lib.hid hNf
    have E3 := Lib.hid (Ext.trans E2.out h3)
    have b3 := Lib.hid (ext_blk h3 b2.out)
    have R3 := Lib.hid (R2.out.ext h3)
    have L3 := Lib.hid hO3.els
    clear hO3 hL hN hNf h3 E2 b2 R2
    obtain ⟨x1, x2, x3⟩ := blk_cells (b3.out)
    have p0 := x1 0
    have p1 := x1 1
    have p2 := x1 2
    have p3 := x1 3
    have p4 := x1 4
    have p5 := x1 5
    have p6 := x1 6
    have p7 := x1 7
    have p8 := x1 8
    simp at p0 p1 p2 p3 p4 p5 p6 p7 p8
    clear x1
    go_wp2_with fail
    refine (iFrag _ _ _).mono ?_
    rintro e w' ⟨rfl, rfl⟩
    rw [HNF.out]
    go_wp2_with fail
    refine (sFrag _ _ _).mono ?_
    rintro e w' ⟨rfl, rfl⟩
    rw [HNF.out]
    have e4 := Ext.alloc_ w3 (.cells #[] 114)
    have E4 := Lib.hid (Ext.trans E3.out e4)
    have b4 := Lib.hid (ext_blk e4 b3.out)
    have R4 := Lib.hid (R3.out.ext e4)
    have L4 := Lib.hid (els_up L3.out e4)
    clear e4
    go_wp2_with fail
    clear p0 p1 p2 p3 p4 p5 p6 p7 p8 x2 x3
    clear E3 b3 R3 L3
    generalize World.alloc w3 _ = w4 at *
    generalize w3.heap.size = ge at *
    go_loopw [6, 7] (fun sv i wr => ∃ (k : Nat) (v : Value) (A : Option Addr) (c' : Nat), k ≤ N ∧ i = .int .i64 k ∧ v = sv ∧ ((v = .slice A 0 c' ∧ (k = 0 ∨ k = N)) ∨ (v = .slice A 1 c' ∧ 0 < k ∧ k < N ∧ ∃ tn : Nat, t = tn ∧ Hid (Els wr A 5 (kE kRea) [mkR fm sq l tn k]))) ∧ Hid (Ext w4 wr)) (fun _ i _ => N - (intOf i).toNat)
    case atStart => exact ⟨0, _, _, _, Nat.zero_le _, rfl, rfl, .inl ⟨rfl, .inl rfl⟩, Lib.hid (Ext.refl _)⟩
    case round =>
      obtain ⟨k, v, A, c', hk, rfl, rfl, hv, hE⟩ := hrel
      obtain ⟨x1, x2, x3⟩ := blk_cells (ext_blk hE.out b4.out)
      have p0 := x1 0
      have p1 := x1 1
      have p2 := x1 2
      have p3 := x1 3
      have p4 := x1 4
      have p5 := x1 5
      have p6 := x1 6
      have p7 := x1 7
      have p8 := x1 8
      simp at p0 p1 p2 p3 p4 p5 p6 p7 p8
      clear x1
      by_cases hlt : k < N
      · obtain ⟨tn, ht1, ht2, hcov, hkk⟩ : ∃ tn : Nat, t = tn ∧ (1 ≤ tn ∧ tn ≤ 100) ∧ nb ≤ N * tn ∧ k * tn ≤ nb := by
          rcases fragV_cases nb t with h | ⟨N', tn, h, h1, h2, h3, h4, -, -, h5⟩
          · rw [HNF.out] at h; omega
          · have hNN : N' = N := by rw [HNF.out] at h; omega
            subst hNN
            exact ⟨tn, h1, ⟨h2, h3⟩, frag_cover h h4 h1 h2, (h5 k hlt).1⟩
        have hkL : k < L.length := by rw [← HLL.out]; exact hlt
        have hel : L[k] = ⟨kd, fm, ta, sq, (k : Int), decide ((k : Int) < (N : Int) - 1), re, du, pcK l tn k⟩ := by
          have h1 : L[k] = frgAt ⟨kd, fm, ta, sq, fr, mo, re, du, l⟩ (fragV l.length t) t.toNat k := by
            have h2 := HLD.out
            subst h2
            simp [frgL]
          rw [h1, ← HN.out, HNF.out, ht1]
          rfl
        obtain ⟨bL, oL, rfl, h5, h6⟩ := (els_up L4.out hE.out).at_ (List.ne_nil_of_length_pos (by omega))
        obtain ⟨B, cB, hRB, k0, k1, k2, k3, k4, k5, k6, k7, k8⟩ := els_mac h6 k hkL
        rw [hel] at hRB k0 k1 k2 k3 k4 k5 k6 k7 k8
        obtain ⟨P, hP⟩ : ∃ P, P = pcK l tn k := ⟨_, rfl⟩
        have hPl : P.length ≤ tn := by rw [hP]; exact pc_len l tn k
        have hPl2 : P.length ≤ 32 := by
          rw [hP]; unfold pcK; rw [List.length_take, List.length_drop]; have := HN.out; omega
        have hpn := pre_next l tn k (by rw [← HN.out]; exact hkk)
        simp only [] at hRB k0 k1 k2 k3 k4 k5 k6 k7 k8
        rw [← hP] at hRB k8 hpn
        have HRB := Lib.hid hRB
        have HPN := Lib.hid hpn
        have HCV := Lib.hid hcov
        have HK0 := Lib.hid hkk
        obtain ⟨PL, hPL⟩ : ∃ PL, PL = P.length := ⟨_, rfl⟩
        have HPL := Lib.hid hPL
        rw [← hPL] at k8 hPl hPl2
        have hk0 : (0 : Int) ≤ (k : Int) := by omega
        have hlt' : (k : Int) < (N : Int) := by omega
        have hPt : ¬ t < (PL : Int) := by omega
        obtain ⟨q, hq⟩ : ∃ q : Int, q = (N : Int) - 1 := ⟨_, rfl⟩
        have hwN : IntKind.i64.wrap ((N : Int) - 1) = q := by rw [hq]; exact IntWalk.i64_in _ (by omega)
        rw [← hq] at k5
        have HQ := Lib.hid hq
        have HTN := Lib.hid ht1
        clear hel h6 hRB hpn hcov hkk hPL hP hq ht1
        have HVZ := Lib.hid (show k = 0 → v = .slice A 0 c' by
          intro hz
          rcases hv with ⟨h, -⟩ | ⟨-, h, -⟩
          · exact h
          · omega)
        have HVP := Lib.hid (show 0 < k → v = .slice A 1 c' ∧ Els wr A 5 (kE kRea) [mkR fm sq l tn k] by
          intro hz
          rcases hv with ⟨-, h⟩ | ⟨h, -, -, tn', h1, h2⟩
          · omega
          · have h3 := HTN.out
            obtain rfl : tn' = tn := by omega
            exact ⟨h, h2.out⟩)
        have RR := Lib.hid (R4.out.ext hE.out)
        clear hv
        by_cases hlast : k + 1 = N
        · have hqk : q = (k : Int) := by have := HQ.out; omega
          rw [decide_eq_false (by omega)] at k5
          have HFL := Lib.hid (show l.take (k * tn) ++ P = l from HPN.out.trans (by
            rw [hlast]
            exact List.take_of_length_le (by have := HCV.out; have := HN.out; omega)))
          have HLA := Lib.hid hlast
          clear hlast
          subst hqk
          go_wp2_with fail
          refine wp_region_chain 40 (by kernel_rfl) (by kernel_rfl) ?_
          simp only [List.take_succ_cons, List.take_zero, List.drop_succ_cons, List.drop_zero]
          iterate 6 (apply Chain.quiet; · (intro vs wq hEq hd; obtain ⟨hcq, hfq⟩ := bcell hEq; clear hEq hd; (try simp only [Act.put, SP.pick, SP.is, SP.box, id_eq, List.take_succ_cons, List.take_zero, List.drop_succ_cons, List.drop_zero, List.setIfInBounds_toArray, List.set_cons_zero, List.set_cons_succ]); refine growOp_go ?_; go_simp; first | exact ⟨Ext.refl _, rfl⟩ | exact rfl | (split; (exfalso; omega); (first | exact ⟨Ext.refl _, rfl⟩ | exact rfl)) | (split; (first | exact ⟨Ext.refl _, rfl⟩ | exact rfl); (exfalso; omega))))
          (refine Chain.quiet (V := .bool false) ?_ ?_; · (intro vs wq hEq hd; obtain ⟨hcq, hfq⟩ := bcell hEq; clear hEq hd; (try simp only [Act.put, SP.pick, SP.is, SP.box, id_eq, List.take_succ_cons, List.take_zero, List.drop_succ_cons, List.drop_zero, List.setIfInBounds_toArray, List.set_cons_zero, List.set_cons_succ]); refine growOp_go ?_; go_simp; first | exact Ext.refl _ | exact ⟨Ext.refl _, rfl⟩ | (refine ⟨Ext.refl _, ?_⟩; first | omega | (simp; omega) | (simp; done))))
          iterate 10 (apply Chain.quiet; · (intro vs wq hEq hd; obtain ⟨hcq, hfq⟩ := bcell hEq; clear hEq hd; (try simp only [Act.put, SP.pick, SP.is, SP.box, id_eq, List.take_succ_cons, List.take_zero, List.drop_succ_cons, List.drop_zero, List.setIfInBounds_toArray, List.set_cons_zero, List.set_cons_succ]); refine growOp_go ?_; go_simp; first | exact ⟨Ext.refl _, rfl⟩ | exact rfl | (split; (exfalso; omega); (first | exact ⟨Ext.refl _, rfl⟩ | exact rfl)) | (split; (first | exact ⟨Ext.refl _, rfl⟩ | exact rfl); (exfalso; omega))))
          (refine Chain.quiet (V := .bool false) ?_ ?_; · (intro vs wq hEq hd; obtain ⟨hcq, hfq⟩ := bcell hEq; clear hEq hd; (try simp only [Act.put, SP.pick, SP.is, SP.box, id_eq, List.take_succ_cons, List.take_zero, List.drop_succ_cons, List.drop_zero, List.setIfInBounds_toArray, List.set_cons_zero, List.set_cons_succ]); refine growOp_go ?_; go_simp; first | exact Ext.refl _ | exact ⟨Ext.refl _, rfl⟩ | (refine ⟨Ext.refl _, ?_⟩; first | omega | (simp; omega) | (simp; done))))
          (refine Chain.quiet (V := .bool false) ?_ ?_; · (intro vs wq hEq hd; obtain ⟨hcq, hfq⟩ := bcell hEq; clear hEq hd; (try simp only [Act.put, SP.pick, SP.is, SP.box, id_eq, List.take_succ_cons, List.take_zero, List.drop_succ_cons, List.drop_zero, List.setIfInBounds_toArray, List.set_cons_zero, List.set_cons_succ]); refine growOp_go ?_; go_simp; first | exact Ext.refl _ | exact ⟨Ext.refl _, rfl⟩ | (refine ⟨Ext.refl _, ?_⟩; first | omega | (simp; omega) | (simp; done))))
          iterate 9 (apply Chain.quiet; · (intro vs wq hEq hd; obtain ⟨hcq, hfq⟩ := bcell hEq; clear hEq hd; (try simp only [Act.put, SP.pick, SP.is, SP.box, id_eq, List.take_succ_cons, List.take_zero, List.drop_succ_cons, List.drop_zero, List.setIfInBounds_toArray, List.set_cons_zero, List.set_cons_succ]); refine growOp_go ?_; go_simp; first | exact ⟨Ext.refl _, rfl⟩ | exact rfl | (split; (exfalso; omega); (first | exact ⟨Ext.refl _, rfl⟩ | exact rfl)) | (split; (first | exact ⟨Ext.refl _, rfl⟩ | exact rfl); (exfalso; omega))))
          (refine Chain.quiet (V := .bool false) ?_ ?_; · (intro vs wq hEq hd; obtain ⟨hcq, hfq⟩ := bcell hEq; clear hEq hd; (try simp only [Act.put, SP.pick, SP.is, SP.box, id_eq, List.take_succ_cons, List.take_zero, List.drop_succ_cons, List.drop_zero, List.setIfInBounds_toArray, List.set_cons_zero, List.set_cons_succ]); refine growOp_go ?_; go_simp; first | exact Ext.refl _ | exact ⟨Ext.refl _, rfl⟩ | (refine ⟨Ext.refl _, ?_⟩; first | omega | (simp; omega) | (simp; done))))
          iterate 9 (apply Chain.quiet; · (intro vs wq hEq hd; obtain ⟨hcq, hfq⟩ := bcell hEq; clear hEq hd; (try simp only [Act.put, SP.pick, SP.is, SP.box, id_eq, List.take_succ_cons, List.take_zero, List.drop_succ_cons, List.drop_zero, List.setIfInBounds_toArray, List.set_cons_zero, List.set_cons_succ]); refine growOp_go ?_; go_simp; first | exact ⟨Ext.refl _, rfl⟩ | exact rfl | (split; (exfalso; omega); (first | exact ⟨Ext.refl _, rfl⟩ | exact rfl)) | (split; (first | exact ⟨Ext.refl _, rfl⟩ | exact rfl); (exfalso; omega))))
          (refine Chain.quiet (V := .bool false) ?_ ?_; · (intro vs wq hEq hd; obtain ⟨hcq, hfq⟩ := bcell hEq; clear hEq hd; (try simp only [Act.put, SP.pick, SP.is, SP.box, id_eq, List.take_succ_cons, List.take_zero, List.drop_succ_cons, List.drop_zero, List.setIfInBounds_toArray, List.set_cons_zero, List.set_cons_succ]); refine growOp_go ?_; go_simp; first | exact Ext.refl _ | exact ⟨Ext.refl _, rfl⟩ | (refine ⟨Ext.refl _, ?_⟩; first | omega | (simp; omega) | (simp; done))))
          (apply Chain.quiet; · (intro vs wq hEq hd; obtain ⟨hcq, hfq⟩ := bcell hEq; clear hEq hd; (try simp only [Act.put, SP.pick, SP.is, SP.box, id_eq, List.take_succ_cons, List.take_zero, List.drop_succ_cons, List.drop_zero, List.setIfInBounds_toArray, List.set_cons_zero, List.set_cons_succ]); refine growOp_go ?_; go_simp; first | exact ⟨Ext.refl _, rfl⟩ | exact rfl | (split; (exfalso; omega); (first | exact ⟨Ext.refl _, rfl⟩ | exact rfl)) | (split; (first | exact ⟨Ext.refl _, rfl⟩ | exact rfl); (exfalso; omega))))
          refine Chain.done ?_
          intro vs w5 hE5 hd5
          simp only [Act.put, SP.pick, SP.is, SP.box, id_eq, List.take_succ_cons, List.take_zero, List.drop_succ_cons, List.drop_zero, List.setIfInBounds_toArray, List.set_cons_zero, List.set_cons_succ]
          clear hd5
          have H5 := Lib.hid hE5
          obtain ⟨hc5, hf5⟩ := bcell hE5
          clear hE5
          go_wp2_with fail
          by_cases hz : k = 0
          · have hnk : ¬ (0 : Int) < (k : Int) := by omega
            have HZ := Lib.hid hz
            have hvv := HVZ.out hz
            clear hz HVZ HVP
            subst hvv
            refine (fAddB _ _ _ _ _ _ _ _ _ _ _ _ _ _ l P tn (by omega) HPL.out hPl2 (HRB.out.ext H5.out) HZ.out HFL.out).mono ?_
            rintro e w6 ⟨A6, c6, B6, cB6, rfl, h6, hR6⟩
            rw [HN.out.symm]
            have H6 := Lib.hid (Ext.trans H5.out h6)
            have R6 := Lib.hid hR6
            obtain ⟨hc6, hf6⟩ := bcell H6.out
            clear h6 hR6 hc5 hf5 H5
            go_wp2_with fail
            refine (sameB_ _ _ _ _ _ _ l HN.out.symm R6.out (RR.out.ext H6.out) (by omega)).mono ?_
            rintro e w7 ⟨rfl, h7⟩
            have H7 := Lib.hid (Ext.trans H6.out h7)
            clear h7 hc6 hf6
            go_wp2_with fail
            go_roundw
            case rel => exact ⟨k + 1, _, A6, c6, by omega, by go_num, rfl, .inl ⟨rfl, .inr HLA.out⟩, Lib.hid (Ext.trans hE.out H7.out)⟩
            case measure => simp [intOf]; omega
          · have hzp : (0 : Int) < (k : Int) := by omega
            have HZ := Lib.hid (show 0 < k by omega)
            obtain ⟨hvv, hM⟩ := HVP.out HZ.out
            have HM := Lib.hid hM
            clear hz HVZ HVP hM
            subst hvv
            refine (fAddF _ _ _ _ _ _ _ _ _ _ _ _ _ _ l P tn (by omega) HPL.out hPl2 (HRB.out.ext H5.out) HZ.out (by rw [← HN.out]; exact hl32) (els_up HM.out H5.out) HFL.out).mono ?_
            rintro e w6 ⟨A6, c6, B6, cB6, rfl, h6, hR6⟩
            rw [HN.out.symm]
            have H6 := Lib.hid (Ext.trans H5.out h6)
            have R6 := Lib.hid hR6
            obtain ⟨hc6, hf6⟩ := bcell H6.out
            clear h6 hR6 hc5 hf5 H5
            go_wp2_with fail
            refine (sameB_ _ _ _ _ _ _ l HN.out.symm R6.out (RR.out.ext H6.out) (by omega)).mono ?_
            rintro e w7 ⟨rfl, h7⟩
            have H7 := Lib.hid (Ext.trans H6.out h7)
            obtain ⟨hc7, hf7⟩ := bcell H7.out
            clear h7 hc6 hf6
            go_wp2_with fail
            refine (fAddC _ _ _ _ _ _ _ _ _ _ _ _ _ _ l P tn (by omega) HPL.out hPl2 (HRB.out.ext H7.out) HZ.out _).mono ?_
            rintro e w8 ⟨A8, c8, B8, cB8, rfl, h8⟩
            have H8 := Lib.hid (Ext.trans H7.out h8)
            clear h8 hc7 hf7
            go_wp2_with fail
            refine (iEqRea _ _ _ _ _ _ _ [] [] rfl rfl (.inl rfl) (.inl rfl) (by simp) (by simp) (Nat.zero_le _) (Nat.zero_le _)).mono ?_
            rintro e w9 ⟨rfl, h9⟩
            rw [decide_eq_true rfl]
            have H9 := Lib.hid (Ext.trans H8.out h9)
            clear h9
            go_wp2_with fail
            go_roundw
            case rel => exact ⟨k + 1, _, A6, c6, by omega, by go_num, rfl, .inl ⟨rfl, .inr HLA.out⟩, Lib.hid (Ext.trans hE.out H9.out)⟩
            case measure => simp [intOf]; omega
        · rw [decide_eq_true (by have := HQ.out; omega)] at k5
          have hkq : (k : Int) < q := by have := HQ.out; omega
          have hkne : ¬ (k : Int) = q := by omega
          have HLA := Lib.hid (show k + 1 < N by omega)
          clear hlast
          go_wp2_with fail
          refine wp_region_chain 40 (by kernel_rfl) (by kernel_rfl) ?_
          simp only [List.take_succ_cons, List.take_zero, List.drop_succ_cons, List.drop_zero]
          iterate 6 (apply Chain.quiet; · (intro vs wq hEq hd; obtain ⟨hcq, hfq⟩ := bcell hEq; clear hEq hd; (try simp only [Act.put, SP.pick, SP.is, SP.box, id_eq, List.take_succ_cons, List.take_zero, List.drop_succ_cons, List.drop_zero, List.setIfInBounds_toArray, List.set_cons_zero, List.set_cons_succ]); refine growOp_go ?_; go_simp; first | exact ⟨Ext.refl _, rfl⟩ | exact rfl | (split; (exfalso; omega); (first | exact ⟨Ext.refl _, rfl⟩ | exact rfl)) | (split; (first | exact ⟨Ext.refl _, rfl⟩ | exact rfl); (exfalso; omega))))
          (refine Chain.quiet (V := .bool false) ?_ ?_; · (intro vs wq hEq hd; obtain ⟨hcq, hfq⟩ := bcell hEq; clear hEq hd; (try simp only [Act.put, SP.pick, SP.is, SP.box, id_eq, List.take_succ_cons, List.take_zero, List.drop_succ_cons, List.drop_zero, List.setIfInBounds_toArray, List.set_cons_zero, List.set_cons_succ]); refine growOp_go ?_; go_simp; first | exact Ext.refl _ | exact ⟨Ext.refl _, rfl⟩ | (refine ⟨Ext.refl _, ?_⟩; first | omega | (simp; omega) | (simp; done))))
          iterate 10 (apply Chain.quiet; · (intro vs wq hEq hd; obtain ⟨hcq, hfq⟩ := bcell hEq; clear hEq hd; (try simp only [Act.put, SP.pick, SP.is, SP.box, id_eq, List.take_succ_cons, List.take_zero, List.drop_succ_cons, List.drop_zero, List.setIfInBounds_toArray, List.set_cons_zero, List.set_cons_succ]); refine growOp_go ?_; go_simp; first | exact ⟨Ext.refl _, rfl⟩ | exact rfl | (split; (exfalso; omega); (first | exact ⟨Ext.refl _, rfl⟩ | exact rfl)) | (split; (first | exact ⟨Ext.refl _, rfl⟩ | exact rfl); (exfalso; omega))))
          (refine Chain.quiet (V := .bool true) ?_ ?_; · (intro vs wq hEq hd; obtain ⟨hcq, hfq⟩ := bcell hEq; clear hEq hd; (try simp only [Act.put, SP.pick, SP.is, SP.box, id_eq, List.take_succ_cons, List.take_zero, List.drop_succ_cons, List.drop_zero, List.setIfInBounds_toArray, List.set_cons_zero, List.set_cons_succ]); refine growOp_go ?_; go_simp; first | exact Ext.refl _ | exact ⟨Ext.refl _, rfl⟩ | (refine ⟨Ext.refl _, ?_⟩; first | omega | (simp; omega) | (simp; done))))
          (refine Chain.quiet (V := .bool false) ?_ ?_; · (intro vs wq hEq hd; obtain ⟨hcq, hfq⟩ := bcell hEq; clear hEq hd; (try simp only [Act.put, SP.pick, SP.is, SP.box, id_eq, List.take_succ_cons, List.take_zero, List.drop_succ_cons, List.drop_zero, List.setIfInBounds_toArray, List.set_cons_zero, List.set_cons_succ]); refine growOp_go ?_; go_simp; first | exact Ext.refl _ | exact ⟨Ext.refl _, rfl⟩ | (refine ⟨Ext.refl _, ?_⟩; first | omega | (simp; omega) | (simp; done))))
          iterate 9 (apply Chain.quiet; · (intro vs wq hEq hd; obtain ⟨hcq, hfq⟩ := bcell hEq; clear hEq hd; (try simp only [Act.put, SP.pick, SP.is, SP.box, id_eq, List.take_succ_cons, List.take_zero, List.drop_succ_cons, List.drop_zero, List.setIfInBounds_toArray, List.set_cons_zero, List.set_cons_succ]); refine growOp_go ?_; go_simp; first | exact ⟨Ext.refl _, rfl⟩ | exact rfl | (split; (exfalso; omega); (first | exact ⟨Ext.refl _, rfl⟩ | exact rfl)) | (split; (first | exact ⟨Ext.refl _, rfl⟩ | exact rfl); (exfalso; omega))))
          (refine Chain.quiet (V := .bool false) ?_ ?_; · (intro vs wq hEq hd; obtain ⟨hcq, hfq⟩ := bcell hEq; clear hEq hd; (try simp only [Act.put, SP.pick, SP.is, SP.box, id_eq, List.take_succ_cons, List.take_zero, List.drop_succ_cons, List.drop_zero, List.setIfInBounds_toArray, List.set_cons_zero, List.set_cons_succ]); refine growOp_go ?_; go_simp; first | exact Ext.refl _ | exact ⟨Ext.refl _, rfl⟩ | (refine ⟨Ext.refl _, ?_⟩; first | omega | (simp; omega) | (simp; done))))
          iterate 9 (apply Chain.quiet; · (intro vs wq hEq hd; obtain ⟨hcq, hfq⟩ := bcell hEq; clear hEq hd; (try simp only [Act.put, SP.pick, SP.is, SP.box, id_eq, List.take_succ_cons, List.take_zero, List.drop_succ_cons, List.drop_zero, List.setIfInBounds_toArray, List.set_cons_zero, List.set_cons_succ]); refine growOp_go ?_; go_simp; first | exact ⟨Ext.refl _, rfl⟩ | exact rfl | (split; (exfalso; omega); (first | exact ⟨Ext.refl _, rfl⟩ | exact rfl)) | (split; (first | exact ⟨Ext.refl _, rfl⟩ | exact rfl); (exfalso; omega))))
          (refine Chain.quiet (V := .bool false) ?_ ?_; · (intro vs wq hEq hd; obtain ⟨hcq, hfq⟩ := bcell hEq; clear hEq hd; (try simp only [Act.put, SP.pick, SP.is, SP.box, id_eq, List.take_succ_cons, List.take_zero, List.drop_succ_cons, List.drop_zero, List.setIfInBounds_toArray, List.set_cons_zero, List.set_cons_succ]); refine growOp_go ?_; go_simp; first | exact Ext.refl _ | exact ⟨Ext.refl _, rfl⟩ | (refine ⟨Ext.refl _, ?_⟩; first | omega | (simp; omega) | (simp; done))))
          (apply Chain.quiet; · (intro vs wq hEq hd; obtain ⟨hcq, hfq⟩ := bcell hEq; clear hEq hd; (try simp only [Act.put, SP.pick, SP.is, SP.box, id_eq, List.take_succ_cons, List.take_zero, List.drop_succ_cons, List.drop_zero, List.setIfInBounds_toArray, List.set_cons_zero, List.set_cons_succ]); refine growOp_go ?_; go_simp; first | exact ⟨Ext.refl _, rfl⟩ | exact rfl | (split; (exfalso; omega); (first | exact ⟨Ext.refl _, rfl⟩ | exact rfl)) | (split; (first | exact ⟨Ext.refl _, rfl⟩ | exact rfl); (exfalso; omega))))
          refine Chain.done ?_
          intro vs w5 hE5 hd5
          simp only [Act.put, SP.pick, SP.is, SP.box, id_eq, List.take_succ_cons, List.take_zero, List.drop_succ_cons, List.drop_zero, List.setIfInBounds_toArray, List.set_cons_zero, List.set_cons_succ]
          clear hd5
          have H5 := Lib.hid hE5
          obtain ⟨hc5, hf5⟩ := bcell hE5
          clear hE5
          go_wp2_with fail
          by_cases hz : k = 0
          · have hnk : ¬ (0 : Int) < (k : Int) := by omega
            have HZ := Lib.hid hz
            have hvv := HVZ.out hz
            clear hz HVZ HVP
            subst hvv
            refine (fAddA _ _ _ _ _ _ _ _ _ _ _ _ _ _ l P tn (by omega) HPL.out hPl2 (HRB.out.ext H5.out) HZ.out rfl HPN.out).mono ?_
            rintro e w6 ⟨A6, c6, B6, cB6, rfl, h6, hM6⟩
            have H6 := Lib.hid (Ext.trans H5.out h6)
            have M6 := Lib.hid hM6
            obtain ⟨hc6, hf6⟩ := bcell H6.out
            clear h6 hM6 hc5 hf5 H5
            go_wp2_with fail
            go_roundw
            case rel => exact ⟨k + 1, _, A6, c6, by omega, by go_num, rfl, .inr ⟨rfl, by omega, HLA.out, tn, HTN.out, M6⟩, Lib.hid (Ext.trans hE.out H6.out)⟩
            case measure => simp [intOf]; omega
          · have hzp : (0 : Int) < (k : Int) := by omega
            have HZ := Lib.hid (show 0 < k by omega)
            obtain ⟨hvv, hM⟩ := HVP.out HZ.out
            have HM := Lib.hid hM
            clear hz HVZ HVP hM
            subst hvv
            refine (fAddE _ _ _ _ _ _ _ _ _ _ _ _ _ _ l P tn (by omega) HPL.out hPl2 (HRB.out.ext H5.out) HZ.out (by rw [← HN.out]; exact hl32) (els_up HM.out H5.out) HPN.out).mono ?_
            rintro e w6 ⟨A6, c6, B6, cB6, rfl, h6, hM6⟩
            have H6 := Lib.hid (Ext.trans H5.out h6)
            have M6 := Lib.hid hM6
            obtain ⟨hc6, hf6⟩ := bcell H6.out
            clear h6 hM6 hc5 hf5 H5
            go_wp2_with fail
            refine (fAddD _ _ _ _ _ _ _ _ _ _ _ _ _ _ l P tn (by omega) HPL.out hPl2 (HRB.out.ext H6.out) HZ.out (by rw [← HN.out]; exact hl32) _ M6.out).mono ?_
            rintro e w8 ⟨A8, c8, B8, cB8, rfl, h8, hM8⟩
            have H8 := Lib.hid (Ext.trans H6.out h8)
            have M8 := Lib.hid hM8
            have N8 := Lib.hid (els_up M6.out h8)
            clear h8 hM8 hc6 hf6
            go_wp2_with fail
            refine (iEqRea _ _ _ _ _ _ _ [mkR fm sq l tn (k + 1)] [mkR fm sq l tn (k + 1)] rfl rfl M8.out N8.out (by intro m hm; rw [List.mem_singleton.1 hm]; exact byt_take HB.out (by rw [← HN.out]; exact hl32) _) (by intro m hm; rw [List.mem_singleton.1 hm]; exact byt_take HB.out (by rw [← HN.out]; exact hl32) _) (Nat.succ_le_succ (Nat.zero_le _)) (Nat.succ_le_succ (Nat.zero_le _))).mono ?_
            rintro e w9 ⟨rfl, h9⟩
            rw [decide_eq_true rfl]
            have H9 := Lib.hid (Ext.trans H8.out h9)
            have M9 := Lib.hid (els_up N8.out h9)
            clear h9
            go_wp2_with fail
            go_roundw
            case rel => exact ⟨k + 1, _, A6, c6, by omega, by go_num, rfl, .inr ⟨rfl, by omega, HLA.out, tn, HTN.out, M9⟩, Lib.hid (Ext.trans hE.out H9.out)⟩
            case measure => simp [intOf]; omega
      · have hkN : ¬ k < N := hlt
        have hv0 : v = .slice A 0 c' := by
          rcases hv with ⟨h, -⟩ | ⟨-, -, h, -⟩
          · exact h
          · exact absurd h hkN
        subst hv0
        have hlt' : ¬ (k : Int) < (N : Int) := by omega
        have Er := Lib.hid (Ext.trans E4.out hE.out)
        have Rr := Lib.hid (R4.out.ext hE.out)
        clear hv hkN E4 b4 R4 L4 hE
        obtain ⟨wE, hwE⟩ : ∃ x : World, x = wr := ⟨_, rfl⟩
        subst hwE
        go_wp2_with fail
        refine (iStart _ _ _ _ _ _ _ _ _ _ _ _ _ l HN.out.symm Rr.out (by omega)).mono ?_
        rintro e v5 ⟨g5, A5, c5, rfl, h5, hN5⟩
        have e6 := Ext.alloc_ v5 (.cells #[.int .i64 fm, .int .i64 sq, .int .i64 1, .slice A5 nb c5, .int .i64 5] 114)
        have M6 := Lib.hid (els_one (m := ({ frm := fm, sq := sq, nx := 1, st := 5, body := l } : Rea)) (new_blk1 v5 #[.int .i64 fm, .int .i64 sq, .int .i64 1, .slice A5 nb c5, .int .i64 5] 114) HN.out (hN5.rb.ext e6))
        have H6 := Lib.hid (Ext.trans h5 e6)
        clear h5 e6 hN5
        go_wp2_with fail
        generalize World.alloc v5 _ = v6 at *
        refine (iExpR _ _ 1 _ 55 [({ frm := fm, sq := sq, nx := 1, st := 5, body := l } : Rea)] rfl M6.out (by intro m hm; simp at hm; subst hm; show l.length ≤ _; have := HN.out; omega) (by omega)).mono ?_
        rintro e v7 ⟨A7, c7, rfl, h7, -⟩
        rw [show (keepR 55 [({ frm := fm, sq := sq, nx := 1, st := 5, body := l } : Rea)]).length = 1 from by simp [keepR, wrap64]]
        have H7 := Lib.hid (Ext.trans H6.out h7)
        obtain ⟨hc7, hf7⟩ := bcell (Ext.trans H6.out h7)
        clear h7 H6 M6
        go_wp2_with fail
        refine (iStart _ _ _ _ _ _ _ _ _ _ _ _ _ l HN.out.symm (Rr.out.ext H7.out) (by omega)).mono ?_
        rintro e v8 ⟨g8, A8, c8, rfl, h8, hN8⟩
        have e9 := Ext.alloc_ v8 (.cells #[.int .i64 fm, .int .i64 sq, .int .i64 1, .slice A8 nb c8, .int .i64 5] 114)
        have M9 := Lib.hid (els_one (m := ({ frm := fm, sq := sq, nx := 1, st := 5, body := l } : Rea)) (new_blk1 v8 #[.int .i64 fm, .int .i64 sq, .int .i64 1, .slice A8 nb c8, .int .i64 5] 114) HN.out (hN8.rb.ext e9))
        have H9 := Lib.hid (Ext.trans H7.out (Ext.trans h8 e9))
        clear h8 e9 hN8 hc7 hf7
        go_wp2_with fail
        generalize World.alloc v8 _ = v9 at *
        refine (iExpR _ _ 1 _ 56 [({ frm := fm, sq := sq, nx := 1, st := 5, body := l } : Rea)] rfl M9.out (by intro m hm; simp at hm; subst hm; show l.length ≤ _; have := HN.out; omega) (by omega)).mono ?_
        rintro e v10 ⟨A10, c10, rfl, h10, -⟩
        rw [show (keepR 56 [({ frm := fm, sq := sq, nx := 1, st := 5, body := l } : Rea)]).length = 0 from by simp [keepR, wrap64]]
        have H10 := Lib.hid (Ext.trans H9.out h10)
        clear h10 H9 M9
        go_wp2_with fail
        go_ret
        exact ⟨by first | rfl | simp, Ext.trans Er.out H10.out⟩
end Go.Proofs.Ytkmklafjcjkpdaa
