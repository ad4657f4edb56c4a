/- Mine. Chapter 30, by hand: the law PendTakes. -/
import Derived.Test.YtfgalgeloflilaaHKL
import Derived.Test.YtfgalgeloflilaaPx15
import Derived.Test.YtfgalgeloflilaaPx16
namespace Go.Proofs.Ytfgalgeloflilaa.H
open Go Go.Proofs Go.RowKit Go.Lib Go.Proofs.Ytfgalgeloflilaa.P Go.Proofs.YtfgalgeloflilaaW.PrintWords Go.Proofs.YtfgalgeloflilaaW.PrintLast Go.Proofs.YtfgalgeloflilaaW.PrintMore
set_option linter.unusedVariables false
set_option linter.unusedSimpArgs false
attribute [local go_sem high] eqA51
/-- The box of the law's node, and what was before. -/
structure TkS (w : World) (g : Nat) (c : Array Value) (V : World) : Prop where
  bel : Below w.heap.size w V
  blk : V.heap[g]? = some (.cells c 34 (0, 0))
theorem TkS.go {w V V' : World} {g : Nat} {c : Array Value} (h : TkS w g c V) (hb : Below V.heap.size V V') : TkS w g c V' := ⟨below_then h.bel h.bel.size hb, (hb.block g (blk_lt h.blk)).trans h.blk⟩
theorem TkS.sto {w V V' : World} {g q : Nat} {c : Array Value} (h : TkS w g c V) (hs : Sto V V' q) (hq : w.heap.size ≤ q) (hne : g ≠ q) : TkS w g c V' := ⟨hs.on hq h.bel, hs.blk hne h.blk⟩
theorem two_new {w V V' : World} {a b c d : Obj} (hs : Sto ((w.alloc a).alloc b) V w.heap.size) (hs' : Sto V V' (w.heap.size + 1)) : Below w.heap.size w V' := by
  have h1 := alloc_size w a
  exact hs'.on (Nat.le_succ _) (hs.on (Nat.le_refl _) ((below_alloc (Below.refl _ _) _).alloc (by omega) _))
theorem two_at (w : World) (a b : Obj) : ((w.alloc a).alloc b).heap[w.heap.size]? = some a ∧ ((w.alloc a).alloc b).heap[w.heap.size + 1]? = some b := by
  have h1 := alloc_size w a
  exact ⟨(heap_alloc_old _ _ (by omega)).trans (heap_alloc_new w a), by rw [← h1]; exact heap_alloc_new _ _⟩
section
open Go Go.Proofs Go.RowKit Go.Lib Go.Proofs.Ytfgalgeloflilaa.P Go.Proofs.YtfgalgeloflilaaW.PrintWords Go.Proofs.YtfgalgeloflilaaW.PrintLast Go.Proofs.YtfgalgeloflilaaW.PrintMore
theorem still_tail_ {P : Program} {id : Nat} {Q : Exit → Act → World → Prop} {a : Act} {w : World} {l : List Oper} (n : Nat) (hm : P.follows .mixedOrders = true) (hB : Region.lexTailB .any l.toArray n = true)
    (h : ∀ w1, w1 = w.drew → wpStill P l.toArray w1 (fun a' => wpList P l.toArray Q (l.drop n) a' w1) (l.take n) a) : (Code.region id l.toArray true).wp P Q a w :=
  wp_region_still_tail n hm hB (h _ rfl)
theorem mlarge_l0 (m : S37) (h : m.f9.length ≤ 20) : ∀ K j : Nat, j ≤ m.f9.length → m.f9.length - j < K → ∃ b, annuletlaw08_Large.l0 K j m.f0 m.f1 m.f2 m.f3 m.f4 m.f5 m.f6 m.f7.f0 m.f7.f1 m.f8 m.f9 = some b
  | 0, j, hj, hk => by omega
  | K + 1, j, hj, hk => by
    rw [annuletlaw08_Large.l0]
    by_cases h2 : j < m.f9.length
    · have hw : wrap64 ((j : Int) + 1) = ((j + 1 : Nat) : Int) := by unfold wrap64; omega
      rw [if_pos (by omega), if_pos (by omega), hw]
      split
      · exact ⟨_, rfl⟩
      · split
        · exact ⟨_, rfl⟩
        · exact mlarge_l0 m h K (j + 1) (by omega) (by omega)
    · rw [if_neg (by omega)]; exact ⟨_, rfl⟩
theorem mlarge_f (m : S37) : ∃ b, annuletlaw08_Large.f 1000 m.f0 m.f1 m.f2 m.f3 m.f4 m.f5 m.f6 m.f7.f0 m.f7.f1 m.f8 m.f9 = some b ∧ (b = false → m.f8.length ≤ 40 ∧ m.f9.length ≤ 20) := by
  have ht : annuletlaw08_Large.j0 1000 true m.f0 m.f1 m.f2 m.f3 m.f4 m.f5 m.f6 m.f7.f0 m.f7.f1 m.f8 m.f9 = some true := by
    show annuletlaw08_Large.j0 (999 + 1) true m.f0 m.f1 m.f2 m.f3 m.f4 m.f5 m.f6 m.f7.f0 m.f7.f1 m.f8 m.f9 = _
    rw [annuletlaw08_Large.j0, if_pos rfl]
  unfold annuletlaw08_Large.f
  by_cases h1 : (m.f5.size : Int) > 300
  · rw [if_pos h1]; exact ⟨true, ht, fun h => by cases h⟩
  rw [if_neg h1]
  by_cases h2 : (m.f6.size : Int) > 700
  · rw [if_pos h2]; exact ⟨true, ht, fun h => by cases h⟩
  rw [if_neg h2]
  by_cases h3 : (m.f8.length : Int) > 40
  · rw [if_pos h3]; exact ⟨true, ht, fun h => by cases h⟩
  rw [if_neg h3]
  by_cases h4 : (m.f9.length : Int) > 20
  · rw [decide_eq_true h4]; exact ⟨true, ht, fun h => by cases h⟩
  · rw [decide_eq_false h4]
    obtain ⟨b, hb⟩ := mlarge_l0 m (by omega) 999 0 (by omega) (by omega)
    refine ⟨b, ?_, fun _ => by omega⟩
    show annuletlaw08_Large.j0 (999 + 1) false m.f0 m.f1 m.f2 m.f3 m.f4 m.f5 m.f6 m.f7.f0 m.f7.f1 m.f8 m.f9 = _
    rw [annuletlaw08_Large.j0, if_neg (by simp)]
    exact hb
theorem mlarge_ok (m : S37) (s : MA) : ∃ b, (∀ w : World, MC w m s → Calls Try.prog 7 #[mv m s] w fun e w' => e = .returned (.bool b) ∧ Below w.heap.size w w') ∧ (b = false → m.f8.length ≤ 40 ∧ m.f9.length ≤ 20) := by
  obtain ⟨b, hb, hf⟩ := mlarge_f m
  exact ⟨b, fun w h => annuletlaw08_Large.calls 1000 m.f0 m.f1 m.f2 m.f3 m.f4 m.f5 m.f6 m.f7.f0 m.f7.f1 s.A9 s.c9 m.f8 s.A10 s.c10 m.f9 b w h.r9 h.q9 h.r10 h.q10 hb, hf⟩
/-- The node that has asked, its clock at any time. -/
def wN (n : ND) (rid clk : Int) (p : S51) : ND := { n with a2 := clk, a11 := rid, l8 := [p] }
def wE (n : ND) (rid clk : Int) : ND := { n with a2 := clk, a11 := rid, l8 := [] }
theorem wN_nb {n : ND} (h : NB n) (rid clk : Int) (p : S51) : NB (wN n rid clk p) := ⟨h.b4, h.b5, h.b6, h.b7, (by show 1 * 56 ≤ _; omega), h.b9, h.b10⟩
theorem wE_nb {n : ND} (h : NB n) (rid clk : Int) : NB (wE n rid clk) := ⟨h.b4, h.b5, h.b6, h.b7, (by show 0 * 56 ≤ _; omega), h.b9, h.b10⟩
theorem wN_nc {w : World} {n : ND} {rid clk clk' : Int} {p : S51} {s : NA} (h : NC w (wN n rid clk p) s) : NC w (wN n rid clk' p) s := ⟨h.r4, h.q4, h.r5, h.q5, h.r6, h.q6, h.r7, h.q7, h.r8, h.q8, h.r9, h.q9, h.r10, h.q10⟩
theorem w_early {n : ND} {rid clk : Int} {p : S51} (h : ¬ p.f5 < clk) : lateL (wN n rid clk p) = [] ∧ restL (wN n rid clk p) = [p] := by
  unfold lateL restL wN
  simp [h]
theorem w_late {n : ND} {rid clk : Int} {p : S51} (h : p.f5 < clk) : lateL (wN n rid clk p) = [p] ∧ restL (wN n rid clk p) = [] := by
  unfold lateL restL wN
  simp [h]
end
section
open Go Go.Proofs Go.RowKit Go.Lib Go.Proofs.Ytfgalgeloflilaa.P Go.Proofs.YtfgalgeloflilaaW.PrintWords Go.Proofs.YtfgalgeloflilaaW.PrintLast Go.Proofs.YtfgalgeloflilaaW.PrintMore
theorem annuletref08_Peers_refl (l : List S25) (hl : l.length ≤ 100000) : ∀ K j : Nat, j ≤ l.length → l.length - j < K → annuletref08_Peers.l0 K l l j = some true
  | 0, j, hj, hk => by omega
  | K + 1, j, hj, hk => by
    rw [annuletref08_Peers.l0]
    by_cases h : j < l.length
    · have hw : wrap64 ((j : Int) + 1) = ((j + 1 : Nat) : Int) := by unfold wrap64; omega
      rw [if_pos (by omega), if_pos (by omega), if_pos (by omega), if_neg (by simp), hw]
      exact annuletref08_Peers_refl l hl K (j + 1) (by omega) (by omega)
    · rw [if_neg (by omega)]
theorem annuletref08_Peers_same (l : List S25) (hl : l.length ≤ 100000) (K : Nat) (hK : l.length < K) : annuletref08_Peers.f K l l = some true := by
  unfold annuletref08_Peers.f
  rw [if_pos rfl]
  exact annuletref08_Peers_refl l hl K 0 (by omega) (by omega)

/-- A message is the same as itself. -/
theorem msame_f (m : S37) (h8 : m.f8.length ≤ 40) (h9 : m.f9.length ≤ 20) (K : Nat) (hK : 100 < K) : annuletref08_Same.f K m.f0 m.f1 m.f2 m.f3 m.f4 m.f5 m.f6 m.f7.f0 m.f7.f1 m.f8 m.f9 m.f0 m.f1 m.f2 m.f3 m.f4 m.f5 m.f6 m.f7.f0 m.f7.f1 m.f8 m.f9 = some true := by
  obtain ⟨K, rfl⟩ : ∃ k, K = k + 1 := ⟨K - 1, by omega⟩
  have h1 := annuletref08_Peers_same m.f8 (by omega) K (by omega)
  have h2 := annuletref08_Pairs_same m.f9 (by omega) K (by omega)
  have hj : annuletref08_Same.j0 (K + 1) false m.f0 m.f1 m.f2 m.f3 m.f4 m.f5 m.f6 m.f7.f0 m.f7.f1 m.f8 m.f9 m.f0 m.f1 m.f2 m.f3 m.f4 m.f5 m.f6 m.f7.f0 m.f7.f1 m.f8 m.f9 = some true := by
    rw [annuletref08_Same.j0, if_neg (by simp), h1, Option.bind_some, if_pos rfl, h2]
    rfl
  unfold annuletref08_Same.f
  simp [hj]
/-- Rows of at most one message are the same as themselves. -/
theorem outs_f (l : List S63) (hl : l.length ≤ 1) (h : ∀ x ∈ l, x.f1.f8.length ≤ 40 ∧ x.f1.f9.length ≤ 20) : annuletref30_Outs.f 1000 l l = some true := by
  unfold annuletref30_Outs.f
  rw [if_pos rfl]
  show annuletref30_Outs.l0 (999 + 1) l l 0 = _
  rw [annuletref30_Outs.l0]
  match l, hl, h with
  | [], _, _ => rfl
  | [x], _, h =>
    have hx := h x (by simp)
    have hm := msame_f x.f1 hx.1 hx.2 999 (by omega)
    have hr : rd_T63 [x] 0 = x := rfl
    have hn : annuletref30_Outs.l0 999 [x] [x] (wrap64 (0 + 1)) = some true := by
      have hw : wrap64 ((0 : Int) + 1) = 1 := by unfold wrap64; omega
      rw [hw]
      show annuletref30_Outs.l0 (998 + 1) [x] [x] 1 = _
      rw [annuletref30_Outs.l0]
      rfl
    rw [if_pos (by simp), if_pos (by omega), if_pos (by simp), hr, if_neg (by simp), hm]
    simpa using hn
/-- Stores that differ at their first pair are not the same. -/
theorem pairs_ne (x y : S48) (t t' : List S48) (ht : t.length = t'.length) (hne : x.f1.toList ≠ y.f1.toList) (K : Nat) : annuletref08_Pairs.f (K + 1) (x :: t) (y :: t') = some false := by
  unfold annuletref08_Pairs.f
  rw [if_pos (by simp [ht]), annuletref08_Pairs.l0, if_pos (by simp only [List.length_cons]; omega), if_pos (by omega), if_pos (by simp only [List.length_cons]; omega)]
  have h1 : rd_T48 (x :: t) 0 = x := rfl
  have h2 : rd_T48 (y :: t') 0 = y := rfl
  rw [h1, h2, if_pos (by simp [hne])]
/-- The store with a letter more in each value. -/
def valsX (l : List S48) : List S48 := l.map fun p => { p with f1 := p.f1 ++ ⟨#[120]⟩ }
theorem val_ne (b : ByteArray) : (b ++ ⟨#[120]⟩).toList ≠ b.toList := by
  intro h
  rw [ByteArray.toList_eq, ByteArray.toList_eq] at h
  have h1 := congrArg List.length h
  rw [Array.length_toList, Array.length_toList] at h1
  have h2 : (b ++ ⟨#[120]⟩).size = b.size + 1 := by rw [ByteArray.size_append]; rfl
  have h3 : (b ++ ⟨#[120]⟩).size = b.size := h1
  omega
theorem same_ne_f (n : ND) (h : NL n) (hs : n.l7 ≠ []) : annuletref30_Same.f 5000 n.a0 n.a1 n.a2 n.a3 n.l4 n.l5 n.l6 (valsX n.l7) n.l8 n.l9 n.l10 n.a11 n.a12 n.a13 n.a0 n.a1 n.a2 n.a3 n.l4 n.l5 n.l6 n.l7 n.l8 n.l9 n.l10 n.a11 n.a12 n.a13 = some false := by
  have h1 := annuletref27_Same_same n.l4 (by have := h.m4; omega) 4999 (by have := h.m4; omega)
  have h2 := annuletref27_Same_same n.l5 (by have := h.m5; omega) 4999 (by have := h.m5; omega)
  have h3 := annuletref28_Same_same n.l6 (by have := h.m6; omega) 4999 (by have := h.m6; omega)
  have h4 : annuletref08_Pairs.f 4998 (valsX n.l7) n.l7 = some false := by
    cases hl : n.l7 with
    | nil => exact absurd hl hs
    | cons x t => exact pairs_ne _ _ _ _ (by simp) (val_ne x.f1) 4997
  unfold annuletref30_Same.f
  rw [if_neg (by simp), if_pos rfl, if_neg (by simp), if_pos rfl, if_pos rfl]
  show annuletref30_Same.j0 (4999 + 1) _ n.a0 n.a1 n.a2 n.a3 n.l4 n.l5 n.l6 (valsX n.l7) n.l8 n.l9 n.l10 n.a11 n.a12 n.a13 n.a0 n.a1 n.a2 n.a3 n.l4 n.l5 n.l6 n.l7 n.l8 n.l9 n.l10 n.a11 n.a12 n.a13 = _
  rw [annuletref30_Same.j0, if_neg (by simp), h1, Option.bind_some, if_pos rfl, h2, Option.bind_some, if_pos rfl, h3, Option.bind_some]
  show annuletref30_Same.j1 (4998 + 1) _ n.a0 n.a1 n.a2 n.a3 n.l4 n.l5 n.l6 (valsX n.l7) n.l8 n.l9 n.l10 n.a11 n.a12 n.a13 n.a0 n.a1 n.a2 n.a3 n.l4 n.l5 n.l6 n.l7 n.l8 n.l9 n.l10 n.a11 n.a12 n.a13 = _
  rw [annuletref30_Same.j1, if_neg (by simp), h4]
  rfl
theorem same_ne_ok (n : ND) (s s' : NA) (w : World) (h : NC w { n with l7 := valsX n.l7 } s) (h' : NC w n s') (hl : NL n) (hs : n.l7 ≠ []) : Calls Try.prog 12 #[nv { n with l7 := valsX n.l7 } s, nv n s'] w fun e w' => e = .returned (.bool false) ∧ Below w.heap.size w w' :=
  annuletref30_Same.calls 5000 n.a0 n.a1 n.a2 n.a3 s.A4 s.c4 n.l4 s.A5 s.c5 n.l5 s.A6 s.c6 n.l6 s.A7 s.c7 (valsX n.l7) s.A8 s.c8 n.l8 s.A9 s.c9 n.l9 s.A10 s.c10 n.l10 n.a11 n.a12 n.a13 n.a0 n.a1 n.a2 n.a3 s'.A4 s'.c4 n.l4 s'.A5 s'.c5 n.l5 s'.A6 s'.c6 n.l6 s'.A7 s'.c7 n.l7 s'.A8 s'.c8 n.l8 s'.A9 s'.c9 n.l9 s'.A10 s'.c10 n.l10 n.a11 n.a12 n.a13 false w h.r4 h.q4 h.r5 h.q5 h.r6 h.q6 h.r7 h.q7 h.r8 h.q8 h.r9 h.q9 h.r10 h.q10 h'.r4 h'.q4 h'.r5 h'.q5 h'.r6 h'.q6 h'.r7 h'.q7 h'.r8 h'.q8 h'.r9 h'.q9 h'.r10 h'.q10 (same_ne_f n hl hs)
theorem outs_ok (l : List S63) (A A' : Option Addr) (c c' : Nat) (w : World) (h : Kd.C k63 w A l.length l) (hc : l.length ≤ c) (h' : Kd.C k63 w A' l.length l) (hc' : l.length ≤ c') (hl : l.length ≤ 1) (hx : ∀ x ∈ l, x.f1.f8.length ≤ 40 ∧ x.f1.f9.length ≤ 20) : Calls Try.prog 13 #[.slice A l.length c, .slice A' l.length c'] w fun e w' => e = .returned (.bool true) ∧ Below w.heap.size w w' :=
  annuletref30_Outs.calls 1000 A c l A' c' l true w h hc h' hc' (outs_f l hl hx)
theorem askO_len (n : ND) (t0 t1 : Int) (m : S37) : (askO n t0 t1 m).length ≤ 1 := by
  unfold askO; split <;> simp
theorem askO_small (n : ND) (t0 t1 : Int) (m : S37) (h : m.f8.length ≤ 40 ∧ m.f9.length ≤ 20) : ∀ x ∈ askO n t0 t1 m, x.f1.f8.length ≤ 40 ∧ x.f1.f9.length ≤ 20 := by
  intro x hx
  unfold askO at hx
  split at hx
  · simp at hx
  · rw [List.mem_singleton.mp hx]; exact h
theorem askN_small {n : ND} (h : NL n) (h8 : n.l8.length ≤ 100) (t0 t1 : Int) (m : S37) (why job : Int) : NL (askN n t0 t1 m why job) := by
  unfold askN
  split
  · exact h
  · exact ⟨h.m4, h.m5, h.m6, h.m7, by show (n.l8 ++ [_]).length ≤ 1000; rw [List.length_append]; show n.l8.length + 1 ≤ 1000; omega, h.m9, h.m10⟩
theorem grow_other48 {α : Type} {d : Kd α} {e : Nat} {V V' : World} {base b8 : Nat} {ok ok8 : Nat → Prop} {v v8 : Value} {xs : List α} {xs8 : List S48} (h : d.R e V base ok v xs) (h8 : Kd.R k48 48 V b8 ok8 v8 xs8) (hg : V.grownBy V' v8.ownBlock) (hne : 48 ∉ e :: d.E) : d.R e V' base (fun _ => True) v xs := by
  refine Kd.R_mono (Kd.R_step (Kd.R_bound h) (fun k hk hlt => hg.block k hlt (fun e' => ?_))) (fun _ hk => trivial)
  obtain ⟨_, _, _, q, hq, c, hc⟩ := hk
  obtain ⟨_, _, _, q', hq', c', hc'⟩ := (Kd.R_bound h8).1 k e'.symm
  rw [hc] at hc'
  injection hc' with hc'
  injection hc' with _ hqq _
  have h48 : q' = 48 := by
    have : q' ∈ [48] := hq'
    simpa using this
  exact hne (by rw [← h48, ← hqq]; exact hq)
/-- A node whose store is written into. -/
theorem nr_set {V V' : World} {base : Nat} {n : ND} {s : NA} {xs : List S48} (h : NR V base n s) (hl : xs.length = n.l7.length) (hx : Kd.R k48 48 V' base (fun _ => True) (.slice s.A7 n.l7.length s.c7) xs) (hg : V.grownBy V' (Value.slice s.A7 n.l7.length s.c7).ownBlock) : NR V' base { n with l7 := xs } s := by
  refine ⟨grow_other48 h.o4 h.o7 hg (by decide), grow_other48 h.o5 h.o7 hg (by decide), grow_other48 h.o6 h.o7 hg (by decide), ?_, grow_other48 h.o8 h.o7 hg (by decide), grow_other48 h.o9 h.o7 hg (by decide), grow_other48 h.o10 h.o7 hg (by decide)⟩
  show Kd.R k48 48 V' base (fun _ => True) (.slice s.A7 xs.length s.c7) xs
  rw [hl]; exact hx
theorem vals_step (l : List S48) (k : Nat) (h : k < l.length) : (valsX (l.take k) ++ l.drop k).set k { rd_T48 l k with f1 := (rd_T48 l k).f1 ++ ⟨#[120]⟩ } = valsX (l.take (k + 1)) ++ l.drop (k + 1) := by
  have hr : rd_T48 l k = l[k] := by
    unfold rd_T48
    simp [List.getD_eq_getElem?_getD, h]
  rw [hr, List.drop_eq_getElem_cons h, List.take_succ_eq_append_getElem h]
  unfold valsX
  have h1 : (l.take k).length = k := by rw [List.length_take]; omega
  rw [List.set_append_right _ _ (by rw [List.length_map, h1]; exact Nat.le_refl k), List.length_map, h1, Nat.sub_self, List.set_cons_zero, List.map_append, List.append_assoc]
  rfl
theorem vals_at (l : List S48) (k : Nat) (h : k < l.length) : rd_T48 (valsX (l.take k) ++ l.drop k) k = rd_T48 l k := by
  unfold rd_T48
  simp only [List.getD_eq_getElem?_getD, Int.toNat_natCast]
  rw [List.getElem?_append_right (by simp [valsX]; omega)]
  simp [valsX, Nat.min_eq_left (Nat.le_of_lt h)]
theorem own_form {α : Type} {d : Kd α} {e : Nat} {w : World} {base : Nat} {ok : Nat → Prop} {A : Option Addr} {n c : Nat} {xs : List α} (h : d.R e w base ok (.slice A n c) xs) (hn : 0 < n) : ∃ g, A = some ⟨g, 0, none⟩ := by
  obtain ⟨_, inner, hown, _⟩ := h
  rcases hown.2 with ⟨hv, h0⟩ | ⟨g, cap, cur, hv, _⟩
  · injection hv with _ h1 _; omega
  · injection hv with ha; exact ⟨g, ha⟩
theorem l29_small (l : List S48) (hl : l.length ≤ 100) : ∀ K j : Nat, annuletlaw29_Large.l0 K l j = some false → ∀ i : Nat, j ≤ i → i < l.length → (rd_T48 l i).f1.size ≤ 700
  | 0, j, h => by simp [annuletlaw29_Large.l0] at h
  | K + 1, j, h => by
    intro i hji hi
    rw [annuletlaw29_Large.l0, if_pos (by omega), if_pos (by omega)] at h
    split at h
    · cases h
    · split at h
      · cases h
      · have hw : wrap64 ((j : Int) + 1) = ((j + 1 : Nat) : Int) := by unfold wrap64; omega
        rw [hw] at h
        by_cases hij : i = j
        · subst hij; omega
        · exact l29_small l hl K (j + 1) h i (by omega) hi
theorem l29_small_f (l : List S48) (h : annuletlaw29_Large.f 1000 l = some false) : ∀ i : Nat, i < l.length → (rd_T48 l i).f1.size ≤ 700 := by
  unfold annuletlaw29_Large.f at h
  split at h
  · cases h
  · exact fun i hi => l29_small l (by omega) 1000 0 h i (Nat.zero_le _) hi
theorem large_small (n : ND) (h : annuletlaw30_Large.f 1000 n.a0 n.a1 n.a2 n.a3 n.l4 n.l5 n.l6 n.l7 n.l8 n.l9 n.l10 n.a11 n.a12 n.a13 = some false) : ∀ i : Nat, i < n.l7.length → (rd_T48 n.l7 i).f1.size ≤ 700 := by
  have ht : annuletlaw30_Large.j0 1000 true n.a0 n.a1 n.a2 n.a3 n.l4 n.l5 n.l6 n.l7 n.l8 n.l9 n.l10 n.a11 n.a12 n.a13 = some true := by
    show annuletlaw30_Large.j0 (999 + 1) true n.a0 n.a1 n.a2 n.a3 n.l4 n.l5 n.l6 n.l7 n.l8 n.l9 n.l10 n.a11 n.a12 n.a13 = _
    rw [annuletlaw30_Large.j0, if_pos rfl]
  unfold annuletlaw30_Large.f at h
  rw [ht] at h
  iterate 6
    split at h
    · cases h
  cases hb : annuletlaw29_Large.f 1000 n.l7 with
  | none => rw [hb] at h; cases h
  | some b =>
    rw [hb] at h
    cases b with
    | true => rw [Option.bind_some, ht] at h; cases h
    | false => exact l29_small_f n.l7 hb
theorem large_ok2 (n : ND) (s : NA) : ∃ b, (∀ w : World, NC w n s → Calls Try.prog 6 #[nv n s] w fun e w' => e = .returned (.bool b) ∧ Below w.heap.size w w') ∧ (b = false → NL n ∧ n.l8.length ≤ 100 ∧ ∀ i : Nat, i < n.l7.length → (rd_T48 n.l7 i).f1.size ≤ 700) := by
  obtain ⟨b, hb, hf⟩ := large_f n
  refine ⟨b, fun w h => annuletlaw30_Large.calls 1000 n.a0 n.a1 n.a2 n.a3 s.A4 s.c4 n.l4 s.A5 s.c5 n.l5 s.A6 s.c6 n.l6 s.A7 s.c7 n.l7 s.A8 s.c8 n.l8 s.A9 s.c9 n.l9 s.A10 s.c10 n.l10 n.a11 n.a12 n.a13 b w h.r4 h.q4 h.r5 h.q5 h.r6 h.q6 h.r7 h.q7 h.r8 h.q8 h.r9 h.q9 h.r10 h.q10 hb, fun h => ?_⟩
  obtain ⟨h4, h5, h6, h7, h8, h9, h10⟩ := hf h
  subst h
  exact ⟨⟨by omega, by omega, by omega, by omega, by omega, by omega, by omega⟩, h8, large_small n hb⟩
theorem same_x (n : ND) (s s' : NA) (w : World) (h : NC w { n with l7 := valsX n.l7 } s) (h' : NC w n s') (hl : NL n) : Calls Try.prog 12 #[nv n s, nv n s'] w fun e w' => e = .returned (.bool (decide (n.l7.length = 0))) ∧ Below w.heap.size w w' := by
  have hv : nv { n with l7 := valsX n.l7 } s = nv n s := by simp [nv, valsX]
  by_cases h0 : n.l7 = []
  · have hh : NC w n s := by
      have e1 : { n with l7 := valsX n.l7 } = n := by
        have : valsX n.l7 = n.l7 := by rw [h0]; rfl
        rw [this]
      rwa [e1] at h
    rw [decide_eq_true (by rw [h0]; rfl)]
    exact same_ok n s s' w hh h' hl
  · rw [decide_eq_false (fun e => h0 (List.eq_nil_of_length_eq_zero e)), ← hv]
    exact same_ne_ok n s s' w h h' hl h0
structure AskQ (wr : World) (o g : Nat) (c11 c5 : Array Value) (V : World) : Prop where
  bel : Below wr.heap.size wr V
  b11 : V.heap[o]? = some (.cells c11 34 (0, 0))
  b5 : V.heap[g]? = some (.cells c5 34 (0, 0))
theorem AskQ.go {wr : World} {o g : Nat} {c11 c5 : Array Value} {V V' : World} (h : AskQ wr o g c11 c5 V) (hb : Below V.heap.size V V') : AskQ wr o g c11 c5 V' := ⟨below_then h.bel h.bel.size hb, (hb.block o (blk_lt h.b11)).trans h.b11, (hb.block g (blk_lt h.b5)).trans h.b5⟩
theorem add_at (g k : Nat) : (⟨g, 0, none⟩ : Addr).add k = ⟨g, k, none⟩ := by
  unfold Addr.add
  split <;> simp_all
set_option maxRecDepth 100000 in
set_option maxHeartbeats 16000000 in
theorem asks_calls (n : ND) (s : NA) (t0 t1 : Int) (m : S37) (ms : MA) (why job : Int) (w : World) (h : NC w n s) (hb : NB n) (hm : MC w m ms) (hmb : MB m) :
    Calls Try.prog 3 #[nv n s, .agg #[.int .u64 t0, .int .u16 t1], mv m ms, .int .i64 why, .int .i64 job] w fun e w' => e = .returned (.bool true) ∧ Below w.heap.size w w' := by
  obtain ⟨lg, HLG, hlb⟩ := large_ok2 n s
  obtain ⟨lm, HLM, hlm⟩ := mlarge_ok m ms
  have HLG := Aside0.mk HLG
  have HLM := Aside0.mk HLM
  obtain ⟨g, hg⟩ : ∃ g, w.heap.size = g := ⟨_, rfl⟩
  obtain ⟨W, hW⟩ : ∃ W, ((w.alloc (.cells #[.int .u64 n.a0, .int .u16 n.a1, .int .i64 n.a2, .bool n.a3, .slice s.A4 n.l4.length s.c4, .slice s.A5 n.l5.length s.c5, .slice s.A6 n.l6.length s.c6, .slice s.A7 n.l7.length s.c7, .slice s.A8 n.l8.length s.c8, .slice s.A9 n.l9.length s.c9, .slice s.A10 n.l10.length s.c10, .int .u32 n.a11, .int .i64 n.a12, .int .i64 n.a13] 34)).alloc (.cells #[.int .u64 t0, .int .u16 t1] 25)).alloc (.cells #[.int .i64 m.f0, .int .u32 m.f1, .int .u8 m.f2, .bool m.f3, .int .u64 m.f4, .string m.f5, .string m.f6, .int .u64 m.f7.f0, .int .u16 m.f7.f1, .slice ms.A9 m.f8.length ms.c9, .slice ms.A10 m.f9.length ms.c10] 37) = W := ⟨_, rfl⟩
  obtain ⟨hbW, hsW, e4, e5, e6⟩ := alloc3 hW
  rw [hg] at hsW e4 e5 e6
  have HAW : Aside0 (∀ V, Calls Try.prog 8 #[] V fun e w' => e = .returned (.bool true) ∧ Below V.heap.size V w') := ⟨awake_ok⟩
  have HN := Aside0.mk h
  have HNB := Aside0.mk hb
  have HM := Aside0.mk hm
  have HMB := Aside0.mk hmb
  have HGG := Aside0.mk hg
  have HBW := Aside0.mk hbW
  have HE := Aside0.mk (And.intro e4 (And.intro e5 e6))
  clear h hb hm hmb hbW hsW e5 e6 
  cases lg with
  | true =>
    go_enter Try.func3, Try.ntmps3
    go_wp2_with (refine gate_ (.load 34 (.tmp 5)) rfl ?_; refine wpList_load_row rfl 34 _ rfl (g) rfl 34 _ (0, 0) _ e4 Try.underlying34 rfl (by kernel_rfl) ?_)
    refine (HLG.out W (HN.out.below HBW.out)).mono ?_
    rintro e w1 ⟨rfl, hb1⟩
    have HB1 := Aside0.mk (below_then HBW.out HBW.out.size hb1)
    clear hb1 e4 hW
    go_wp2_with fail
    refine (HAW.out w1).mono ?_
    rintro e wz ⟨rfl, hbz⟩
    have HBZ := Aside0.mk hbz
    clear hbz
    go_wp2_with fail
    go_ret
    exact ⟨rfl, below_then (HB1.out) (HB1.out).size HBZ.out⟩
  | false =>
    have HSTEP : Aside0 (∀ w1, Below W.heap.size W w1 → Below w.heap.size w w1 ∧ w1.heap[g]? = some (.cells #[.int .u64 n.a0, .int .u16 n.a1, .int .i64 n.a2, .bool n.a3, .slice s.A4 n.l4.length s.c4, .slice s.A5 n.l5.length s.c5, .slice s.A6 n.l6.length s.c6, .slice s.A7 n.l7.length s.c7, .slice s.A8 n.l8.length s.c8, .slice s.A9 n.l9.length s.c9, .slice s.A10 n.l10.length s.c10, .int .u32 n.a11, .int .i64 n.a12, .int .i64 n.a13] 34 (0, 0)) ∧ w1.heap[g + 1]? = some (.cells #[.int .u64 t0, .int .u16 t1] 25 (0, 0)) ∧ w1.heap[g + 1 + 1]? = some (.cells #[.int .i64 m.f0, .int .u32 m.f1, .int .u8 m.f2, .bool m.f3, .int .u64 m.f4, .string m.f5, .string m.f6, .int .u64 m.f7.f0, .int .u16 m.f7.f1, .slice ms.A9 m.f8.length ms.c9, .slice ms.A10 m.f9.length ms.c10] 37 (0, 0))) := ⟨fun w1 hb1 => ⟨below_then HBW.out HBW.out.size hb1, (hb1.block _ (blk_lt HE.out.1)).trans HE.out.1, (hb1.block _ (blk_lt HE.out.2.1)).trans HE.out.2.1, (hb1.block _ (blk_lt HE.out.2.2)).trans HE.out.2.2⟩⟩
    cases lm with
    | true =>
      clear hlb hlm
      go_enter Try.func3, Try.ntmps3
      go_wp2_with (refine gate_ (.load 34 (.tmp 5)) rfl ?_; refine wpList_load_row rfl 34 _ rfl (g) rfl 34 _ (0, 0) _ e4 Try.underlying34 rfl (by kernel_rfl) ?_)
      refine (HLG.out W (HN.out.below HBW.out)).mono ?_
      rintro e w1 ⟨rfl, hb1⟩
      obtain ⟨hw1, q4, q5, q6⟩ := HSTEP.out w1 hb1
      have HW1 := Aside0.mk hw1
      obtain ⟨d0, d1, d2, d3, d4, d5, d6, d7, d8, d9, d10, _⟩ := box11f q6
      clear hb1 e4 hW hw1 q4 q5 q6
      go_wp2_with fail
      refine (HLM.out w1 (HM.out.below HW1.out)).mono ?_
      rintro e w2 ⟨rfl, hb2⟩
      have HB2 := Aside0.mk (below_then HW1.out HW1.out.size hb2)
      clear hb2 d0 d1 d2 d3 d4 d5 d6 d7 d8 d9 d10
      go_wp2_with fail
      refine (HAW.out w2).mono ?_
      rintro e wz ⟨rfl, hbz⟩
      have HBZ := Aside0.mk hbz
      clear hbz
      go_wp2_with fail
      go_ret
      exact ⟨rfl, below_then (HB2.out) (HB2.out).size HBZ.out⟩
    | false =>
      obtain ⟨hnl, h100, hsm⟩ := hlb rfl
      have HNL := Aside0.mk hnl
      have HSM := Aside0.mk hsm
      have H100 := Aside0.mk h100
      have HMS := Aside0.mk (hlm rfl)
      clear hlb hlm hnl h100 hsm
      have HCP : Aside0 (∀ V, Below w.heap.size w V → Calls Try.prog 9 #[nv n s] V (NodeP n V)) := ⟨fun V hV => copy_ok n s V (HN.out.below hV) HNB.out⟩
      obtain ⟨an, han⟩ : ∃ an, askN n t0 t1 m why job = an := ⟨_, rfl⟩
      obtain ⟨ao, hao⟩ : ∃ ao, askO n t0 t1 m = ao := ⟨_, rfl⟩
      have HASK : Aside0 (∀ (V : World) (s1 : NA), Below w.heap.size w V → NC V n s1 → Calls Try.prog 10 #[nv n s1, .agg #[.int .u64 t0, .int .u16 t1], mv m ms, .int .i64 why, .int .i64 job] V (AskP an ao V)) := ⟨fun V s1 hV h1 => by rw [← han, ← hao]; exact ask_ok n s1 t0 t1 m ms why job V h1 HNB.out (HM.out.below hV) HMB.out⟩
      have HRAS : Aside0 (∀ (V : World), Below w.heap.size w V → Calls Try.prog 11 #[nv n s, .agg #[.int .u64 t0, .int .u16 t1], mv m ms, .int .i64 why, .int .i64 job] V (AskP an ao V)) := ⟨fun V hV => by rw [← han, ← hao]; exact rask_ok n s t0 t1 m ms why job V (HN.out.below hV) (HM.out.below hV)⟩
      have HAO : Aside0 (ao.length ≤ 1 ∧ (∀ x ∈ ao, x.f1.f8.length ≤ 40 ∧ x.f1.f9.length ≤ 20) ∧ NL an) := ⟨by rw [← hao, ← han]; exact ⟨askO_len _ _ _ _, askO_small _ _ _ _ HMS.out, askN_small HNL.out H100.out _ _ _ _ _⟩⟩
      clear han hao
      go_enter Try.func3, Try.ntmps3
      go_wp2_with (refine gate_ (.load 34 (.tmp 5)) rfl ?_; refine wpList_load_row rfl 34 _ rfl (g) rfl 34 _ (0, 0) _ e4 Try.underlying34 rfl (by kernel_rfl) ?_)
      refine (HLG.out W (HN.out.below HBW.out)).mono ?_
      rintro e w1 ⟨rfl, hb1⟩
      obtain ⟨hw1, q4, q5, q6⟩ := HSTEP.out w1 hb1
      have HW1 := Aside0.mk hw1
      have HB1 := Aside0.mk hb1
      obtain ⟨d0, d1, d2, d3, d4, d5, d6, d7, d8, d9, d10, _⟩ := box11f q6
      clear hb1 e4 hW hw1 q4 q5 q6
      go_wp2_with fail
      refine (HLM.out w1 (HM.out.below HW1.out)).mono ?_
      rintro e w2 ⟨rfl, hb2⟩
      have HB2 := Aside0.mk (below_then HB1.out HB1.out.size hb2)
      obtain ⟨hw2, q4, q5, q6⟩ := HSTEP.out w2 HB2.out
      have HW2 := Aside0.mk hw2
      clear hb2 hw2 q5 q6 d0 d1 d2 d3 d4 d5 d6 d7 d8 d9 d10
      go_wp2_with (refine gate_ (.load 34 (.tmp 5)) rfl ?_; refine wpList_load_row rfl 34 _ rfl (g) rfl 34 _ (0, 0) _ q4 Try.underlying34 rfl (by kernel_rfl) ?_)
      refine (HCP.out w2 HW2.out).mono ?_
      rintro e w3 ⟨s1, rfl, hN3, hb3⟩
      have HN3 := Aside0.mk hN3
      have HB3 := Aside0.mk (below_then HB2.out HB2.out.size hb3)
      have hz := heap_alloc_new w3 (.cells #[.int .u64 0, .int .u16 0, .int .i64 0, .bool false, .slice none 0 0, .slice none 0 0, .slice none 0 0, .slice none 0 0, .slice none 0 0, .slice none 0 0, .slice none 0 0, .int .u32 0, .int .i64 0, .int .i64 0] 34)
      obtain ⟨hw3, _, j5, j6⟩ := HSTEP.out w3 HB3.out
      have HW3 := Aside0.mk hw3
      have J5 := Aside0.mk j5
      have J6 := Aside0.mk j6
      clear hN3 hb3 q4 j5 j6 hw3
      go_wp2_with (first
        | (refine store_box (.store 34 (.tmp 11) (.tmp 26)) 34 _ _ (w3.heap.size) 0 _ #[.int .u64 n.a0, .int .u16 n.a1, .int .i64 n.a2, .bool n.a3, .slice s1.A4 n.l4.length s1.c4, .slice s1.A5 n.l5.length s1.c5, .slice s1.A6 n.l6.length s1.c6, .slice s1.A7 n.l7.length s1.c7, .slice s1.A8 n.l8.length s1.c8, .slice s1.A9 n.l9.length s1.c9, .slice s1.A10 n.l10.length s1.c10, .int .u32 n.a11, .int .i64 n.a12, .int .i64 n.a13] 34 _ [.int .u64 n.a0, .int .u16 n.a1, .int .i64 n.a2, .bool n.a3, .slice s1.A4 n.l4.length s1.c4, .slice s1.A5 n.l5.length s1.c5, .slice s1.A6 n.l6.length s1.c6, .slice s1.A7 n.l7.length s1.c7, .slice s1.A8 n.l8.length s1.c8, .slice s1.A9 n.l9.length s1.c9, .slice s1.A10 n.l10.length s1.c10, .int .u32 n.a11, .int .i64 n.a12, .int .i64 n.a13] rfl rfl rfl rfl rfl rfl hz rfl (by kernel_rfl) (by simp) (by simp [Value.oneCell']) (by simp) ?_; intro v4 e11 hs; have HS4 := Aside0.mk (sto_new hs); have k5 := (HS4.out.block _ (blk_lt J5.out)).trans J5.out; have k6 := (HS4.out.block _ (blk_lt J6.out)).trans J6.out; clear hs hz)
        | (refine gate_ (.load 34 (.tmp 11)) rfl ?_; refine wpList_load_row rfl 34 _ rfl (w3.heap.size) rfl 34 _ (0, 0) _ e11 Try.underlying34 rfl (by kernel_rfl) ?_)
        | (refine gate_ (.load 25 (.tmp 6)) rfl ?_; refine wpList_load_row rfl 25 _ rfl (g + 1) rfl 25 _ (0, 0) _ k5 Try.underlying25 rfl (by kernel_rfl) ?_)
        | (refine gate_ (.load 37 (.tmp 7)) rfl ?_; refine wpList_load_row rfl 37 _ rfl (g + 1 + 1) rfl 37 _ (0, 0) _ k6 Try.underlying37 rfl (by kernel_rfl) ?_))
      have HB4 := Aside0.mk (below_then HB3.out HB3.out.size HS4.out)
      have HW4 := Aside0.mk (HSTEP.out v4 HB4.out).1
      refine (HASK.out v4 s1 HW4.out (HN3.out.reads.below HS4.out)).mono ?_
      rintro e w5 ⟨s2, A2, c2, rfl, hN5, hq5, hC5, hb5⟩
      have HN5 := Aside0.mk hN5
      have HQ5 := Aside0.mk hq5
      have HC5 := Aside0.mk hC5
      have HB5 := Aside0.mk (below_then HB4.out HB4.out.size hb5)
      have HR5 := Aside0.mk (HN3.out.below (below_then HS4.out HS4.out.size hb5))
      have E11 := Aside0.mk ((hb5.block _ (blk_lt e11)).trans e11)
      have hz := heap_alloc_new w5 (.cells #[.int .u64 0, .int .u16 0, .int .i64 0, .bool false, .slice none 0 0, .slice none 0 0, .slice none 0 0, .slice none 0 0, .slice none 0 0, .slice none 0 0, .slice none 0 0, .int .u32 0, .int .i64 0, .int .i64 0] 34)
      obtain ⟨_, j4, j5, j6⟩ := HSTEP.out w5 HB5.out
      have J4 := Aside0.mk j4
      have J5b := Aside0.mk j5
      have J6b := Aside0.mk j6
      clear hN5 hq5 hC5 hb5 e11 k5 k6 j4 j5 j6
      go_wp2_with (first
        | (refine store_box (.store 34 (.tmp 12) (.tmp 34)) 34 _ _ (w5.heap.size) 0 _ #[.int .u64 an.a0, .int .u16 an.a1, .int .i64 an.a2, .bool an.a3, .slice s2.A4 an.l4.length s2.c4, .slice s2.A5 an.l5.length s2.c5, .slice s2.A6 an.l6.length s2.c6, .slice s2.A7 an.l7.length s2.c7, .slice s2.A8 an.l8.length s2.c8, .slice s2.A9 an.l9.length s2.c9, .slice s2.A10 an.l10.length s2.c10, .int .u32 an.a11, .int .i64 an.a12, .int .i64 an.a13] 34 _ [.int .u64 an.a0, .int .u16 an.a1, .int .i64 an.a2, .bool an.a3, .slice s2.A4 an.l4.length s2.c4, .slice s2.A5 an.l5.length s2.c5, .slice s2.A6 an.l6.length s2.c6, .slice s2.A7 an.l7.length s2.c7, .slice s2.A8 an.l8.length s2.c8, .slice s2.A9 an.l9.length s2.c9, .slice s2.A10 an.l10.length s2.c10, .int .u32 an.a11, .int .i64 an.a12, .int .i64 an.a13] rfl rfl rfl rfl rfl rfl hz rfl (by kernel_rfl) (by simp) (by simp [Value.oneCell']) (by simp) ?_; intro v6 e12 hs; have HS6 := Aside0.mk (sto_new hs); have k4 := (HS6.out.block _ (blk_lt J4.out)).trans J4.out; have k5 := (HS6.out.block _ (blk_lt J5b.out)).trans J5b.out; have k6 := (HS6.out.block _ (blk_lt J6b.out)).trans J6b.out; clear hs hz)
        | (refine gate_ (.load 34 (.tmp 5)) rfl ?_; refine wpList_load_row rfl 34 _ rfl (g) rfl 34 _ (0, 0) _ k4 Try.underlying34 rfl (by kernel_rfl) ?_)
        | (refine gate_ (.load 25 (.tmp 6)) rfl ?_; refine wpList_load_row rfl 25 _ rfl (g + 1) rfl 25 _ (0, 0) _ k5 Try.underlying25 rfl (by kernel_rfl) ?_)
        | (refine gate_ (.load 37 (.tmp 7)) rfl ?_; refine wpList_load_row rfl 37 _ rfl (g + 1 + 1) rfl 37 _ (0, 0) _ k6 Try.underlying37 rfl (by kernel_rfl) ?_))
      have HB6 := Aside0.mk (below_then HB5.out HB5.out.size HS6.out)
      have HW6 := Aside0.mk (HSTEP.out v6 HB6.out).1
      refine (HRAS.out v6 HW6.out).mono ?_
      rintro e w7 ⟨s3, A3, c3, rfl, hN7, hq7, hC7, hb7⟩
      have HN7 := Aside0.mk hN7
      have HQ7 := Aside0.mk hq7
      have HC7 := Aside0.mk hC7
      have HB57 := Aside0.mk (below_then HS6.out HS6.out.size hb7)
      have HB7 := Aside0.mk (below_then HB6.out HB6.out.size hb7)
      have E12 := Aside0.mk ((hb7.block _ (blk_lt e12)).trans e12)
      have hz := heap_alloc_new w7 (.cells #[.int .u64 0, .int .u16 0, .int .i64 0, .bool false, .slice none 0 0, .slice none 0 0, .slice none 0 0, .slice none 0 0, .slice none 0 0, .slice none 0 0, .slice none 0 0, .int .u32 0, .int .i64 0, .int .i64 0] 34)
      clear hN7 hq7 hC7 hb7 e12 k4 k5 k6
      go_wp2_with (first
        | (refine store_box (.store 34 (.tmp 14) (.tmp 43)) 34 _ _ (w7.heap.size) 0 _ #[.int .u64 an.a0, .int .u16 an.a1, .int .i64 an.a2, .bool an.a3, .slice s3.A4 an.l4.length s3.c4, .slice s3.A5 an.l5.length s3.c5, .slice s3.A6 an.l6.length s3.c6, .slice s3.A7 an.l7.length s3.c7, .slice s3.A8 an.l8.length s3.c8, .slice s3.A9 an.l9.length s3.c9, .slice s3.A10 an.l10.length s3.c10, .int .u32 an.a11, .int .i64 an.a12, .int .i64 an.a13] 34 _ [.int .u64 an.a0, .int .u16 an.a1, .int .i64 an.a2, .bool an.a3, .slice s3.A4 an.l4.length s3.c4, .slice s3.A5 an.l5.length s3.c5, .slice s3.A6 an.l6.length s3.c6, .slice s3.A7 an.l7.length s3.c7, .slice s3.A8 an.l8.length s3.c8, .slice s3.A9 an.l9.length s3.c9, .slice s3.A10 an.l10.length s3.c10, .int .u32 an.a11, .int .i64 an.a12, .int .i64 an.a13] rfl rfl rfl rfl rfl rfl hz rfl (by kernel_rfl) (by simp) (by simp [Value.oneCell']) (by simp) ?_; intro v8 e14 hs; have HS8 := Aside0.mk (sto_new hs); have k12 := (HS8.out.block _ (blk_lt E12.out)).trans E12.out; clear hs hz)
        | (refine gate_ (.load 34 (.tmp 12)) rfl ?_; refine wpList_load_row rfl 34 _ rfl (w5.heap.size) rfl 34 _ (0, 0) _ k12 Try.underlying34 rfl (by kernel_rfl) ?_)
        | (refine gate_ (.load 34 (.tmp 14)) rfl ?_; refine wpList_load_row rfl 34 _ rfl (w7.heap.size) rfl 34 _ (0, 0) _ e14 Try.underlying34 rfl (by kernel_rfl) ?_))
      have HB58 := Aside0.mk (below_then HB57.out HB57.out.size HS8.out)
      have HB8 := Aside0.mk (below_then HB7.out HB7.out.size HS8.out)
      have HN2 := Aside0.mk (HN5.out.below HB58.out)
      have HN8 := Aside0.mk (HN7.out.below HS8.out)
      refine (same_ok an s2 s3 v8 HN2.out HN8.out HAO.out.2.2).mono ?_
      rintro e x1 ⟨rfl, hx1⟩
      have HX1 := Aside0.mk hx1
      clear hx1 k12 e14
      go_wp2_with fail
      refine (outs_ok ao A2 A3 c2 c3 x1 (Kd.C_below HC5.out (below_then HB58.out HB58.out.size HX1.out)) HQ5.out (Kd.C_below HC7.out (below_then HS8.out HS8.out.size HX1.out)) HQ7.out HAO.out.1 HAO.out.2.1).mono ?_
      rintro e x2 ⟨rfl, hx2⟩
      have HX2 := Aside0.mk (below_then HX1.out HX1.out.size hx2)
      have HB8x := Aside0.mk (below_then HB8.out HB8.out.size HX2.out)
      have HB5x := Aside0.mk (below_then HB58.out HB58.out.size HX2.out)
      have k11 := (HB5x.out.block _ (blk_lt E11.out)).trans E11.out
      obtain ⟨hwx, kg, _, _⟩ := HSTEP.out x2 HB8x.out
      have HWX := Aside0.mk hwx
      obtain ⟨y0, y1, y2, y3, y4, y5, y6, y7, y8, y9, y10, y11, y12, y13, _⟩ := box14f k11
      obtain ⟨u0, u1, u2, u3, u4, u5, u6, u7, u8, u9, u10, u11, u12, u13, _⟩ := box14f kg
      clear hx2 k11 kg hwx
      go_wp2_with fail
      have HR := Aside0.mk (HR5.out.below HB5x.out)
      refine (same_ok n s1 s x2 HR.out.reads (HN.out.below HWX.out) HNL.out).mono ?_
      rintro e x3 ⟨rfl, hx3⟩
      have HX3 := Aside0.mk hx3
      clear hx3 y0 y1 y2 y3 y4 y5 y6 y7 y8 y9 y10 y11 y12 y13 u0 u1 u2 u3 u4 u5 u6 u7 u8 u9 u10 u11 u12 u13
      go_wp2_with fail
      have HRX := Aside0.mk (HR.out.below HX3.out)
      have K11 := Aside0.mk ((below_then HB5x.out HB5x.out.size HX3.out).block _ (blk_lt E11.out) |>.trans E11.out)
      obtain ⟨o, ho⟩ : ∃ o, w3.heap.size = o := ⟨_, rfl⟩
      rw [ho] at K11
      have HWX3 := Aside0.mk (below_then HWX.out HWX.out.size HX3.out)
      rw [ho]
      go_loopg [17] n.l7.length (fun gg s17 wr => ∃ k : Nat, k ≤ n.l7.length ∧ n.l7.length - k ≤ gg ∧ s17 = .int .i64 k ∧ Aside0 (NR wr w2.heap.size { n with l7 := valsX (n.l7.take k) ++ n.l7.drop k } s1) ∧ Aside0 (wr.heap[o]? = some (.cells #[.int .u64 n.a0, .int .u16 n.a1, .int .i64 n.a2, .bool n.a3, .slice s1.A4 n.l4.length s1.c4, .slice s1.A5 n.l5.length s1.c5, .slice s1.A6 n.l6.length s1.c6, .slice s1.A7 n.l7.length s1.c7, .slice s1.A8 n.l8.length s1.c8, .slice s1.A9 n.l9.length s1.c9, .slice s1.A10 n.l10.length s1.c10, .int .u32 n.a11, .int .i64 n.a12, .int .i64 n.a13] 34 (0, 0))) ∧ Aside0 (Below w2.heap.size x3 wr))
      case atStart => exact ⟨0, by omega, by omega, rfl, ⟨HRX.out⟩, ⟨K11.out⟩, ⟨Below.refl _ _⟩⟩
      case round =>
        obtain ⟨k, hk, hgg, rfl, HNk, HOk, HBk⟩ := hrel
        have c7 : wr.cell? ⟨o, 7, none⟩ = some (.slice s1.A7 n.l7.length s1.c7) := (blk_cell HOk.out 7).trans rfl
        by_cases hlt : k < n.l7.length
        · have hlt' : ((k : Int) < (n.l7.length : Int)) = True := eq_true (by omega)
          have hlen : (valsX (n.l7.take k) ++ n.l7.drop k).length = n.l7.length := by
            unfold valsX
            rw [List.length_append, List.length_map, List.length_take, List.length_drop]; omega
          have HNd := Aside0.mk (HNk.out.below (Below.refl wr.heap.size wr).drew)
          obtain ⟨g7, hg7⟩ := own_form HNk.out.o7 (by show 0 < (valsX (n.l7.take k) ++ n.l7.drop k).length; rw [hlen]; omega)
          obtain ⟨ad, had, y0, y1⟩ := at_T48 HNd.out.reads.r7 (k : Int) (Int.natCast_nonneg k) (by show (k : Int) < ((valsX (n.l7.take k) ++ n.l7.drop k).length : Int); rw [hlen]; omega)
          obtain rfl : ad = ⟨g7, 0, none⟩ := by rw [hg7] at had; injection had with had; exact had.symm
          have yv : rd_T48 (valsX (n.l7.take k) ++ n.l7.drop k) (k : Int) = rd_T48 n.l7 k := vals_at n.l7 k hlt
          have hstep := vals_step n.l7 k hlt
          have hsz := HSM.out k hlt
          rw [yv] at y0 y1
          obtain ⟨x, hx⟩ : ∃ x, rd_T48 n.l7 k = x := ⟨_, rfl⟩
          rw [hx] at y0 y1 hstep hsz
          have hcat : ∀ V : World, (Op.stringOp .add x.f1 ⟨#[120]⟩).run Try.prog V = .ok (.string (x.f1 ++ ⟨#[120]⟩)) V := fun V => run_string_add_sum V _ _ (by have : (⟨#[120]⟩ : ByteArray).size = 1 := rfl; omega)
          have y0' : wr.drew.cell? ⟨g7, k * 2, none⟩ = some (.string x.f0) := by rw [← add_at]; exact y0
          have y1' : wr.drew.cell? ⟨g7, k * 2 + 1, none⟩ = some (.string x.f1) := by rw [add_at] at y1; exact y1
          have c7' : wr.drew.cell? ⟨o, 7, none⟩ = some (.slice (some ⟨g7, 0, none⟩) n.l7.length s1.c7) := by rw [← hg7]; exact c7
          have HST := Aside0.mk hstep
          have HHX := Aside0.mk hx
          have HSZ := Aside0.mk hsz
          have p0 : (0 ≤ (k : Int)) = True := eq_true (by omega)
          have HOd : Aside0 (wr.drew.heap[o]? = some (.cells #[.int .u64 n.a0, .int .u16 n.a1, .int .i64 n.a2, .bool n.a3, .slice s1.A4 n.l4.length s1.c4, .slice s1.A5 n.l5.length s1.c5, .slice s1.A6 n.l6.length s1.c6, .slice s1.A7 n.l7.length s1.c7, .slice s1.A8 n.l8.length s1.c8, .slice s1.A9 n.l9.length s1.c9, .slice s1.A10 n.l10.length s1.c10, .int .u32 n.a11, .int .i64 n.a12, .int .i64 n.a13] 34 (0, 0))) := ⟨HOk.out⟩
          have HBd := Aside0.mk (HBk.out.drew)
          have HG7 := Aside0.mk hg7
          have HLEN := Aside0.mk hlen
          clear y0 y1 yv hstep hx hsz hg7 had hlen
          go_wp2_with fail
          refine still_tail_ 12 (by kernel_rfl) (by kernel_rfl) (fun u hu => ?_)
          rw [← hu] at HNd HOd HBd y0' y1' c7'
          clear hu c7
          simp only [List.take_succ_cons, List.take_zero, List.drop_succ_cons, List.drop_zero]
          repeat still_step
          refine wpStill_nil ?_
          have HRO : Aside0 (Kd.R k48 48 u w2.heap.size (fun _ => True) (.slice (some ⟨g7, 0, none⟩) n.l7.length s1.c7) (valsX (n.l7.take k) ++ n.l7.drop k)) := ⟨by have h1 := HNd.out.o7; rw [HG7.out] at h1; rw [← HLEN.out]; exact h1⟩
          have HCC : Aside0 (∀ j v, [Value.string x.f0, .string x.f1][j]? = some v → u.cell? ⟨g7, (k : Int).toNat * 2 + j, none⟩ = some v) := ⟨fun j v hj => by
            rw [Int.toNat_natCast]
            rcases j with _ | _ | j
            · cases hj; exact y0'
            · cases hj; exact y1'
            · simp at hj⟩
          clear y0' y1' c7'
          refine Kd.R_store k48 (w0 := x3) w2.heap.size rfl rfl 9 _ _ rfl 48 (k : Int) 1 (valsX (n.l7.take k) ++ n.l7.drop k) { x with f1 := x.f1 ++ ⟨#[120]⟩ } (.string (x.f1 ++ ⟨#[120]⟩)) [.string (x.f1 ++ ⟨#[120]⟩)] [.string x.f0, .string x.f1] (fun _ => True) (fun _ => False) rfl rfl rfl rfl (by kernel_rfl) (by simp [Value.oneCell']) HRO.out (by omega) (by omega) rfl HCC.out (show 1 + 1 ≤ 2 by decide) (k48_mkM _ _ _ _) (fun _ h => h.elim) HBd.out ?_
          intro w9 hr9 hb9 hg9
          have HR9 := Aside0.mk hr9
          have HB9 := Aside0.mk hb9
          have HG9 := Aside0.mk hg9
          have HNE : Aside0 (o ≠ g7) := ⟨by
            intro e'
            have h1 := HNd.out.o7
            rw [HG7.out] at h1
            obtain ⟨_, _, _, q, hq, c, hc⟩ := (Kd.R_bound h1).1 g7 rfl
            have h48 : q = 48 := by
              have : q ∈ [48] := hq
              simpa using this
            rw [← e', HOd.out] at hc
            injection hc with hc
            injection hc with _ hqq _
            rw [h48] at hqq
            exact absurd hqq (by decide)⟩
          clear hr9 hb9 hg9
          go_wp2_with fail
          go_roundg (n.l7.length - (k + 1))
          case measure => omega
          case rel =>
            refine ⟨k + 1, by omega, by omega, by have h7 := HNL.out.m7; have hw : wrap64 ((k : Int) + 1) = ((k + 1 : Nat) : Int) := (by unfold wrap64; omega); rw [hw], ⟨?_⟩, ⟨(HG9.out.block o (blk_lt HOd.out) (fun e' => HNE.out (by cases e'; rfl))).trans HOd.out⟩, HB9⟩
            exact nr_set (n := { n with l7 := valsX (n.l7.take k) ++ n.l7.drop k }) HNd.out (xs := valsX (n.l7.take (k + 1)) ++ n.l7.drop (k + 1)) (by rw [← HST.out]; exact List.length_set) (by
              show Kd.R k48 48 w9 w2.heap.size _ (.slice s1.A7 (valsX (n.l7.take k) ++ n.l7.drop k).length s1.c7) _
              rw [HLEN.out, HG7.out, ← HST.out]; exact HR9.out) (by
              show u.grownBy w9 (Value.slice s1.A7 _ s1.c7).ownBlock
              rw [HG7.out]; exact HG9.out)
        · obtain rfl : k = n.l7.length := by omega
          have HNe : Aside0 (NC wr { n with l7 := valsX n.l7 } s1) := ⟨by have h := HNk.out; rw [List.take_length, List.drop_length, List.append_nil] at h; exact h.reads⟩
          have HB9 := Aside0.mk ((below_then HB8x.out HB8x.out.size HX3.out).trans (HBk.out.mono HB2.out.size))
          obtain ⟨hwr, kg, _, _⟩ := HSTEP.out wr HB9.out
          have HWR := Aside0.mk hwr
          obtain ⟨y0, y1, y2, y3, y4, y5, y6, y7, y8, y9, y10, y11, y12, y13, _⟩ := box14f HOk.out
          obtain ⟨u0, u1, u2, u3, u4, u5, u6, u7, u8, u9, u10, u11, u12, u13, _⟩ := box14f kg
          have kg' := kg
          clear kg hwr
          have hS0 : AskQ wr o g #[.int .u64 n.a0, .int .u16 n.a1, .int .i64 n.a2, .bool n.a3, .slice s1.A4 n.l4.length s1.c4, .slice s1.A5 n.l5.length s1.c5, .slice s1.A6 n.l6.length s1.c6, .slice s1.A7 n.l7.length s1.c7, .slice s1.A8 n.l8.length s1.c8, .slice s1.A9 n.l9.length s1.c9, .slice s1.A10 n.l10.length s1.c10, .int .u32 n.a11, .int .i64 n.a12, .int .i64 n.a13] #[.int .u64 n.a0, .int .u16 n.a1, .int .i64 n.a2, .bool n.a3, .slice s.A4 n.l4.length s.c4, .slice s.A5 n.l5.length s.c5, .slice s.A6 n.l6.length s.c6, .slice s.A7 n.l7.length s.c7, .slice s.A8 n.l8.length s.c8, .slice s.A9 n.l9.length s.c9, .slice s.A10 n.l10.length s.c10, .int .u32 n.a11, .int .i64 n.a12, .int .i64 n.a13] wr.drew := ⟨(Below.refl _ _).drew, HOk.out, kg'⟩
          have HS0 := Aside0.mk hS0
          obtain ⟨d, hd, e0⟩ : ∃ d : Bool, decide (n.l7.length = 0) = d ∧ ((n.l7.length : Int) == 0) = d := ⟨_, rfl, by
            by_cases h0 : n.l7.length = 0
            · rw [h0]; rfl
            · rw [decide_eq_false h0, beq_eq_false_iff_ne]; omega⟩
          have HSX : Aside0 (∀ V, AskQ wr o g #[.int .u64 n.a0, .int .u16 n.a1, .int .i64 n.a2, .bool n.a3, .slice s1.A4 n.l4.length s1.c4, .slice s1.A5 n.l5.length s1.c5, .slice s1.A6 n.l6.length s1.c6, .slice s1.A7 n.l7.length s1.c7, .slice s1.A8 n.l8.length s1.c8, .slice s1.A9 n.l9.length s1.c9, .slice s1.A10 n.l10.length s1.c10, .int .u32 n.a11, .int .i64 n.a12, .int .i64 n.a13] #[.int .u64 n.a0, .int .u16 n.a1, .int .i64 n.a2, .bool n.a3, .slice s.A4 n.l4.length s.c4, .slice s.A5 n.l5.length s.c5, .slice s.A6 n.l6.length s.c6, .slice s.A7 n.l7.length s.c7, .slice s.A8 n.l8.length s.c8, .slice s.A9 n.l9.length s.c9, .slice s.A10 n.l10.length s.c10, .int .u32 n.a11, .int .i64 n.a12, .int .i64 n.a13] V → Calls Try.prog 12 #[.agg #[.int .u64 n.a0, .int .u16 n.a1, .int .i64 n.a2, .bool n.a3, .slice s1.A4 n.l4.length s1.c4, .slice s1.A5 n.l5.length s1.c5, .slice s1.A6 n.l6.length s1.c6, .slice s1.A7 n.l7.length s1.c7, .slice s1.A8 n.l8.length s1.c8, .slice s1.A9 n.l9.length s1.c9, .slice s1.A10 n.l10.length s1.c10, .int .u32 n.a11, .int .i64 n.a12, .int .i64 n.a13], .agg #[.int .u64 n.a0, .int .u16 n.a1, .int .i64 n.a2, .bool n.a3, .slice s.A4 n.l4.length s.c4, .slice s.A5 n.l5.length s.c5, .slice s.A6 n.l6.length s.c6, .slice s.A7 n.l7.length s.c7, .slice s.A8 n.l8.length s.c8, .slice s.A9 n.l9.length s.c9, .slice s.A10 n.l10.length s.c10, .int .u32 n.a11, .int .i64 n.a12, .int .i64 n.a13]] V fun e w' => e = .returned (.bool d) ∧ Below V.heap.size V w') := ⟨fun V hV => by rw [← hd]; exact same_x n s1 s V (HNe.out.below hV.bel) (HN.out.below (below_then HWR.out HWR.out.size hV.bel)) HNL.out⟩
          have HSW : Aside0 (∀ V, AskQ wr o g #[.int .u64 n.a0, .int .u16 n.a1, .int .i64 n.a2, .bool n.a3, .slice s1.A4 n.l4.length s1.c4, .slice s1.A5 n.l5.length s1.c5, .slice s1.A6 n.l6.length s1.c6, .slice s1.A7 n.l7.length s1.c7, .slice s1.A8 n.l8.length s1.c8, .slice s1.A9 n.l9.length s1.c9, .slice s1.A10 n.l10.length s1.c10, .int .u32 n.a11, .int .i64 n.a12, .int .i64 n.a13] #[.int .u64 n.a0, .int .u16 n.a1, .int .i64 n.a2, .bool n.a3, .slice s.A4 n.l4.length s.c4, .slice s.A5 n.l5.length s.c5, .slice s.A6 n.l6.length s.c6, .slice s.A7 n.l7.length s.c7, .slice s.A8 n.l8.length s.c8, .slice s.A9 n.l9.length s.c9, .slice s.A10 n.l10.length s.c10, .int .u32 n.a11, .int .i64 n.a12, .int .i64 n.a13] V → Calls Try.prog 8 #[] V fun e w' => e = .returned (.bool true) ∧ Below V.heap.size V w') := ⟨fun V _ => HAW.out V⟩
          clear hS0 kg' hd
          go_wp2_with fail
          refine start_ (n := 15) (S := AskQ wr o g #[.int .u64 n.a0, .int .u16 n.a1, .int .i64 n.a2, .bool n.a3, .slice s1.A4 n.l4.length s1.c4, .slice s1.A5 n.l5.length s1.c5, .slice s1.A6 n.l6.length s1.c6, .slice s1.A7 n.l7.length s1.c7, .slice s1.A8 n.l8.length s1.c8, .slice s1.A9 n.l9.length s1.c9, .slice s1.A10 n.l10.length s1.c10, .int .u32 n.a11, .int .i64 n.a12, .int .i64 n.a13] #[.int .u64 n.a0, .int .u16 n.a1, .int .i64 n.a2, .bool n.a3, .slice s.A4 n.l4.length s.c4, .slice s.A5 n.l5.length s.c5, .slice s.A6 n.l6.length s.c6, .slice s.A7 n.l7.length s.c7, .slice s.A8 n.l8.length s.c8, .slice s.A9 n.l9.length s.c9, .slice s.A10 n.l10.length s.c10, .int .u32 n.a11, .int .i64 n.a12, .int .i64 n.a13]) (ds := []) #[false, false, false, false, false, false, false, false, false, false, false, false, false, false, false] (by kernel_rfl) rfl rfl HS0.out (fun hH => ?_)
          refine pure_ (i := 0) (N := some 77) (v := ?_) (a' := ?_) #[true, false, false, false, false, false, false, false, false, false, false, false, false, false, false] rfl rfl (by kernel_rfl) (fun _ _ _ h => h) (Or.inl ⟨by rfl, ?_⟩) ?_ ?_
          rotate_left
          · intro w'
            go_simp
            with_reducible rfl
          rotate_left
          · simp only [Act.put, List.setIfInBounds_toArray, List.set_cons_zero, List.set_cons_succ, i64_w, i32_w]
            rfl
          refine pure_ (i := 1) (N := some 78) (v := ?_) (a' := ?_) #[true, true, false, false, false, false, false, false, false, false, false, false, false, false, false] rfl rfl (by kernel_rfl) (fun _ _ _ h => h) (Or.inl ⟨by rfl, ?_⟩) ?_ ?_
          rotate_left
          · intro w'
            go_simp
            with_reducible rfl
          rotate_left
          · simp only [Act.put, List.setIfInBounds_toArray, List.set_cons_zero, List.set_cons_succ, i64_w, i32_w]
            rfl
          refine take_ (i := 2) (N := some 79) (v := ?_) (a' := ?_) #[true, true, true, false, false, false, false, false, false, false, false, false, false, false, false] rfl rfl (by kernel_rfl) (fun _ _ _ h => h) (Or.inl ⟨by rfl, ?_⟩) hH ?_ ?_
          rotate_left
          · rintro w' ⟨s0, s1_, s2⟩
            refine load_yields (x := .tmp 11) ?_ ?_ s1_ Try.underlying34 rfl (by kernel_rfl)
            · rfl
            · rfl
          rotate_left
          · simp only [Act.put, List.setIfInBounds_toArray, List.set_cons_zero, List.set_cons_succ, i64_w, i32_w]
            rfl
          refine take_ (i := 3) (N := some 80) (v := ?_) (a' := ?_) #[true, true, true, true, false, false, false, false, false, false, false, false, false, false, false] rfl rfl (by kernel_rfl) (fun _ _ _ h => h) (Or.inl ⟨by rfl, ?_⟩) hH ?_ ?_
          rotate_left
          · rintro w' ⟨s0, s1_, s2⟩
            refine load_yields (x := .tmp 5) ?_ ?_ s2 Try.underlying34 rfl (by kernel_rfl)
            · rfl
            · rfl
          rotate_left
          · simp only [Act.put, List.setIfInBounds_toArray, List.set_cons_zero, List.set_cons_succ, i64_w, i32_w]
            rfl
          refine pure_ (i := 5) (N := some 82) (v := ?_) (a' := ?_) #[true, true, true, true, false, true, false, false, false, false, false, false, false, false, false] rfl rfl (by kernel_rfl) (fun _ _ _ h => h) (Or.inl ⟨by rfl, ?_⟩) ?_ ?_
          rotate_left
          · intro w'
            go_simp
            with_reducible rfl
          rotate_left
          · simp only [Act.put, List.setIfInBounds_toArray, List.set_cons_zero, List.set_cons_succ, i64_w, i32_w]
            rfl
          refine take_ (i := 6) (N := some 83) (v := ?_) (a' := ?_) #[true, true, true, true, false, true, true, false, false, false, false, false, false, false, false] rfl rfl (by kernel_rfl) (fun _ _ _ h => h) (Or.inl ⟨by rfl, ?_⟩) hH ?_ ?_
          rotate_left
          · rintro w' ⟨s0, s1_, s2⟩
            have c_ : _ = some _ := (blk_cell s2 7).trans rfl
            go_simp
            with_reducible rfl
          rotate_left
          · simp only [Act.put, List.setIfInBounds_toArray, List.set_cons_zero, List.set_cons_succ, i64_w, i32_w]
            rfl
          refine pure_ (i := 7) (N := some 84) (v := ?_) (a' := ?_) #[true, true, true, true, false, true, true, true, false, false, false, false, false, false, false] rfl rfl (by kernel_rfl) (fun _ _ _ h => h) (Or.inl ⟨by rfl, ?_⟩) ?_ ?_
          rotate_left
          · intro w'
            go_simp
            with_reducible rfl
          rotate_left
          · simp only [Act.put, List.setIfInBounds_toArray, List.set_cons_zero, List.set_cons_succ, i64_w, i32_w]
            rfl
          refine pure_ (i := 8) (N := some 85) (v := ?_) (a' := ?_) #[true, true, true, true, false, true, true, true, true, false, false, false, false, false, false] rfl rfl (by kernel_rfl) (fun _ _ _ h => h) (Or.inl ⟨by rfl, ?_⟩) ?_ ?_
          rotate_left
          · intro w'
            go_simp
            with_reducible rfl
          rotate_left
          · simp only [Act.put, List.setIfInBounds_toArray, List.set_cons_zero, List.set_cons_succ, i64_w, i32_w]
            rfl
          refine one_ (i := 4) (N := some 81) #[true, true, true, true, true, true, true, true, true, false, false, false, false, false, false] rfl rfl (by kernel_rfl) (by decide) (fun K hK => ?_)
          refine goes_ Try.func12 (by kernel_rfl) rfl #[.agg #[.int .u64 n.a0, .int .u16 n.a1, .int .i64 n.a2, .bool n.a3, .slice s1.A4 n.l4.length s1.c4, .slice s1.A5 n.l5.length s1.c5, .slice s1.A6 n.l6.length s1.c6, .slice s1.A7 n.l7.length s1.c7, .slice s1.A8 n.l8.length s1.c8, .slice s1.A9 n.l9.length s1.c9, .slice s1.A10 n.l10.length s1.c10, .int .u32 n.a11, .int .i64 n.a12, .int .i64 n.a13], .agg #[.int .u64 n.a0, .int .u16 n.a1, .int .i64 n.a2, .bool n.a3, .slice s.A4 n.l4.length s.c4, .slice s.A5 n.l5.length s.c5, .slice s.A6 n.l6.length s.c6, .slice s.A7 n.l7.length s.c7, .slice s.A8 n.l8.length s.c8, .slice s.A9 n.l9.length s.c9, .slice s.A10 n.l10.length s.c10, .int .u32 n.a11, .int .i64 n.a12, .int .i64 n.a13]] (by rfl) rfl rfl (by (try simp only [List.map_toArray, List.map_cons, List.map_nil]); first | done | rfl) ?_
          refine (HSX.out _ hH).mono ?_
          rintro e q1 ⟨rfl, hu⟩
          refine ⟨_, rfl, ?_⟩
          refine hK.out _ _ (hH.go hu) (fun hH1 => ?_)
          clear hu
          clear hK K
          refine norm_ (a' := ?_) ?_ ?_
          rotate_left
          · show Act.put _ (some 81) _ = _
            simp only [Act.put, List.setIfInBounds_toArray, List.set_cons_zero, List.set_cons_succ, i64_w, i32_w]
            rfl
          refine pure_ (i := 9) (N := some 86) (v := ?_) (a' := ?_) #[true, true, true, true, true, true, true, true, true, true, false, false, false, false, false] rfl rfl (by kernel_rfl) (fun _ _ _ h => h) (Or.inl ⟨by rfl, ?_⟩) ?_ ?_
          rotate_left
          · intro w'
            go_simp
            with_reducible rfl
          rotate_left
          · simp only [Act.put, List.setIfInBounds_toArray, List.set_cons_zero, List.set_cons_succ, i64_w, i32_w]
            rfl
          refine pure_ (i := 10) (N := some 87) (v := ?_) (a' := ?_) #[true, true, true, true, true, true, true, true, true, true, true, false, false, false, false] rfl rfl (by kernel_rfl) (fun _ _ _ h => h) (Or.inl ⟨by rfl, ?_⟩) ?_ ?_
          rotate_left
          · intro w'
            go_simp
            with_reducible rfl
          rotate_left
          · simp only [Act.put, List.setIfInBounds_toArray, List.set_cons_zero, List.set_cons_succ, i64_w, i32_w]
            rfl
          refine pure_ (i := 11) (N := some 88) (v := ?_) (a' := ?_) #[true, true, true, true, true, true, true, true, true, true, true, true, false, false, false] rfl rfl (by kernel_rfl) (fun _ _ _ h => h) (Or.inl ⟨by rfl, ?_⟩) ?_ ?_
          rotate_left
          · intro w'
            go_simp
            with_reducible rfl
          rotate_left
          · simp only [Act.put, List.setIfInBounds_toArray, List.set_cons_zero, List.set_cons_succ, i64_w, i32_w]
            rfl
          refine one_ (i := 12) (N := some 89) #[true, true, true, true, true, true, true, true, true, true, true, true, true, false, false] rfl rfl (by kernel_rfl) (by decide) (fun K hK => ?_)
          refine goes_ Try.func8 (by kernel_rfl) rfl #[] (by rfl) rfl rfl (by (try simp only [List.map_toArray, List.map_cons, List.map_nil]); first | done | rfl) ?_
          refine (HSW.out _ hH1).mono ?_
          rintro e q2 ⟨rfl, hu⟩
          refine ⟨_, rfl, ?_⟩
          refine hK.out _ _ (hH1.go hu) (fun hH2 => ?_)
          clear hu
          clear hK K
          refine norm_ (a' := ?_) ?_ ?_
          rotate_left
          · show Act.put _ (some 89) _ = _
            simp only [Act.put, List.setIfInBounds_toArray, List.set_cons_zero, List.set_cons_succ, i64_w, i32_w]
            rfl
          refine pure_ (i := 13) (N := some 90) (v := ?_) (a' := ?_) #[true, true, true, true, true, true, true, true, true, true, true, true, true, true, false] rfl rfl (by kernel_rfl) (fun _ _ _ h => h) (Or.inl ⟨by rfl, ?_⟩) ?_ ?_
          rotate_left
          · intro w'
            go_simp
            with_reducible rfl
          rotate_left
          · simp only [Act.put, List.setIfInBounds_toArray, List.set_cons_zero, List.set_cons_succ, i64_w, i32_w]
            rfl
          refine pure_ (i := 14) (N := some 10) (v := ?_) (a' := ?_) #[true, true, true, true, true, true, true, true, true, true, true, true, true, true, true] rfl rfl (by kernel_rfl) (fun _ _ _ h => h) (Or.inl ⟨by rfl, ?_⟩) ?_ ?_
          rotate_left
          · intro w'
            go_simp
            with_reducible rfl
          rotate_left
          · simp only [Act.put, List.setIfInBounds_toArray, List.set_cons_zero, List.set_cons_succ, i64_w, i32_w]
            rfl
          refine done_ (by kernel_rfl) ?_
          go_wp2_with fail
          go_ret
          exact ⟨rfl, below_then HWR.out HWR.out.size hH2.bel⟩
-- axioms: asks_calls
end
end Go.Proofs.Ytfgalgeloflilaa.H
