/- Mine. Chapters 22 and 23, by hand (turned from chapter 21): Add and Whole of the reference's parts. -/
import Derived.Test.YtaeelmkpjgmdlaaHPD
namespace Go.Proofs.Ytaeelmkpjgmdlaa.H
open Go Go.Proofs Go.RowKit Go.Lib Go.Proofs.Ytaeelmkpjgmdlaa.P Go.Proofs.YtaeelmkpjgmdlaaW.PrintWords Go.Proofs.YtaeelmkpjgmdlaaW.PrintLast Go.Proofs.YtaeelmkpjgmdlaaW.PrintMore Go.Proofs.YtaeelmkpjgmdlaaW.PrintFlat
set_option linter.unusedVariables false
set_option linter.unusedSimpArgs false
def RAddP (own : Nat → Prop) (g : Nat) (c : Int) (ps : List Int) (ss : List ByteArray) (W : World) (i : Int) (s : ByteArray) (e : Ending) (w' : World) : Prop := Fr own W w' ∧
      (((i < 0 ∨ c ≤ i) ∧ e = .returned (.int .i64 1) ∧ RS own g c ps ss w') ∨
       ((0 ≤ i ∧ i < c) ∧ (ps.any fun x => x == i) = true ∧ e = .returned (.int .i64 12) ∧ RS own g c ps ss w') ∨
       ((0 ≤ i ∧ i < c) ∧ (ps.any fun x => x == i) = false ∧ e = .returned (.int .i64 0) ∧ RS (fun k => own k ∨ W.heap.size ≤ k ∧ k < w'.heap.size) g c (ps ++ [i]) (ss ++ [s]) w'))
theorem any_place {ps : List Int} {i r : Int} (h : PlaceP ps i r) : (0 ≤ r ∧ (ps.any fun x => x == i) = true) ∨ (r = -1 ∧ (ps.any fun x => x == i) = false) := by
  rcases h with ⟨rfl, hm⟩ | ⟨k, hk, rfl, hk2⟩
  · refine .inr ⟨rfl, ?_⟩
    rw [List.any_eq_false]
    intro x hx he
    exact hm (by have := beq_iff_eq.1 he; rw [← this]; exact hx)
  · refine .inl ⟨by omega, ?_⟩
    rw [List.any_eq_true]
    exact ⟨i, List.mem_of_getElem? hk2, by simp⟩
set_option maxRecDepth 100000 in
set_option maxHeartbeats 4000000 in
theorem radd_calls {own : Nat → Prop} {g : Nat} {c : Int} {ps : List Int} {ss : List ByteArray} {W : World} (h : RS own g c ps ss W) (i : Int) (s : ByteArray) (hl : ps.length ≤ 65535) (hl2 : ss.length ≤ 65535) :
    Calls Try.prog 40 #[.pointer (some ⟨g, 0, none⟩), .int .i64 i, .string s] W (RAddP own g c ps ss W i s) := by
  have HH := Aside0.mk h
  have HFR := Aside0.mk (Fr.refl own W)
  obtain ⟨A1, c1, A2, c2, q0, q1, q2, hC1, hC2⟩ := h.reads
  have HP := Aside0.mk (place_calls h i hl)
  clear h hC1 hC2
  by_cases hi0 : i < 0
  · go_enter Try.func40, Try.ntmps40
    go_wp2
    go_ret
    exact ⟨HFR.out, .inl ⟨.inl hi0, rfl, HH.out⟩⟩
  by_cases hi1 : c ≤ i
  · go_enter Try.func40, Try.ntmps40
    go_wp2
    go_ret
    exact ⟨HFR.out, .inl ⟨.inr hi1, rfl, HH.out⟩⟩
  have hi2 : ¬ (i ≥ c) := hi1
  have HL := Aside0.mk (And.intro hl hl2)
  have HIC := Aside0.mk (And.intro (Int.not_lt.1 hi0) (Int.not_le.1 hi1))
  clear hl hl2
  cases hany : (ps.any fun x => x == i) with
  | true =>
    have HA := Aside0.mk hany
    clear hany
    go_enter Try.func40, Try.ntmps40
    go_wp2_with (first | (go_at_call 65; refine HP.out.mono ?_; rintro e w1 ⟨hb1, r, rfl, hr⟩; have HB1 := Aside0.mk hb1; obtain ⟨hr0, _⟩ : 0 ≤ r ∧ True := (by rcases any_place hr with ⟨h1, _⟩ | ⟨_, h2⟩; exact ⟨h1, trivial⟩; exact absurd (HA.out.symm.trans h2) (by simp)); clear hb1 hr) | go_in)
    go_ret
    exact ⟨Fr.of_below HB1.out, .inr (.inl ⟨HIC.out, HA.out, rfl, HH.out.frame (S := fun _ => False) (Fr.of_below HB1.out) (fun _ _ h => h)⟩)⟩
  | false =>
    have HA := Aside0.mk hany
    clear hany
    have HP2 : Aside0 (Calls Try.prog 65 #[.pointer (some ⟨g, 0, none⟩), .int .i64 i] W fun e w1 => e = .returned (.int .i64 (-1)) ∧ Below W.heap.size W w1 ∧ ∃ (oP oB : Nat → Prop) (B1 : Option Addr) (d1 : Nat) (B2 : Option Addr) (d2 : Nat), w1.cell? ⟨g, 1, none⟩ = some (.slice B1 ps.length d1) ∧ (∀ k, oP k → own k ∧ k ≠ g ∧ ¬ oB k) ∧ (∀ k, oB k → own k ∧ k ≠ g) ∧ own g ∧
        w1.heap[g]? = some (.cells #[.int .i64 c, .slice B1 ps.length d1, .slice B2 ss.length d2] 87 (0, 0)) ∧ Kd.R (Kd.int .i64) 3 w1 0 oP (.slice B1 ps.length d1) ps ∧ Kd.R Kd.string 9 w1 0 oB (.slice B2 ss.length d2) ss ∧ (∀ k, own k → k < w1.heap.size)) := by
      refine ⟨HP.out.mono ?_⟩
      rintro e w1 ⟨hb1, r, rfl, hr⟩
      rcases any_place hr with ⟨_, h2⟩ | ⟨rfl, _⟩
      · exact absurd (HA.out.symm.trans h2) (by simp)
      obtain ⟨oP, oB, vp, vb, h1, h2, h3, h4, h5, h6, h7⟩ := HH.out.frame (S := fun _ => False) (Fr.of_below hb1) (fun _ _ h => h)
      obtain ⟨B1, d1, rfl, hd1, _⟩ := Kd.R_reads h5
      obtain ⟨B2, d2, rfl, hd2, _⟩ := Kd.R_reads h6
      exact ⟨rfl, hb1, oP, oB, B1, d1, B2, d2, by unfold World.cell?; rw [h4]; rfl, h1, h2, h3, h4, h5, h6, h7⟩
    clear HP
    go_enter Try.func40, Try.ntmps40
    go_wp2_with (first
      | (go_at_call 65; refine HP2.out.mono ?_; rintro e w1 ⟨rfl, hb1, oP, oB, B1, d1, B2, d2, hp1, hrest⟩; have HB1 := Aside0.mk hb1; have HR := Aside0.mk hrest; clear hb1 hrest)
      | (at_builtin; with_reducible refine Kd.R_append (Kd.int .i64) (w0 := w1) 0 rfl _ _ 50 3 _ 8 rfl Try.underlying50 i3 rfl (by decide) (by decide) (.slice B1 ps.length d1) ps i [.int .i64 i] (fun k => oP k ∨ w1.heap.size ≤ k) (fun _ => False) rfl rfl ?hp ?hokp ?hfresh ?hO ?hB (Nat.zero_le _) ?hl ?_
         (case hp => rfl)
         (case hokp => exact fun _ h => h.elim)
         (case hfresh => exact fun _ h => .inr h)
         (case hO => exact Kd.R_mono HR.out.2.2.2.2.1 (fun k hk => .inl hk))
         (case hB => exact Below.refl _ _)
         (case hl => have := HL.out; omega)
         intro v1 w2 hO1 hb2 hg2 hat2
         obtain ⟨C1, e1, hv1, hle1, _⟩ := Kd.R_reads hO1
         rw [show (ps ++ [i]).length = ps.length + 1 from by simp] at hv1
         subst hv1
         have hne : some g ≠ (Value.slice B1 ps.length d1).ownBlock := fun e => (HR.out.1 g (HR.out.2.2.2.2.1.1 g e.symm)).2.1 rfl
         have hgb : w2.heap[g]? = some (.cells #[.int .i64 c, .slice B1 ps.length d1, .slice B2 ss.length d2] 87 (0, 0)) := (hg2.block g (HR.out.2.2.2.2.2.2 g HR.out.2.2.1) hne).trans HR.out.2.2.2.1
         have hV2 : Kd.R Kd.string 9 (w2.setCell ⟨g, 1, none⟩ (.slice C1 (ps.length + 1) e1)) 0 (fun k => oB k ∨ w2.heap.size ≤ k) (.slice B2 ss.length d2) ss := Kd.R_mono (Kd.R_step HR.out.2.2.2.2.2.1 (fun k hk hlt => by
           rw [Below.heap_setCell _ _ _ _ (HR.out.2.1 k hk).2]
           exact hg2.block k hlt (fun e => (HR.out.1 k (HR.out.2.2.2.2.1.1 k e.symm)).2.2 hk))) (fun k hk => .inl hk)
         have hf1 : w2.frozen? ⟨g, 1, none⟩ = false := by (unfold World.frozen?; rw [hgb]; simp)
         have hc1 : w2.cell? ⟨g, 1, none⟩ = some (.slice B1 ps.length d1) := by (unfold World.cell?; rw [hgb]; rfl)
         have hblk := blk_set hgb 1 (.slice C1 (ps.length + 1) e1)
         have hc2 : (w2.setCell ⟨g, 1, none⟩ (.slice C1 (ps.length + 1) e1)).cell? ⟨g, 2, none⟩ = some (.slice B2 ss.length d2) := by (unfold World.cell?; rw [hblk]; rfl)
         have hf2 : (w2.setCell ⟨g, 1, none⟩ (.slice C1 (ps.length + 1) e1)).frozen? ⟨g, 2, none⟩ = false := by (unfold World.frozen?; rw [hblk]; simp)
         have HO1 := Aside0.mk hO1; have HB2 := Aside0.mk hb2; have HG2 := Aside0.mk hg2; have HAT2 := Aside0.mk hat2; have HBLK := Aside0.mk hblk; have HV2 := Aside0.mk hV2; have HGB := Aside0.mk hgb
         clear hO1 hb2 hg2 hat2 hblk hV2 hne hgb)
      | (at_builtin; with_reducible refine Kd.R_append Kd.string (w0 := w2.setCell ⟨g, 1, none⟩ (.slice C1 (ps.length + 1) e1)) 0 rfl _ _ 85 9 _ 16 rfl Try.underlying85 i9 rfl (by decide) (by decide) (.slice B2 ss.length d2) ss s [.string s] (fun k => oB k ∨ w2.heap.size ≤ k) (fun _ => False) rfl ?hx ?hp ?hokp ?hfresh ?hO ?hB (Nat.zero_le _) ?hl ?_
         (case hx => exact congrArg (fun n => Value.slice (some ⟨n, 0, none⟩) 1 1) (show w2.heap.size = (w2.setCell ⟨g, 1, none⟩ (.slice C1 (ps.length + 1) e1)).heap.size by simp [World.setCell]))
         (case hp => rfl)
         (case hokp => exact fun _ h => h.elim)
         (case hfresh => exact fun k h => .inr (by simpa [World.setCell] using h))
         (case hO => exact HV2.out)
         (case hB => exact Below.refl _ _)
         (case hl => have := HL.out; omega)
         intro v3 w3 hO3 hb3 hg3 hat3
         obtain ⟨C2, e2, hv3, hle2, _⟩ := Kd.R_reads hO3
         rw [show (ss ++ [s]).length = ss.length + 1 from by simp] at hv3
         subst hv3
         have hne : some g ≠ (Value.slice B2 ss.length d2).ownBlock := fun e => (HR.out.2.1 g (HR.out.2.2.2.2.2.1.1 g e.symm)).2 rfl
         have hgb : w3.heap[g]? = some (.cells #[.int .i64 c, .slice C1 (ps.length + 1) e1, .slice B2 ss.length d2] 87 (0, 0)) := (hg3.block g (by have h1 := HR.out.2.2.2.2.2.2 g HR.out.2.2.1; have h2 := HG2.out.size; simp [World.setCell]; omega) hne).trans HBLK.out
         have hf3 : w3.frozen? ⟨g, 2, none⟩ = false := by (unfold World.frozen?; rw [hgb]; simp)
         have hc3 : w3.cell? ⟨g, 2, none⟩ = some (.slice B2 ss.length d2) := by (unfold World.cell?; rw [hgb]; rfl)
         have HO3 := Aside0.mk hO3; have HB3 := Aside0.mk hb3; have HG3 := Aside0.mk hg3; have HAT3 := Aside0.mk hat3; have HGB3 := Aside0.mk hgb
         clear hO3 hb3 hg3 hat3 hne hgb)
      | fail)
    go_ret
    obtain ⟨r1, r2, r3, r4, r5, r6, r7⟩ := HR.out
    have hb1 := HB1.out
    have hg2 := HG2.out
    have hg3 := HG3.out
    have hz2 : (w2.setCell ⟨g, 1, none⟩ (.slice C1 (ps.length + 1) e1)).heap.size = w2.heap.size := by simp [World.setCell]
    have hz3 : (w3.setCell ⟨g, 2, none⟩ (.slice C2 (ss.length + 1) e2)).heap.size = w3.heap.size := by simp [World.setCell]
    have s12 := hg2.size
    have s23 : w2.heap.size ≤ w3.heap.size := by have := hg3.size; rw [hz2] at this; exact this
    have s01 := hb1.size
    have hgl := r7 g r3
    have far : ∀ k, k < w2.heap.size → k ≠ g → ¬ oB k → (w3.setCell ⟨g, 2, none⟩ (.slice C2 (ss.length + 1) e2)).heap[k]? = w2.heap[k]? := fun k hk h1 h2 => by
      rw [Below.heap_setCell _ _ _ _ h1, hg3.block k (by rw [hz2]; exact hk) (fun e => h2 (r6.1 k e.symm)), Below.heap_setCell _ _ _ _ h1]
    refine ⟨⟨?_, ?_, ?_, ?_, fun k hk ho => ?_⟩, .inr (.inr ⟨HIC.out, HA.out, rfl, (fun k => (oP k ∨ w1.heap.size ≤ k) ∧ k < w2.heap.size), (fun k => (oB k ∨ w2.heap.size ≤ k) ∧ k < w3.heap.size), .slice C1 (ps.length + 1) e1, .slice C2 (ss.length + 1) e2, ?_, ?_, .inl r3, ?_, ?_, ?_, ?_⟩)⟩
    · exact hg3.os.trans (hg2.os.trans hb1.os)
    · exact hg3.tape.trans (hg2.tape.trans hb1.tape)
    · exact hg3.output.trans (hg2.output.trans hb1.output)
    · rw [hz3]; omega
    · rw [far k (by omega) (fun e => ho (by rw [e]; exact r3)) (fun h => ho (r2 k h).1), hg2.block k (by omega) (fun e => ho (r1 k (r5.1 k e.symm)).1), hb1.block k hk]
    · intro k ⟨h1, h2⟩
      rw [hz3]
      rcases h1 with h1 | h1
      · refine ⟨.inl (r1 k h1).1, (r1 k h1).2.1, fun h3 => ?_⟩
        rcases h3.1 with h3 | h3
        · exact (r1 k h1).2.2 h3
        · omega
      · refine ⟨.inr ⟨by omega, by omega⟩, by omega, fun h3 => ?_⟩
        rcases h3.1 with h3 | h3
        · have := r7 k (r2 k h3).1
          omega
        · omega
    · intro k ⟨h1, h2⟩
      rw [hz3]
      rcases h1 with h1 | h1
      · exact ⟨.inl (r2 k h1).1, (r2 k h1).2⟩
      · exact ⟨.inr ⟨by omega, by omega⟩, by omega⟩
    · have h1 := blk_set HGB3.out 2 (.slice C2 (ss.length + 1) e2)
      rw [h1]
      simp
    · have h1 := Kd.R_bound HO1.out
      exact Kd.R_step (Kd.R_mono h1 (fun k hk => (⟨hk.1, hk.2.2.1⟩ : (oP k ∨ w1.heap.size ≤ k) ∧ k < w2.heap.size))) (fun k hk hlt => far k hlt (fun e => by
        rcases hk.1 with h | h
        · exact (r1 k h).2.1 e
        · omega) (fun h3 => by
        rcases hk.1 with h | h
        · exact (r1 k h).2.2 h3
        · have := r7 k (r2 k h3).1
          omega))
    · have h1 := Kd.R_bound HO3.out
      exact Kd.R_step (Kd.R_mono h1 (fun k hk => (⟨hk.1, hk.2.2.1⟩ : (oB k ∨ w2.heap.size ≤ k) ∧ k < w3.heap.size))) (fun k hk hlt => by
        refine Below.heap_setCell _ _ _ _ (fun e => ?_)
        have e' : k = g := e
        rcases hk.1 with h | h
        · exact (r2 k h).2 e'
        · omega)
    · intro k hk
      rw [hz3] at hk ⊢
      rcases hk with hk | hk
      · have := r7 k hk
        omega
      · exact hk.2
#print axioms radd_calls
end Go.Proofs.Ytaeelmkpjgmdlaa.H
