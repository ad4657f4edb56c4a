/- It is proved that, for every node whose list is right, and firm, and which has the last one of it behind it, a step tells who owns a key as all of them together do, or tells who lies nearer. No condition. -/
import Derived.Test.YtimihoepnkeioaaPSayRouteTrue
import Derived.Test.YtimihoepnkeioaaRouteLawA
namespace Go.Proofs.Ytimihoepnkeioaa.Pure
open Go.RowKit Go.Proofs.Ytimihoepnkeioaa.P Go.Proofs.YtimihoepnkeioaaW.PrintWords Go.Proofs.YtimihoepnkeioaaW.PrintLast Go.Proofs.Ytimihoepnkeioaa.HopsLaw Go.Proofs.Ytimihoepnkeioaa.RouteLaw Go.Proofs.YtimihoepnkeioaaW.PrintSort
set_option linter.unusedVariables false
set_option linter.unusedSimpArgs false

/-! Who owns a key, of all -/
def ownerV (key : Int) (best : S25) (l : List S25) : S25 := l.foldl (fun b p => if dist key p.f0 < dist key b.f0 then p else b) best
theorem owner_loop (key : Int) (l : List S25) (hl : l.length < 4398046511104) : ∀ n i (b : S25), i + n = l.length → peers_Owner.l0 (n + 1) key l (l.length : Int) (i : Int) b.f0 b.f1 = some ((ownerV key b (l.drop i)).f0, (ownerV key b (l.drop i)).f1) := by
  intro n
  induction n with
  | zero =>
    intro i b hi
    have hi' : i = l.length := by omega
    subst hi'
    rw [peers_Owner.l0, if_neg (by omega), List.drop_length]
    rfl
  | succ n ih =>
    intro i b hi
    have hlt : i < l.length := by omega
    rw [peers_Owner.l0, if_pos (by omega), if_pos (by omega), if_pos (by omega), rdP hlt, ring_dist, Option.bind_some, ring_dist, Option.bind_some, step64 hlt (by omega), List.drop_eq_getElem_cons hlt]
    unfold ownerV
    rw [List.foldl_cons]
    by_cases c : dist key l[i].f0 < dist key b.f0
    · rw [if_pos c, if_pos c]
      exact ih (i + 1) l[i] (by omega)
    · rw [if_neg c, if_neg c]
      exact ih (i + 1) b (by omega)
theorem owner_is (x : S34) (key : Int) (h4 : x.f4.length < 1099511627776) (k : Nat) (hk : x.f4.length + 1 ≤ k) : peers_Owner.f k x.f0.f0 x.f0.f1 x.f4 key = some ((ownerV key x.f0 (firm x.f4)).f0, (ownerV key x.f0 (firm x.f4)).f1) := by
  have hfl := firm_len x.f4
  unfold peers_Owner.f
  rw [peers_firm _ h4, Option.bind_some]
  have h := owner_loop key (firm x.f4) (by omega) (firm x.f4).length 0 x.f0 (by omega)
  rw [List.drop_zero] at h
  exact up (g := fun k => peers_Owner.l0 k key (firm x.f4) ((firm x.f4).length : Int) 0 x.f0.f0 x.f0.f1) (fun k => peers_Owner.mono_l k _ _ _ _ _ _) h k (by omega)
theorem owner_stays (key : Int) (l : List S25) : ∀ b : S25, (∀ p ∈ l, dist key b.f0 ≤ dist key p.f0) → ownerV key b l = b := by
  induction l with
  | nil => intro b _; rfl
  | cons p t ih =>
    intro b h
    unfold ownerV
    rw [List.foldl_cons, if_neg (by have := h p List.mem_cons_self; omega)]
    exact ih b (fun q hq => h q (List.mem_cons_of_mem _ hq))
theorem owner_head (key : Int) (b p : S25) (t : List S25) (h1 : dist key p.f0 < dist key b.f0) (h2 : ∀ q ∈ t, dist key p.f0 ≤ dist key q.f0) : ownerV key b (p :: t) = p := by
  unfold ownerV
  rw [List.foldl_cons, if_pos h1]
  exact owner_stays key t p h2
theorem owner_mem (key : Int) (l : List S25) : ∀ b : S25, ownerV key b l = b ∨ ownerV key b l ∈ l := by
  induction l with
  | nil => intro b; exact .inl rfl
  | cons p t ih =>
    intro b
    unfold ownerV
    rw [List.foldl_cons]
    split
    · rcases ih p with h | h
      · exact .inr (by unfold ownerV at h; rw [h]; exact List.mem_cons_self)
      · exact .inr (List.mem_cons_of_mem _ h)
    · rcases ih b with h | h
      · exact .inl h
      · exact .inr (List.mem_cons_of_mem _ h)
theorem owner_le (key : Int) (l : List S25) : ∀ b : S25, dist key (ownerV key b l).f0 ≤ dist key b.f0 ∧ ∀ p ∈ l, dist key (ownerV key b l).f0 ≤ dist key p.f0 := by
  induction l with
  | nil => intro b; exact ⟨Int.le_refl _, fun p hp => by simp at hp⟩
  | cons p t ih =>
    intro b
    unfold ownerV
    rw [List.foldl_cons]
    split
    · rename_i h
      obtain ⟨h1, h2⟩ := ih p
      unfold ownerV at h1 h2
      refine ⟨by omega, fun q hq => ?_⟩
      rcases List.mem_cons.1 hq with rfl | hq
      · exact h1
      · exact h2 q hq
    · rename_i h
      obtain ⟨h1, h2⟩ := ih b
      unfold ownerV at h1 h2
      refine ⟨h1, fun q hq => ?_⟩
      rcases List.mem_cons.1 hq with rfl | hq
      · omega
      · exact h2 q hq

/-! A list that is right -/
def Good (me : S25) (l : List S46) (n : Nat) : Prop := ∀ j (hj : j < l.length), j < n → l[j].f0.f1 ≠ me.f1 ∧ ∀ (h0 : 0 < j), dist me.f0 (l[j - 1]'(by omega)).f0.f0 ≤ dist me.f0 l[j].f0.f0
theorem right_l0_up {k : Nat} {l m : List S46} {n i a b : Int} {r : Bool} (h : peers_Right.l0 k l m n i a b = some r) (k' : Nat) (hk : k ≤ k') : peers_Right.l0 k' l m n i a b = some r :=
  up (g := fun k => peers_Right.l0 k l m n i a b) (fun k => (peers_Right.mono_l k).1 _ _ _ _ _ _) h k' hk
theorem ahead_is (me p q : S25) : peers_Ahead.f me.f0 me.f1 p.f0 p.f1 q.f0 q.f1 = some (decide (dist me.f0 p.f0 < dist me.f0 q.f0 ∨ dist me.f0 p.f0 = dist me.f0 q.f0 ∧ p.f1 < q.f1)) := by
  unfold peers_Ahead.f
  rw [ring_dist, Option.bind_some, ring_dist, Option.bind_some]
  by_cases c1 : dist me.f0 p.f0 < dist me.f0 q.f0
  · rw [if_pos c1, decide_eq_true (.inl c1)]
  · rw [if_neg c1]
    by_cases c2 : dist me.f0 p.f0 = dist me.f0 q.f0
    · rw [if_pos c2]
      congr 1
      rw [decide_eq_decide]
      constructor
      · exact fun h => .inr ⟨c2, h⟩
      · exact fun h => by rcases h with h | h; exact absurd h c1; exact h.2
    · rw [if_neg c2, decide_eq_false (fun h => by rcases h with h | h; exact c1 h; exact c2 h.1)]
theorem right_loop (me : S25) (l : List S46) (hl : l.length < 1099511627776) : ∀ n i, i + n = l.length → Good me l i → ∃ k b, peers_Right.l0 k l l (l.length : Int) (i : Int) me.f0 me.f1 = some b ∧ (b = true → Good me l l.length) := by
  intro n
  induction n with
  | zero =>
    intro i hi hg
    have hi' : i = l.length := by omega
    subst hi'
    refine ⟨1, _, by rw [peers_Right.l0, if_neg (by omega)], fun _ => hg⟩
  | succ n ih =>
    intro i hi hg
    have hlt : i < l.length := by omega
    have hno : ∀ k, peers_Right.j1 (k + 1) l (i : Int) l (l.length : Int) (i : Int) true me.f0 me.f1 l[i].f0.f0 l[i].f0.f1 l[i].f1 = some false := fun k => by rw [peers_Right.j1, if_pos rfl]
    by_cases c1 : l[i].f1 < 0
    · exact ⟨2, false, by rw [peers_Right.l0, if_pos (by omega), if_pos (by omega), if_pos (by omega), rdE hlt, if_pos c1, hno], fun h => by cases h⟩
    · by_cases c2 : l[i].f1 ≥ 3
      · exact ⟨2, false, by rw [peers_Right.l0, if_pos (by omega), if_pos (by omega), if_pos (by omega), rdE hlt, if_neg c1, if_pos c2, hno], fun h => by cases h⟩
      · by_cases c3 : l[i].f0.f1 = me.f1
        · exact ⟨2, false, by rw [peers_Right.l0, if_pos (by omega), if_pos (by omega), if_pos (by omega), rdE hlt, if_neg c1, if_neg c2, if_pos c3, hno], fun h => by cases h⟩
        · obtain ⟨pl, hpl⟩ : ∃ pl, peers_Place.f l l[i].f0.f1 = some pl := ⟨_, rfl⟩
          cases c4 : (pl != (i : Int)) with
          | true => exact ⟨2, false, by rw [peers_Right.l0, if_pos (by omega), if_pos (by omega), if_pos (by omega), rdE hlt, if_neg c1, if_neg c2, if_neg c3, hpl, Option.bind_some, c4, hno], fun h => by cases h⟩
          | false =>
            have hst : ∀ k, peers_Right.l0 (k + 1) l l (l.length : Int) (i : Int) me.f0 me.f1 = peers_Right.j1 k l (i : Int) l (l.length : Int) (i : Int) false me.f0 me.f1 l[i].f0.f0 l[i].f0.f1 l[i].f1 := fun k => by
              rw [peers_Right.l0, if_pos (by omega), if_pos (by omega), if_pos (by omega), rdE hlt, if_neg c1, if_neg c2, if_neg c3, hpl, Option.bind_some, c4]
            have hgo : Good me l (i + 1) → ∃ k b, peers_Right.l0 k l l (l.length : Int) (wrap64 ((i : Int) + 1)) me.f0 me.f1 = some b ∧ (b = true → Good me l l.length) := fun hg2 => by
              rw [step64 hlt (by omega)]
              exact ih (i + 1) (by omega) hg2
            by_cases c5 : (i : Int) > 0
            · obtain ⟨p, rfl⟩ : ∃ p, i = p + 1 := ⟨i - 1, by omega⟩
              have hpl2 : p < l.length := by omega
              have hw : wrap64 (((p + 1 : Nat) : Int) - 1) = (p : Int) := by unfold wrap64; omega
              have hah := ahead_is me l[p].f0 l[p + 1].f0
              by_cases c6 : dist me.f0 l[p].f0.f0 < dist me.f0 l[p + 1].f0.f0 ∨ dist me.f0 l[p].f0.f0 = dist me.f0 l[p + 1].f0.f0 ∧ l[p].f0.f1 < l[p + 1].f0.f1
              · rw [decide_eq_true c6] at hah
                obtain ⟨k, b, hk, hb⟩ := hgo (fun j hj hji => by
                  by_cases hj2 : j < p + 1
                  · exact hg j hj hj2
                  · have : j = p + 1 := by omega
                    subst this
                    refine ⟨c3, fun _ => ?_⟩
                    show dist me.f0 l[p].f0.f0 ≤ _
                    omega)
                refine ⟨k + 2, b, ?_, hb⟩
                rw [hst, peers_Right.j1, if_neg (by decide), if_pos c5, hw, if_pos (by omega), if_pos (by omega), rdE hpl2, hah, Option.bind_some, if_pos rfl]
                exact hk
              · rw [decide_eq_false c6] at hah
                refine ⟨2, false, ?_, fun h => by cases h⟩
                rw [hst, peers_Right.j1, if_neg (by decide), if_pos c5, hw, if_pos (by omega), if_pos (by omega), rdE hpl2, hah, Option.bind_some, if_neg (by decide)]
            · have hi0 : i = 0 := by omega
              subst hi0
              obtain ⟨k, b, hk, hb⟩ := hgo (fun j hj hji => by
                have : j = 0 := by omega
                subst this
                exact ⟨c3, fun h => by omega⟩)
              refine ⟨k + 2, b, ?_, hb⟩
              rw [hst, peers_Right.j1, if_neg (by decide), if_neg c5]
              exact hk

theorem shift (m key p : Int) : dist key p = (dist m p - dist m key) % 18446744073709551616 := by
  unfold dist
  omega
theorem dist_range (m p : Int) : 0 ≤ dist m p ∧ dist m p < 18446744073709551616 := by
  unfold dist
  omega
theorem dist_self (m : Int) : dist m m = 0 := by
  unfold dist
  omega
theorem dist_pos {m p : Int} (hm : U m) (hp : U p) (h : p ≠ m) : 0 < dist m p := by
  unfold U at hm hp
  unfold dist
  omega
theorem dist_inj {m p q : Int} (hp : U p) (hq : U q) (h : dist m p = dist m q) : p = q := by
  unfold U at hp hq
  unfold dist at h
  omega
theorem core (x : S34) (key : Int) (hkey : U key) (hm : U x.f0.f0) (p : S25) (t : List S25) (hP : firm x.f4 = p :: t) (hpw : (p :: t).Pairwise fun a b => dist x.f0.f0 a.f0 < dist x.f0.f0 b.f0)
    (hu : ∀ r ∈ p :: t, U r.f0) (hid : ∀ r ∈ p :: t, r.f0 ≠ x.f0.f0) (had : ∀ r ∈ p :: t, r.f1 ≠ x.f0.f1) (q : S46) (h3 : x.f3 = [q]) (hq1 : q.f1 ≤ 0) (ini : List S25) (hq : p :: t = ini ++ [q.f0]) :
    ((stepV x key).2.2.2 = true → (stepV x key).1 = (ownerV key x.f0 (p :: t)).f0 ∧ (stepV x key).2.1 = (ownerV key x.f0 (p :: t)).f1) ∧
    mineV x key = ((ownerV key x.f0 (p :: t)).f0 == x.f0.f0 && (ownerV key x.f0 (p :: t)).f1 == x.f0.f1) := by
  have hqm : q.f0 ∈ p :: t := by rw [hq]; simp
  have hlast : ∀ r ∈ p :: t, dist x.f0.f0 r.f0 ≤ dist x.f0.f0 q.f0.f0 := by
    intro r hr
    rw [hq] at hr hpw
    rw [List.mem_append] at hr
    rcases hr with hr | hr
    · have := (List.pairwise_append.1 hpw).2.2 r hr q.f0 (by simp)
      omega
    · have : r = q.f0 := by simpa using hr
      rw [this]
      exact Int.le_refl _
  have hhead : ∀ r ∈ t, dist x.f0.f0 p.f0 < dist x.f0.f0 r.f0 := (List.pairwise_cons.1 hpw).1
  have hpos : ∀ r ∈ p :: t, 0 < dist x.f0.f0 r.f0 := fun r hr => dist_pos hm (hu r hr) (hid r hr)
  have hk := dist_range x.f0.f0 key
  have hself := dist_self x.f0.f0
  have hme : (x.f0.f0 == x.f0.f0 && x.f0.f1 == x.f0.f1) = true := by simp
  have hp1 : ∀ r ∈ p :: t, (r.f0 == x.f0.f0 && r.f1 == x.f0.f1) = false := fun r hr => by
    rw [beq_eq_false_iff_ne.2 (had r hr), Bool.and_false]
  have dme : dist key x.f0.f0 = (0 - dist x.f0.f0 key) % 18446744073709551616 := by rw [shift x.f0.f0 key x.f0.f0, hself]
  have dr : ∀ r : S25, dist key r.f0 = (dist x.f0.f0 r.f0 - dist x.f0.f0 key) % 18446744073709551616 := fun r => shift x.f0.f0 key r.f0
  by_cases c1 : key = x.f0.f0
  · have ho : ownerV key x.f0 (p :: t) = x.f0 := owner_stays key _ _ (fun r hr => by
      have := hpos r hr
      rw [c1, hself]
      omega)
    have hst : stepV x key = (x.f0.f0, x.f0.f1, [], true) := by
      unfold stepV
      rw [hP]
      simp only [if_pos c1]
    unfold mineV
    rw [hst, ho]
    exact ⟨fun _ => ⟨rfl, rfl⟩, by rw [if_pos rfl]⟩
  · have hk0 : 0 < dist x.f0.f0 key := dist_pos hm hkey c1
    by_cases c2 : uptoV x.f0.f0 key p.f0 = true
    · have hst : stepV x key = (p.f0, p.f1, [], true) := by
        unfold stepV
        rw [hP]
        simp only [if_neg c1, if_pos c2]
      have hle : dist x.f0.f0 key ≤ dist x.f0.f0 p.f0 := by
        unfold uptoV at c2
        rw [decide_eq_true_eq] at c2
        rcases c2 with h | h | h
        · exact absurd h.symm (hid p List.mem_cons_self)
        · rw [h]; exact Int.le_refl _
        · omega
      have hpr := dist_range x.f0.f0 p.f0
      have ho : ownerV key x.f0 (p :: t) = p := owner_head key x.f0 p t (by rw [dme, dr p]; omega) (fun r hr => by
        have h1 := hhead r hr
        have h2 := dist_range x.f0.f0 r.f0
        rw [dr p, dr r]
        omega)
      unfold mineV
      rw [hst, ho]
      exact ⟨fun _ => ⟨rfl, rfl⟩, by rw [if_pos rfl]⟩
    · have hgt : dist x.f0.f0 p.f0 < dist x.f0.f0 key := by
        unfold uptoV at c2
        rw [decide_eq_true_eq] at c2
        by_cases h : dist x.f0.f0 key < dist x.f0.f0 p.f0
        · exact absurd (.inr (.inr ⟨c1, h⟩)) c2
        · by_cases h2 : dist x.f0.f0 p.f0 = dist x.f0.f0 key
          · exact absurd (.inr (.inl (dist_inj hkey (hu p List.mem_cons_self) h2.symm))) c2
          · omega
      have hbe : behindV x key = uptoV q.f0.f0 key x.f0.f0 := by
        unfold behindV
        rw [h3]
        simp only
        rw [if_pos hq1]
      have hql := dist_range x.f0.f0 q.f0.f0
      have hqp := hpos _ hqm
      by_cases c3 : behindV x key = true
      · have hst : stepV x key = (x.f0.f0, x.f0.f1, [], true) := by
          unfold stepV
          rw [hP]
          simp only [if_neg c1, if_neg c2, if_pos c3]
        have hlk : dist x.f0.f0 q.f0.f0 < dist x.f0.f0 key := by
          rw [hbe] at c3
          unfold uptoV at c3
          rw [decide_eq_true_eq] at c3
          rcases c3 with h | h | h
          · exact absurd h (hid _ hqm)
          · exact absurd h c1
          · have e1 := shift x.f0.f0 q.f0.f0 key
            have e2 := shift x.f0.f0 q.f0.f0 x.f0.f0
            rw [hself] at e2
            rw [e1, e2] at h
            by_cases h5 : dist x.f0.f0 q.f0.f0 = dist x.f0.f0 key
            · exact absurd (dist_inj hkey (hu _ hqm) h5.symm) h.1
            · omega
        have ho : ownerV key x.f0 (p :: t) = x.f0 := owner_stays key _ _ (fun r hr => by
          have h1 := hlast r hr
          have h2 := hpos r hr
          rw [dme, dr r]
          omega)
        unfold mineV
        rw [hst, ho]
        exact ⟨fun _ => ⟨rfl, rfl⟩, by rw [if_pos rfl]⟩
      · have hlk : dist x.f0.f0 key ≤ dist x.f0.f0 q.f0.f0 := by
          rw [hbe] at c3
          unfold uptoV at c3
          rw [decide_eq_true_eq] at c3
          by_cases h5 : dist x.f0.f0 key ≤ dist x.f0.f0 q.f0.f0
          · exact h5
          · refine absurd (.inr (.inr ⟨fun h => ?_, ?_⟩)) c3
            · rw [h] at h5; omega
            · have e1 := shift x.f0.f0 q.f0.f0 key
              have e2 := shift x.f0.f0 q.f0.f0 x.f0.f0
              rw [hself] at e2
              rw [e1, e2]
              omega
        -- somebody lies nearer
        have hall : hops_all x.f4 x.f5 = p :: (t ++ x.f5.map fun y => y.f1) := by
          show firm x.f4 ++ _ = _
          rw [hP]
          rfl
        have hin : hops_ok (hops_all x.f4 x.f5) x.f0.f0 x.f0.f1 key 0 = true := by
          rw [hall]
          unfold hops_ok
          have hr0 : rd_T25 (p :: (t ++ x.f5.map fun y => y.f1)) ((0 : Nat) : Int) = p := rfl
          rw [hr0, ring_btw]
          have hb : btw x.f0.f0 p.f0 key = true := by
            unfold btw
            exact decide_eq_true ⟨hid p List.mem_cons_self, .inr hgt⟩
          have hf : Go.Proofs.YtimihoepnkeioaaW.PrintIdx.firstIdx (fun r : S25 => r.f1 == p.f1) (p :: (t ++ x.f5.map fun y => y.f1)) = ((0 : Nat) : Int) :=
            Go.Proofs.YtimihoepnkeioaaW.PrintIdx.firstIdx_hit _ _ p 0 (by simp) (by simp) (fun j hj => absurd hj (Nat.not_lt_zero _))
          rw [hf, hb, bne_iff_ne.2 (had p List.mem_cons_self)]
          rfl
        have hne : hopsV x.f0.f0 x.f0.f1 x.f4 x.f5 key 4 ≠ [] := by
          intro he
          have h1 : (sorted (hops_cf x.f0.f0) (hops_out (hops_all x.f4 x.f5) x.f0.f0 x.f0.f1 key (hops_all x.f4 x.f5).length)).length = 0 := by
            unfold hopsV cut at he
            rw [if_neg (by omega)] at he
            have h2 := congrArg List.length he
            rw [List.length_take, List.length_nil] at h2
            omega
          rw [Go.Proofs.YtimihoepnkeioaaW.PrintSort.sorted_length _ (hops_swo x.f0.f0)] at h1
          unfold hops_out at h1
          rw [List.length_map] at h1
          have h2 := List.eq_nil_of_length_eq_zero h1
          have h3 : 0 ∈ (List.range (hops_all x.f4 x.f5).length).filter (hops_ok (hops_all x.f4 x.f5) x.f0.f0 x.f0.f1 key) := by
            rw [List.mem_filter, List.mem_range]
            exact ⟨by rw [hall]; simp, hin⟩
          rw [h2] at h3
          simp at h3
        obtain ⟨a, b, hab⟩ : ∃ a b, hopsV x.f0.f0 x.f0.f1 x.f4 x.f5 key 4 = a :: b := by
          cases h : hopsV x.f0.f0 x.f0.f1 x.f4 x.f5 key 4 with
          | nil => exact absurd h hne
          | cons a b => exact ⟨a, b, rfl⟩
        have hst : stepV x key = (0, 0, a :: b, false) := by
          unfold stepV
          rw [hP]
          simp only [if_neg c1, if_neg c2, if_neg c3]
          rw [hab]
        have ho : ownerV key x.f0 (p :: t) ∈ p :: t := by
          rcases owner_mem key (p :: t) x.f0 with h | h
          · have h6 := (owner_le key (p :: t) x.f0).2 q.f0 hqm
            rw [h, dme, dr q.f0] at h6
            omega
          · exact h
        unfold mineV
        rw [hst]
        refine ⟨fun h => (by cases h), ?_⟩
        rw [hp1 _ ho]
        rfl

/-! The law -/
def RL0 (k : Nat) (x : S34) (key i : Int) : Option Bool := annuletlaw32_RouteTrue.l0 k key i x.f0.f0 x.f0.f1 x.f1 x.f2 x.f3 x.f4 x.f5 x.f6 x.f7 x.f8 x.f9 x.f10 x.f11 x.f12
def RJ2 (k : Nat) (x : S34) (key : Int) : Option Bool := annuletlaw32_RouteTrue.j2 k key x.f0.f0 x.f0.f1 x.f1 x.f2 x.f3 x.f4 x.f5 x.f6 x.f7 x.f8 x.f9 x.f10 x.f11 x.f12
theorem j2_is (x : S34) (key : Int) (h4 : x.f4.length < 1099511627776) (h5 : x.f5.length < 1099511627776)
    (h : ((stepV x key).2.2.2 = true → (stepV x key).1 = (ownerV key x.f0 (firm x.f4)).f0 ∧ (stepV x key).2.1 = (ownerV key x.f0 (firm x.f4)).f1) ∧
      mineV x key = ((ownerV key x.f0 (firm x.f4)).f0 == x.f0.f0 && (ownerV key x.f0 (firm x.f4)).f1 == x.f0.f1)) : RJ2 (x.f4.length + 3) x key = some true := by
  have hs := step_is x key h4 h5 (x.f4.length + 1)
  have hm := mine_is x key h4 h5 (x.f4.length + 1)
  have ho := owner_is x key h4 (x.f4.length + 2) (by omega)
  unfold St at hs
  unfold Mn at hm
  unfold RJ2
  rw [annuletlaw32_RouteTrue.j2, hs, Option.bind_some]
  by_cases c : (stepV x key).2.2.2 = true
  · obtain ⟨e1, e2⟩ := h.1 c
    rw [if_pos c, ho, Option.bind_some, if_pos (by rw [e1, e2]; simp), hm, Option.bind_some, Option.bind_some, if_pos (by rw [h.2]; simp), awake_is, Option.bind_some]
  · rw [if_neg c, hm, Option.bind_some, ho, Option.bind_some, if_pos (by rw [h.2]; simp), awake_is, Option.bind_some]
/-- What the law's own loop has seen, up to n. -/
def Seen (x : S34) (n : Nat) : Prop := ∀ j (hj : j < x.f4.length), j < n → x.f4[j].f0.f0 ≠ x.f0.f0 ∧ ∀ (h0 : 0 < j), x.f4[j].f0.f0 ≠ (x.f4[j - 1]'(by omega)).f0.f0
theorem firm_all (l : List S46) (h : (firm l).length = l.length) : firm l = l.map (fun y => y.f0) ∧ ∀ y ∈ l, y.f1 ≤ 0 := by
  unfold firm at h ⊢
  rw [List.length_map] at h
  have h2 : l.filter (fun y => decide (y.f1 ≤ 0)) = l := List.Sublist.eq_of_length List.filter_sublist h
  rw [h2]
  refine ⟨rfl, fun y hy => ?_⟩
  rw [← h2] at hy
  simpa using (List.mem_filter.1 hy).2
theorem ups (x : S34) (hm : U x.f0.f0) (hu : ∀ y ∈ x.f4, U y.f0.f0) (hg : Good x.f0 x.f4 x.f4.length) (hs : Seen x x.f4.length) : ∀ j (hj : j < x.f4.length), ∀ i (hi : i < j), dist x.f0.f0 (x.f4[i]'(by omega)).f0.f0 < dist x.f0.f0 x.f4[j].f0.f0 := by
  intro j
  induction j with
  | zero => intro _ i hi; omega
  | succ j ih =>
    intro hj i hi
    have hj' : j < x.f4.length := by omega
    have h1 := (hg (j + 1) hj hj).2 (by omega)
    have h2 := (hs (j + 1) hj hj).2 (by omega)
    have h3 : dist x.f0.f0 x.f4[j].f0.f0 < dist x.f0.f0 x.f4[j + 1].f0.f0 := by
      have h1' : dist x.f0.f0 x.f4[j].f0.f0 ≤ dist x.f0.f0 x.f4[j + 1].f0.f0 := h1
      have h2' : x.f4[j + 1].f0.f0 ≠ x.f4[j].f0.f0 := h2
      by_cases h : dist x.f0.f0 x.f4[j].f0.f0 = dist x.f0.f0 x.f4[j + 1].f0.f0
      · exact absurd (dist_inj (hu _ (List.getElem_mem hj)) (hu _ (List.getElem_mem hj')) h.symm) h2'
      · omega
    by_cases h4 : i < j
    · have := ih hj' i h4
      omega
    · have : i = j := by omega
      subst this
      exact h3

def with_ (x : S34) (l : List S46) : S34 := ⟨x.f0, x.f1, x.f2, l, x.f4, x.f5, x.f6, x.f7, x.f8, x.f9, x.f10, x.f11, x.f12⟩
theorem end_empty (x : S34) (key : Int) (h5 : x.f5.length < 1099511627776) (h : x.f4 = []) : RJ2 (x.f4.length + 3) (with_ x []) key = some true := by
  have hst : stepV (with_ x []) key = (x.f0.f0, x.f0.f1, [], true) := by
    unfold stepV with_
    simp only [h]
    rfl
  have ho : ownerV key (with_ x []).f0 (firm (with_ x []).f4) = x.f0 := by
    show ownerV key x.f0 (firm x.f4) = x.f0
    rw [h]
    rfl
  refine j2_is (with_ x []) key (by show x.f4.length < _; rw [h]; simp) h5 ?_
  rw [ho]
  unfold mineV
  rw [hst]
  exact ⟨fun _ => ⟨rfl, rfl⟩, by rw [if_pos rfl]⟩
theorem end_some (x : S34) (key : Int) (hkey : U key) (hm : U x.f0.f0) (h4 : x.f4.length < 1099511627776) (h5 : x.f5.length < 1099511627776) (hu : ∀ y ∈ x.f4, U y.f0.f0) (hg : Good x.f0 x.f4 x.f4.length) (hs : Seen x x.f4.length) (hf : (firm x.f4).length = x.f4.length) (n : Nat) (hn : x.f4.length = n + 1) :
    RJ2 (x.f4.length + 3) (with_ x [x.f4[n]'(by omega)]) key = some true := by
  obtain ⟨hf1, hf2⟩ := firm_all x.f4 hf
  have hup := ups x hm hu hg hs
  have hnl : n < x.f4.length := by omega
  obtain ⟨p, t, hpt⟩ : ∃ p t, firm x.f4 = p :: t := by
    cases h : firm x.f4 with
    | nil => rw [h] at hf; simp only [List.length_nil] at hf; omega
    | cons p t => exact ⟨p, t, rfl⟩
  have hmap : p :: t = x.f4.map (fun y => y.f0) := by rw [← hpt, hf1]
  have hpw : (p :: t).Pairwise fun a b => dist x.f0.f0 a.f0 < dist x.f0.f0 b.f0 := by
    rw [hmap, List.pairwise_map, List.pairwise_iff_getElem]
    intro i j hi hj hij
    exact hup j hj i hij
  have hmem : ∀ r ∈ p :: t, ∃ j, ∃ hj : j < x.f4.length, x.f4[j].f0 = r := fun r hr => by
    rw [hmap, List.mem_map] at hr
    obtain ⟨y, hy, rfl⟩ := hr
    obtain ⟨j, hj, rfl⟩ := List.getElem_of_mem hy
    exact ⟨j, hj, rfl⟩
  have hini : p :: t = (x.f4.take n).map (fun y => y.f0) ++ [(x.f4[n]'hnl).f0] := by
    rw [hmap]
    have h : x.f4 = x.f4.take n ++ [x.f4[n]] := by
      rw [← List.take_succ_eq_append_getElem hnl, List.take_of_length_le (by omega)]
    conv => lhs; rw [h]
    rw [List.map_append]
    rfl
  have hc := core (with_ x [x.f4[n]]) key hkey hm p t hpt hpw (fun r hr => by
      obtain ⟨j, hj, rfl⟩ := hmem r hr
      exact hu _ (List.getElem_mem hj)) (fun r hr => by
      obtain ⟨j, hj, rfl⟩ := hmem r hr
      exact (hs j hj hj).1) (fun r hr => by
      obtain ⟨j, hj, rfl⟩ := hmem r hr
      exact (hg j hj hj).1) x.f4[n] rfl (hf2 _ (List.getElem_mem hnl)) _ hini
  refine j2_is (with_ x [x.f4[n]]) key h4 h5 ?_
  have he : firm (with_ x [x.f4[n]]).f4 = p :: t := hpt
  rw [he]
  exact hc
theorem RJ2_up (x : S34) (key : Int) {k : Nat} (h : RJ2 k x key = some true) (k' : Nat) (hk : k ≤ k') : RJ2 k' x key = some true :=
  up (g := fun k => RJ2 k x key) (fun k => (annuletlaw32_RouteTrue.mono_l k).2.2 _ _ _ _ _ _ _ _ _ _ _ _ _ _ _) h k' hk
theorem law_loop (x : S34) (key : Int) (hkey : U key) (hm : U x.f0.f0) (h4 : x.f4.length < 1099511627776) (h5 : x.f5.length < 1099511627776) (hu : ∀ y ∈ x.f4, U y.f0.f0) (hg : Good x.f0 x.f4 x.f4.length) (hf : (firm x.f4).length = x.f4.length) :
    ∀ n i, i + n = x.f4.length → Seen x i → ∃ k, RL0 k x key (i : Int) = some true := by
  intro n
  induction n with
  | zero =>
    intro i hi hs
    have hi' : i = x.f4.length := by omega
    subst hi'
    refine ⟨x.f4.length + 4, ?_⟩
    unfold RL0
    rw [annuletlaw32_RouteTrue.l0, if_neg (by omega)]
    by_cases c : (x.f4.length : Int) > 0
    · obtain ⟨n, hn⟩ : ∃ n, x.f4.length = n + 1 := ⟨x.f4.length - 1, by omega⟩
      have hw : wrap64 ((x.f4.length : Int) - 1) = (n : Int) := by unfold wrap64; omega
      rw [if_pos c, hw, if_pos (by omega), if_pos (by omega), rdE (show n < x.f4.length by omega)]
      exact end_some x key hkey hm h4 h5 hu hg hs hf n hn
    · rw [if_neg c]
      exact end_empty x key h5 (List.eq_nil_of_length_eq_zero (by omega))
  | succ n ih =>
    intro i hi hs
    have hlt : i < x.f4.length := by omega
    by_cases c1 : x.f4[i].f0.f0 = x.f0.f0
    · refine ⟨2, ?_⟩
      unfold RL0
      rw [annuletlaw32_RouteTrue.l0, if_pos (by omega), if_pos (by omega), rdE hlt, if_pos c1, awake_is, Option.bind_some]
    · by_cases c2 : (i : Int) > 0
      · obtain ⟨p, rfl⟩ : ∃ p, i = p + 1 := ⟨i - 1, by omega⟩
        have hpl : p < x.f4.length := by omega
        have hw : wrap64 (((p + 1 : Nat) : Int) - 1) = (p : Int) := by unfold wrap64; omega
        by_cases c3 : x.f4[p + 1].f0.f0 = x.f4[p].f0.f0
        · refine ⟨2, ?_⟩
          unfold RL0
          rw [annuletlaw32_RouteTrue.l0, if_pos (by omega), if_pos (by omega), rdE hlt, if_neg c1, if_pos c2, hw, if_pos (by omega), if_pos (by omega), rdE hpl, if_pos c3, awake_is, Option.bind_some]
        · obtain ⟨k, hk⟩ := ih (p + 1 + 1) (by omega) (fun j hj hji => by
            by_cases h : j < p + 1
            · exact hs j hj h
            · have : j = p + 1 := by omega
              subst this
              exact ⟨c1, fun _ => c3⟩)
          refine ⟨k + 1, ?_⟩
          unfold RL0 at hk ⊢
          rw [annuletlaw32_RouteTrue.l0, if_pos (by omega), if_pos (by omega), rdE hlt, if_neg c1, if_pos c2, hw, if_pos (by omega), if_pos (by omega), rdE hpl, if_neg c3, step64 hlt (by omega)]
          exact hk
      · have hi0 : i = 0 := by omega
        subst hi0
        obtain ⟨k, hk⟩ := ih (0 + 1) (by omega) (fun j hj hji => by
          have : j = 0 := by omega
          subst this
          exact ⟨c1, fun h => by omega⟩)
        refine ⟨k + 1, ?_⟩
        unfold RL0 at hk ⊢
        rw [annuletlaw32_RouteTrue.l0, if_pos (by omega), if_pos (by omega), rdE hlt, if_neg c1, if_neg c2, step64 hlt (by omega)]
        exact hk

theorem RouteTrue : annuletlaw32_RouteTrue.Pure := by
  intro x key hx hkey
  obtain ⟨w0, _, _, w3, w4, w5, w6, w7, w8, w9, _⟩ := hx
  obtain ⟨kl, b, hL, hb⟩ := large_is x (by omega) (by omega) (by omega)
  have hj : ∀ k, annuletlaw32_RouteTrue.j0 (k + 2) key true x.f0.f0 x.f0.f1 x.f1 x.f2 x.f3 x.f4 x.f5 x.f6 x.f7 x.f8 x.f9 x.f10 x.f11 x.f12 = some true := fun k => by
    rw [annuletlaw32_RouteTrue.j0, if_pos rfl, awake_is, Option.bind_some]
  cases b with
  | true =>
    refine ⟨kl + 2, ?_⟩
    have hLk := hL (kl + 2) (by omega)
    unfold Lg at hLk
    unfold annuletlaw32_RouteTrue.f
    rw [hLk, Option.bind_some, if_pos rfl, hj]
  | false =>
    obtain ⟨b3, b4, b5⟩ := hb rfl
    obtain ⟨kr, br, hr, hbr⟩ := right_loop x.f0 x.f4 (by omega) x.f4.length 0 (by omega) (fun j hj h => absurd h (Nat.not_lt_zero _))
    have hright : ∀ k, kr ≤ k → peers_Right.f k x.f0.f0 x.f0.f1 x.f4 = some br := fun k hk => right_l0_up hr k hk
    cases br with
    | false =>
      refine ⟨kl + kr + 2, ?_⟩
      have hLk := hL (kl + kr + 2) (by omega)
      unfold Lg at hLk
      unfold annuletlaw32_RouteTrue.f
      rw [hLk, Option.bind_some, if_neg (by decide), hright _ (by omega), Option.bind_some, if_neg (by decide), hj]
    | true =>
      by_cases c : ((firm x.f4).length : Int) = (x.f4.length : Int)
      · obtain ⟨k, hk⟩ := law_loop x key (wf_u64 hkey) (wf_u64 w0.1) (by omega) (by omega) (fun y hy => wf_u64 (w4.2 y hy).1.1) (hbr rfl) (by omega) x.f4.length 0 (by omega) (fun j hj h => absurd h (Nat.not_lt_zero _))
        refine ⟨kl + kr + k + 1, ?_⟩
        have hLk := hL (kl + kr + k + 1) (by omega)
        unfold Lg at hLk
        unfold annuletlaw32_RouteTrue.f
        rw [hLk, Option.bind_some, if_neg (by decide), hright _ (by omega), Option.bind_some, if_pos rfl, peers_firm _ (by omega), Option.bind_some, bne_eq_false_iff_eq.2 c, annuletlaw32_RouteTrue.j0, if_neg (by decide)]
        unfold RL0 at hk
        exact up (g := fun k => annuletlaw32_RouteTrue.l0 k key 0 x.f0.f0 x.f0.f1 x.f1 x.f2 x.f3 x.f4 x.f5 x.f6 x.f7 x.f8 x.f9 x.f10 x.f11 x.f12) (fun k => (annuletlaw32_RouteTrue.mono_l k).2.1 _ _ _ _ _ _ _ _ _ _ _ _ _ _ _ _) hk _ (by omega)
      · refine ⟨kl + kr + 2, ?_⟩
        have hLk := hL (kl + kr + 2) (by omega)
        unfold Lg at hLk
        unfold annuletlaw32_RouteTrue.f
        rw [hLk, Option.bind_some, if_neg (by decide), hright _ (by omega), Option.bind_some, if_pos rfl, peers_firm _ (by omega), Option.bind_some, bne_iff_ne.2 c, hj]
#print axioms core
end Go.Proofs.Ytimihoepnkeioaa.Pure
