/- Mine. What a reading of an argument gives: for each kind of the print ('Kd'), that every value which can be read is of that kind, its numbers in their ranges, its lengths within the row's own bound. -/
import Derived.Test.YtaeelmkpjgmdlaaWWords
import Derived.Deep.Slices
import Derived.SizedLaws
import Derived.ChangeSlices
import Derived.ChangeArms
namespace Go.Proofs.YtaeelmkpjgmdlaaW.PrintOpen
open Go.ChangeShapes Go.WideShapes Go.RowKit Go.Proofs.YtaeelmkpjgmdlaaW.PrintWords

/-- Every value of type t that can be read is of kind d, and what it holds is in bounds. -/
def Opens {α : Type} (P : Program) (d : Kd α) (t : Nat) (wf : α → Prop) : Prop :=
  ∀ (H : Type) (enc : TypeId × Value → H) (W : World) (base fuel : Nat) (cs : List Value) (x : DataW H × List MemPlace),
    DataW.trod enc P W base (fun _ => true) true fuel t cs = some x → (∀ n ∈ x.1.weights P t, n ≤ reachBytes) → ∃ a, d.K W a cs ∧ wf a

theorem Opens.int {P : Program} {k : IntKind} {t : Nat} (h : P.underlying t = some (.int k)) : Opens P (Kd.int k) t (fun x => (Lit.int k x).wf = true) := by
  intro H enc W base fuel cs x hx _
  obtain ⟨n, rfl, rfl, hw⟩ := DataW.trod_int h hx
  exact ⟨n, rfl, hw⟩

theorem Opens.bool {P : Program} {t : Nat} (h : P.underlying t = some .bool) : Opens P Kd.bool t (fun _ => True) := by
  intro H enc W base fuel cs x hx _
  obtain ⟨n, rfl, rfl⟩ := DataW.trod_bool h hx
  exact ⟨n, rfl, trivial⟩

theorem Opens.string {P : Program} {t : Nat} (h : P.underlying t = some .string) : Opens P Kd.string t (fun s => s.size ≤ 140737488351232) := by
  intro H enc W base fuel cs x hx hw
  obtain ⟨s, rfl, rfl, _⟩ := DataW.trod_string h hx
  refine ⟨s, rfl, ?_⟩
  have h1 := hw s.data.toList.length (by simp [DataW.weights])
  rw [Array.length_toList] at h1
  exact h1

theorem weights_mem_all {H : Type} {P : Program} {e : Nat} : ∀ {l : List (DataW H)} {y : DataW H}, y ∈ l → ∀ n ∈ y.weights P e, n ∈ DataW.weightsAll P e l
  | [], _, h, _, _ => by cases h
  | z :: l, y, h, n, hn => by
    simp only [DataW.weightsAll, List.mem_append]
    rcases List.mem_cons.1 h with rfl | h
    · exact .inl hn
    · exact .inr (weights_mem_all h n hn)

theorem cells_get {w : World} {base : Nat} {a : Addr} {n : Nat} {cs : List Value} (h : w.cells? base a n = some cs) : cs.length = n ∧ ∀ i u, cs[i]? = some u → w.cell? (a.add i) = some u := by
  unfold World.cells? at h
  split at h
  · have hl : cs.length = n := by have := mapM_some_length h; simpa using this
    refine ⟨hl, fun i u hu => ?_⟩
    have hi : i < n := by rw [← hl]; exact (List.getElem?_eq_some_iff.1 hu).1
    have := mapM_some_get h i i (by simp [hi])
    rw [this]; exact hu
  · cases h

theorem Opens.slice {α : Type} {P : Program} {d : Kd α} {t e : Nat} {wf : α → Prop} (h : P.underlying t = some (.slice e)) (hc : P.cellsOf e = d.sz) {B : Nat} (hB : P.bytesOf e = B) (hd : Opens P d e wf) :
    Opens P (Kd.slice e d) t (fun l => l.length * B ≤ 140737488351232 ∧ ∀ x ∈ l, wf x) := by
  subst hB
  intro H enc W base fuel cs x hx hw
  rcases Deep.open_slice h hx with ⟨rfl, rfl⟩ | ⟨a, len, cap, m, n, D, Pl, rfl, hb, hl, hm, hmm, rfl, hel⟩
  · exact ⟨[], ⟨none, 0, rfl, Nat.le_refl _, rfl, by simp, fun h0 => absurd h0 (by simp)⟩, by simp, by simp⟩
  · have hm' : m = cap := by simpa using hmm
    subst hm'
    have hws : ∀ n ∈ ((List.range len).map D).foldr (fun y r => y.weights P e ++ r) [], n ≤ reachBytes := by
      intro n hn
      refine hw n ?_
      have : ∀ l : List (DataW H), l.foldr (fun y r => y.weights P e ++ r) [] = DataW.weightsAll P e l := by
        intro l
        induction l with
        | nil => rfl
        | cons z l ih => simp [DataW.weightsAll, ih]
      rw [this] at hn
      simp only [DataW.weights, h, List.mem_cons, List.mem_append]
      exact .inr (.inl hn)
    have hlen : (len + (m - len)) * P.bytesOf e ≤ reachBytes := by
      refine hw _ ?_
      simp [DataW.weights, h]
    have each : ∀ i, i < len → ∃ y : α × List Value, d.K W y.1 y.2 ∧ wf y.1 ∧ ∀ j u, y.2[j]? = some u → W.cell? (a.add (i * d.sz + j)) = some u := by
      intro i hi
      obtain ⟨cs', hcs, htr⟩ := hel i (by omega)
      obtain ⟨z, hz, hwz⟩ := hd H enc W base n cs' (D i, Pl i) htr (fun q hq => hw q (by
        simp only [DataW.weights, h, List.mem_cons, List.mem_append]
        exact .inr (.inl (weights_mem_all (List.mem_map.2 ⟨i, List.mem_range.2 hi, rfl⟩) q hq))))
      refine ⟨(z, cs'), hz, hwz, fun j u hu => ?_⟩
      have := (cells_get hcs).2 j u hu
      rwa [Deep.add_add, hc] at this
    rcases Nat.eq_zero_or_pos len with h0 | h0
    · subst h0
      exact ⟨[], ⟨some a, m, rfl, Nat.zero_le _, rfl, by simp, fun h0 => absurd h0 (by simp)⟩, by simp, by simp⟩
    · obtain ⟨y0, _⟩ := each 0 h0
      haveI : Inhabited (α × List Value) := ⟨y0⟩
      obtain ⟨f, hf⟩ := Deep.choose_lt each
      refine ⟨(List.range len).map fun i => (f i).1, ⟨some a, m, by simp, by simp; exact hl, by simp, ?_, fun _ => ⟨a, rfl, ?_⟩⟩, ?_, ?_⟩
      · have : m ≤ 9223372036854775807 := hm
        simp; omega
      · intro j p hj
        have hj' : j < len := by have := (List.getElem?_eq_some_iff.1 hj).1; simpa using this
        have hp : p = (f j).1 := by
          rw [List.getElem?_map, List.getElem?_range hj'] at hj
          simpa using hj.symm
        subst hp
        obtain ⟨h1, _, h3⟩ := hf j hj'
        exact ⟨(f j).2, d.K_len h1, h1, h3⟩
      · have h2 : len ≤ len + (m - len) := Nat.le_add_right _ _
        have := Nat.le_trans (Nat.mul_le_mul_right (P.bytesOf e) h2) hlen
        rw [List.length_map, List.length_range]
        exact this
      · intro z hz
        obtain ⟨i, hi, rfl⟩ := List.mem_map.1 hz
        exact (hf i (List.mem_range.1 hi)).2.1

/-- Fields in line, from a place on. -/
def OpensFs {α : Type} (P : Program) (d : Kd α) (l : List (Nat × Nat)) (off : Nat) (wf : α → Prop) : Prop :=
  ∀ (H : Type) (enc : TypeId × Value → H) (W : World) (base n : Nat) (cs : List Value) (xs : List (DataW H × List MemPlace)),
    (∀ (i t o : Nat), l[i]? = some (t, o) → DataW.trod enc P W base (fun _ => true) true n t ((cs.drop o).take (P.cellsOf t)) = xs[i]?) → xs.length = l.length →
    (∀ (i t o : Nat) y, l[i]? = some (t, o) → xs[i]? = some y → ∀ n ∈ y.1.weights P t, n ≤ reachBytes) → cs.length = off + d.sz → ∃ a, d.K W a (cs.drop off) ∧ wf a

theorem OpensFs.one {α : Type} {P : Program} {d : Kd α} {t off : Nat} {wf : α → Prop} (hc : P.cellsOf t = d.sz) (hd : Opens P d t wf) : OpensFs P d [(t, off)] off wf := by
  intro H enc W base n cs xs hx hl hw hcs
  have h0 := hx 0 t off rfl
  obtain ⟨y, rfl⟩ : ∃ y, xs = [y] := by
    match xs, hl with
    | [y], _ => exact ⟨y, rfl⟩
  rw [hc, List.take_of_length_le (by simp [hcs])] at h0
  exact hd H enc W base n _ y h0 (hw 0 t off y rfl rfl)

theorem OpensFs.cons {α β : Type} {P : Program} {a : Kd α} {b : Kd β} {t off off' : Nat} {l : List (Nat × Nat)} {wa : α → Prop} {wb : β → Prop} (hc : P.cellsOf t = a.sz) (hd : Opens P a t wa) (ho : off' = off + a.sz) (hb : OpensFs P b l off' wb) :
    OpensFs P (Kd.pair a b) ((t, off) :: l) off (fun x => wa x.1 ∧ wb x.2) := by
  subst ho
  intro H enc W base n cs xs hx hl hw hcs
  have h0 := hx 0 t off rfl
  match xs, hl with
  | y :: ys, hl =>
    have hcs' : cs.length = off + (a.sz + b.sz) := hcs
    rw [hc] at h0
    obtain ⟨za, ha, hwa⟩ := hd H enc W base n _ y h0 (hw 0 t off y rfl rfl)
    obtain ⟨zb, hb', hwb⟩ := hb H enc W base n cs ys (fun i t' o' hi => by have := hx (i + 1) t' o' (by simpa using hi); simpa using this) (by simpa using hl) (fun i t' o' y' hi hy => hw (i + 1) t' o' y' (by simpa using hi) (by simpa using hy)) (by omega)
    refine ⟨(za, zb), ⟨_, _, ?_, ha, hb'⟩, hwa, hwb⟩
    rw [← List.drop_drop, List.take_append_drop]

theorem Opens.struct {α β : Type} {P : Program} {d : Kd α} {t : Nat} {fs : Array Field} {wf : α → Prop} {l : List (Nat × Nat)} (h : P.underlying t = some (.struct fs)) (hl : fs.toList.map (fun f => (f.type, f.offset)) = l) (hc : P.cellsOf t = d.sz) (hd : OpensFs P d l 0 wf) {f : β → α} (g : α → β) (hg : ∀ a, f (g a) = a) :
    Opens P (Kd.iso d f) t (fun x => wf (f x)) := by
  subst hl
  intro H enc W base fuel cs x hx hw
  obtain ⟨xs, n, rfl, rfl, hcl, hxl, hel⟩ := DataW.trod_struct h hx
  obtain ⟨a, ha, hwa⟩ := hd H enc W base n cs xs (fun i t' o' hi => by
      rw [List.getElem?_map, Option.map_eq_some_iff] at hi
      obtain ⟨q, hq, he⟩ := hi
      simp only [Prod.mk.injEq] at he
      obtain ⟨rfl, rfl⟩ := he
      exact hel i q (by simpa using hq)) (by simpa using hxl) (fun i t' o' y hi hy q hq => by
      refine hw q ?_
      simp only [DataW.weights, h]
      rw [List.getElem?_map, Option.map_eq_some_iff] at hi
      obtain ⟨z, hz, he⟩ := hi
      simp only [Prod.mk.injEq] at he
      obtain ⟨rfl, rfl⟩ := he
      exact DataW.weights_mem_each (j := i) (t := z.type) (d := y.1) (by rw [List.getElem?_map, hz]; rfl) (by rw [List.getElem?_map, hy]; rfl) q hq) (by omega)
  exact ⟨g a, by rw [List.drop_zero] at ha; show d.K W (f (g a)) cs; rw [hg]; exact ha, by show wf (f (g a)); rw [hg]; exact hwa⟩

/-- What is in bounds may be said otherwise. -/
theorem Opens.imp {α : Type} {P : Program} {d : Kd α} {t : Nat} {wf wf' : α → Prop} (h : Opens P d t wf) (hi : ∀ x, wf x → wf' x) : Opens P d t wf' := by
  intro H enc W base fuel cs x hx hw
  obtain ⟨a, ha, hwa⟩ := h H enc W base fuel cs x hx hw
  exact ⟨a, ha, hi _ hwa⟩

/-- An argument of a row. -/
theorem Opens.arg {α : Type} {P : Program} {d : Kd α} {t : Nat} {wf : α → Prop} (h : Opens P d t wf) {H : Type} {enc : TypeId × Value → H} {W : World} {base : Nat} {v : Value} {y : DataW H} {ps : List MemPlace} {ts : List TypeId} {ds : List (DataW H)} (j : Nat)
    (hsz : (DataW.weightsEach P ts ds).all (· ≤ reachBytes) = true) (ht : ts[j]? = some t) (hd : ds[j]? = some y) (hx : DataW.Trod enc P W base (fun _ => true) true t v y ps) : ∃ a, d.K W a v.cells.toList ∧ wf a := by
  obtain ⟨fuel, hf⟩ := hx
  exact h H enc W base fuel _ _ hf (fun n hn => by
    have := List.all_eq_true.1 hsz _ (DataW.weights_mem_each ht hd n hn)
    simpa using this)

#print axioms Opens.arg
#print axioms Opens.struct
#print axioms Opens.slice
end Go.Proofs.YtaeelmkpjgmdlaaW.PrintOpen
