/- Mine. Chapter 23, plain: what a datagram of a part is, what is got from it, and what the parts of a message come to. -/
import Derived.Test.YtaeelmkpjgmdlaaHWC
namespace Go.Proofs.Ytaeelmkpjgmdlaa.H
open Go Go.Proofs Go.RowKit Go.Lib Go.Proofs.Ytaeelmkpjgmdlaa.P Go.Proofs.YtaeelmkpjgmdlaaW.PrintWords Go.Proofs.YtaeelmkpjgmdlaaW.PrintLast Go.Proofs.YtaeelmkpjgmdlaaW.PrintMore Go.Proofs.YtaeelmkpjgmdlaaW.PrintFlat Go.Proofs.Ytaeelmkpjgmdlaa.Seen
set_option linter.unusedVariables false
set_option linter.unusedSimpArgs false
/-! the sum, whatever it is -/
theorem step_is (a : Int) (b : Bool) : ∃ r, annuletref02_step.f a b = some r := by
  unfold annuletref02_step.f
  repeat' split
  all_goals exact ⟨_, rfl⟩
theorem step_in {l : List Int} {i : Int} {K : Nat} (h : ∀ k, K ≤ k → ∀ x, ∃ r, annuletref02_Step.l0 k x l (wrap64 (i + 1)) = some r) : ∀ (d : Nat) (k : Nat) (x c j : Int), d ≤ 8 → j = 8 - (d : Int) → K + d + 1 ≤ k → ∃ r, annuletref02_Step.l1 k x l i c j = some r
  | 0, k + 1, x, c, j, hd, hj, hk => by
    simp only [annuletref02_Step.l1]
    rw [if_neg (by omega)]
    exact h k (by omega) x
  | d + 1, k + 1, x, c, j, hd, hj, hk => by
    simp only [annuletref02_Step.l1]
    rw [if_pos (by omega)]
    obtain ⟨r, hr⟩ := step_is x (Int.tmod c 2 == 1)
    rw [hr]
    show ∃ r, annuletref02_Step.l1 k _ l i _ (wrap64 (j + 1)) = some r
    exact step_in h d k _ _ _ (by omega) (by unfold wrap64; omega) (by omega)
theorem step_out {l : List Int} (hl : l.length ≤ 1000000) : ∀ (n : Nat) (k : Nat) (x i : Int), 0 ≤ i → i ≤ l.length → (l.length : Int) - i ≤ n → 10 * n + 1 ≤ k → ∃ r, annuletref02_Step.l0 k x l i = some r
  | 0, k + 1, x, i, h0, h1, h2, hk => by
    simp only [annuletref02_Step.l0]
    rw [if_neg (by omega)]
    exact ⟨_, rfl⟩
  | n + 1, k + 1, x, i, h0, h1, h2, hk => by
    simp only [annuletref02_Step.l0]
    by_cases h : i < (l.length : Int)
    · rw [if_pos h, if_pos h0]
      have hw : wrap64 (i + 1) = i + 1 := by unfold wrap64; omega
      exact step_in (K := 10 * n + 1) (fun k' hk' x' => by rw [hw]; exact step_out hl n k' x' _ (by omega) (by omega) (by omega) hk') 8 k _ _ _ (by omega) (by omega) (by omega)
    · rw [if_neg h]
      exact ⟨_, rfl⟩
theorem sum_in : ∀ (d k : Nat) (s : Int) (acc : List Int) (j : Int), d ≤ 4 → j = 4 - (d : Int) → acc.length + d ≤ 4 → d + 1 ≤ k → (∀ b ∈ acc, 0 ≤ b ∧ b < 256) → ∃ r, annuletref18_Sum.l0 k s acc j = some r ∧ r.length = acc.length + d ∧ ∀ b ∈ r, 0 ≤ b ∧ b < 256
  | 0, k + 1, s, acc, j, hd, hj, hl, hk, hb => by
    simp only [annuletref18_Sum.l0]
    rw [if_neg (by omega)]
    exact ⟨_, rfl, rfl, hb⟩
  | d + 1, k + 1, s, acc, j, hd, hj, hl, hk, hb => by
    simp only [annuletref18_Sum.l0]
    rw [if_pos (by omega), if_pos (by omega)]
    obtain ⟨r, h1, h2, h3⟩ := sum_in d k ((Int.tdiv s 256) % 4294967296) (acc ++ [(Int.tmod s 256) % 256]) (wrap64 (j + 1)) (by omega) (by unfold wrap64; omega) (by rw [List.length_append]; simp; omega) (by omega) (fun b hb' => by
      rcases List.mem_append.1 hb' with h | h
      · exact hb b h
      · rw [List.mem_singleton.1 h]; omega)
    exact ⟨r, h1, by rw [h2, List.length_append]; simp; omega, h3⟩
/-- The sum of any bytes: four bytes, whichever they are. -/
theorem sum_is {l : List Int} (hl : l.length ≤ 5000) (K : Nat) (hK : 60000 ≤ K) : ∃ s, annuletref18_Sum.f K l = some s ∧ s.length = 4 ∧ ∀ b ∈ s, 0 ≤ b ∧ b < 256 := by
  obtain ⟨r, hr⟩ := step_out (l := l) (by omega) l.length K 4294967295 0 (by omega) (by omega) (by omega) (by omega)
  unfold annuletref18_Sum.f annuletref02_Sum.f annuletref02_Step.f
  rw [hr]
  obtain ⟨s, h1, h2, h3⟩ := sum_in 4 K ((4294967295 - r) % 4294967296) [] 0 (by omega) (by omega) (by simp) (by omega) (fun b hb => by simp at hb)
  exact ⟨s, h1, by simpa using h2, h3⟩
/-! numbers as bytes -/
def be4 (n : Int) : List Int := [n / 16777216 % 256, n / 65536 % 256, n / 256 % 256, n % 256]
def be2 (n : Int) : List Int := [n / 256 % 256, n % 256]
theorem fix_one {k : Nat} {x z : Int} {acc : List Int} {j : Int} (hx : 0 ≤ x) (hx2 : x < 4294967296) (hj : j < z) (hj0 : 0 ≤ j) (hj4 : j ≤ 8) (ha : acc.length ≤ 8) : annuletref06_Fix.l0 (k + 1) x z acc j = annuletref06_Fix.l0 k (x / 256) z (x % 256 :: acc) (j + 1) := by
  simp only [annuletref06_Fix.l0]
  rw [if_pos hj]
  show (if [(Int.tmod x 256) % 256].length + acc.length < 140737488355328 then _ else none) = _
  rw [if_pos (by simp; omega), Int.tmod_eq_emod_of_nonneg hx, Int.tdiv_eq_ediv_of_nonneg hx]
  have e1 : x % 256 % 256 = x % 256 := by omega
  have e2 : IntKind.u64.wrap (x / 256) = x / 256 := by rw [IntKind.wrap_u64]; omega
  have e3 : wrap64 (j + 1) = j + 1 := by unfold wrap64; omega
  rw [e1, e2, e3]
  rfl
theorem fix_end {k : Nat} {x z : Int} {acc : List Int} : annuletref06_Fix.l0 (k + 1) x z acc z = some acc := by
  simp only [annuletref06_Fix.l0]
  rw [if_neg (by omega)]
theorem fix4 {n : Int} (h0 : 0 ≤ n) (h1 : n < 4294967296) (K : Nat) (hK : 5 ≤ K) : annuletref06_Fix.f K n 4 = some (be4 n) := by
  obtain ⟨k, rfl⟩ : ∃ k, K = k + 1 + 1 + 1 + 1 + 1 := ⟨K - 5, by omega⟩
  unfold annuletref06_Fix.f
  rw [if_neg (by omega), fix_one h0 h1 (by omega) (by omega) (by omega) (by simp), fix_one (by omega) (by omega) (by omega) (by omega) (by omega) (by simp), fix_one (by omega) (by omega) (by omega) (by omega) (by omega) (by simp), fix_one (by omega) (by omega) (by omega) (by omega) (by omega) (by simp)]
  rw [show (0 : Int) + 1 + 1 + 1 + 1 = 4 from rfl, fix_end]
  unfold be4
  congr 1
  have e1 : n / 256 / 256 / 256 % 256 = n / 16777216 % 256 := by omega
  have e2 : n / 256 / 256 % 256 = n / 65536 % 256 := by omega
  rw [e1, e2]
theorem fix2 {n : Int} (h0 : 0 ≤ n) (h1 : n < 65536) (K : Nat) (hK : 5 ≤ K) : annuletref06_Fix.f K n 2 = some (be2 n) := by
  obtain ⟨k, rfl⟩ : ∃ k, K = k + 1 + 1 + 1 := ⟨K - 3, by omega⟩
  unfold annuletref06_Fix.f
  rw [if_neg (by omega), fix_one h0 (by omega) (by omega) (by omega) (by omega) (by simp), fix_one (by omega) (by omega) (by omega) (by omega) (by omega) (by simp)]
  rw [show (0 : Int) + 1 + 1 = 2 from rfl, fix_end]
  rfl
/-- A datagram, but its sum. -/
def dgP (kd ver ep id ix cnt : Int) (body : List Int) : List Int := [167, 78, kd, ver] ++ be4 ep ++ be4 id ++ be2 ix ++ be2 cnt ++ body
theorem dgP_len (kd ver ep id ix cnt : Int) (body : List Int) : (dgP kd ver ep id ix cnt body).length = 16 + body.length := by unfold dgP be4 be2; simp; omega
theorem bytes_is {kd ver ep id ix cnt : Int} {body : List Int} (we : 0 ≤ ep ∧ ep < 4294967296) (wi : 0 ≤ id ∧ id < 4294967296) (wx : 0 ≤ ix ∧ ix < 65536) (wc : 0 ≤ cnt ∧ cnt < 65536) (hb : body.length ≤ 1500) :
    ∃ s, annuletref18_Bytes.f 60000 kd ver ep id ix cnt body = some (dgP kd ver ep id ix cnt body ++ s) ∧ annuletref18_Sum.f 60000 (dgP kd ver ep id ix cnt body) = some s ∧ s.length = 4 ∧ ∀ b ∈ s, 0 ≤ b ∧ b < 256 := by
  obtain ⟨s, h1, h2, h3⟩ := sum_is (l := dgP kd ver ep id ix cnt body) (by rw [dgP_len]; omega) 60000 (Nat.le_refl _)
  refine ⟨s, ?_, h1, h2, h3⟩
  unfold annuletref18_Bytes.f
  have e1 : IntKind.u64.wrap ep = ep := by rw [IntKind.wrap_u64]; omega
  have e2 : IntKind.u64.wrap id = id := by rw [IntKind.wrap_u64]; omega
  have e3 : IntKind.u64.wrap ix = ix := by rw [IntKind.wrap_u64]; omega
  have e4 : IntKind.u64.wrap cnt = cnt := by rw [IntKind.wrap_u64]; omega
  rw [e1, e2, e3, e4, fix4 we.1 we.2 60000 (by omega), fix4 wi.1 wi.2 60000 (by omega), fix2 wx.1 wx.2 60000 (by omega), fix2 wc.1 wc.2 60000 (by omega)]
  have l4 : ∀ n, (be4 n).length = 4 := fun n => rfl
  have l2 : ∀ n, (be2 n).length = 2 := fun n => rfl
  simp only [Option.bind_some]
  rw [if_pos (by simp [l4]), if_pos (by simp [l4]), if_pos (by simp [l4, l2]), if_pos (by simp [l4, l2]), if_pos (by simp [l4, l2]; omega)]
  rw [show [167, 78, kd, ver] ++ be4 ep ++ be4 id ++ be2 ix ++ be2 cnt ++ body = dgP kd ver ep id ix cnt body from rfl, h1]
  simp only [Option.bind_some]
  rw [if_pos (by rw [dgP_len, h2]; omega)]
theorem num4 {n : Int} (h0 : 0 ≤ n) (h1 : n < 4294967296) : num (be4 n) = n := by
  unfold num be4
  simp only [List.foldl_cons, List.foldl_nil]
  omega
theorem num2 {n : Int} (h0 : 0 ≤ n) (h1 : n < 65536) : num (be2 n) = n := by
  unfold num be2
  simp only [List.foldl_cons, List.foldl_nil]
  omega
/-- What is got from the datagram of a part. -/
theorem part_ok {A : Option Addr} {c : Nat} {bs : List Int} {w : World} {kd ver ep id ix cnt : Int} {body s : List Int} (hbs : bs = dgP kd ver ep id ix cnt body ++ s) (hs : annuletref18_Sum.f 60000 (dgP kd ver ep id ix cnt body) = some s) (hs4 : s.length = 4) (hsb : ∀ b ∈ s, 0 ≤ b ∧ b < 256) (hr : Kd.C (Kd.int .u8) w A bs.length bs) (hc : bs.length ≤ c)
    (hb : body.length ≤ 1500) (hbb : ∀ b ∈ body, 0 ≤ b ∧ b < 256) (wk : 1 ≤ kd ∧ kd ≤ 2) (wv : 0 ≤ ver ∧ ver < 256) (we : 0 ≤ ep ∧ ep < 4294967296) (wi : 0 ≤ id ∧ id < 4294967296) (wx : 0 ≤ ix ∧ ix < cnt) (wc : cnt < 65536) :
    Calls Try.prog 21 #[.slice A bs.length c] w fun e w' => Below w.heap.size w w' ∧ ∃ A' c', e = .returned (.tuple #[.agg #[.int .u8 kd, .int .u8 ver, .int .u32 ep, .int .u32 id, .int .u16 ix, .int .u16 cnt, .slice A' body.length c'], .int .i64 0]) ∧ body.length ≤ c' ∧ Kd.R (Kd.int .u8) 5 w' w.heap.size (fun _ => True) (.slice A' body.length c') body := by
  have hl := dgP_len kd ver ep id ix cnt body
  have htk : bs.take (16 + body.length) = dgP kd ver ep id ix cnt body := by rw [hbs, ← hl]; exact List.take_left
  have hdr : bs.drop (16 + body.length) = s := by rw [hbs, ← hl]; exact List.drop_left
  have e0 : bs = 167 :: 78 :: kd :: ver :: (be4 ep ++ be4 id ++ be2 ix ++ be2 cnt ++ body ++ s) := by rw [hbs]; unfold dgP; simp
  have hcs : (bs.take (16 + body.length)).drop 2 = kd :: ver :: (be4 ep ++ be4 id ++ be2 ix ++ be2 cnt ++ body) := by rw [htk]; unfold dgP; simp
  refine get_ok hr hc (20 + body.length) (16 + body.length) (by rw [hbs, List.length_append, hl, hs4]; omega) (by omega) (by omega) (by omega) (fun b hbm => ?_) s hdr (by rw [htk]; exact hs) (by rw [e0]; rfl) (by rw [e0]; rfl) (kd :: ver :: (be4 ep ++ be4 id ++ be2 ix ++ be2 cnt ++ body)) hcs kd ver ep id ix cnt body ?_ ?_ ?_ ?_ ?_ ?_ ?_ wk wv we wi wx wc
  · rw [hbs] at hbm
    unfold dgP be4 be2 at hbm
    simp only [List.mem_append, List.mem_cons, List.not_mem_nil, or_false] at hbm
    rcases hbm with ((((((h | h | h | h) | (h | h | h | h)) | (h | h | h | h)) | (h | h)) | (h | h)) | h) | h
    all_goals first | exact hbb b h | exact hsb b h | (rw [h]; omega)
  · simp [num]
  · simp [num]
  · exact (congrArg num (show _ = be4 ep from rfl)).trans (num4 we.1 we.2)
  · exact (congrArg num (show _ = be4 id from rfl)).trans (num4 wi.1 wi.2)
  · exact (congrArg num (show _ = be2 ix from rfl)).trans (num2 wx.1 (by omega))
  · exact (congrArg num (show _ = be2 cnt from rfl)).trans (num2 (by omega) wc)
  · rfl
/-! the parts of a body -/
theorem chunk_len (body : List Int) (room k : Nat) : (chunk body room k).length ≤ room ∧ (chunk body room k).length ≤ body.length := by
  unfold chunk
  rw [List.length_drop, List.length_take]
  omega
theorem chunk_mem {body : List Int} {room k : Nat} {b : Int} (h : b ∈ chunk body room k) : b ∈ body := List.mem_of_mem_take (List.mem_of_mem_drop h)
theorem chunks (body : List Int) (room : Nat) : ∀ k : Nat, (List.range k).flatMap (chunk body room) = body.take (k * room)
  | 0 => by simp
  | k + 1 => by
    rw [List.range_succ, List.flatMap_append, chunks body room k]
    simp only [List.flatMap_cons, List.flatMap_nil, List.append_nil]
    unfold chunk
    have h1 : (k + 1) * room = k * room + room := by rw [Nat.add_mul, Nat.one_mul]
    rw [h1]
    have h2 : body.take (min (k * room + room) body.length) = body.take (k * room + room) := by
      rcases Nat.le_total (k * room + room) body.length with h | h
      · rw [Nat.min_eq_left h]
      · rw [Nat.min_eq_right h, List.take_of_length_le (Nat.le_refl _), List.take_of_length_le h]
    rw [h2]
    have h3 := List.take_append_drop (k * room) (body.take (k * room + room))
    rw [List.take_take, Nat.min_eq_left (by omega)] at h3
    exact h3
end Go.Proofs.Ytaeelmkpjgmdlaa.H
