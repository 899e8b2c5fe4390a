/- THERE AND BACK: a message that may be is read as it was; bytes that are read are those of the message. (part 6 of 7) -/
import Derived.Test.YthkfilchighbhaaDoorKWireBack5
import Derived.ChangeSame
import Derived.ChangeVars
import Derived.JoinedOf
import Derived.LaidHandle
import Derived.LaidLaws
import Derived.RowKit
import Derived.RowKitTokens
import Derived.Stop.Joined
import Derived.Test.YthkfilchighbhaaDoorRows
namespace Go.Proofs.YthkfilchighbhaaDoor
open Go Go.Va
set_option linter.unusedVariables false
set_option linter.unusedSimpArgs false
theorem some_if {p : Prop} [Decidable p] {α : Type} (a b : α) : (if p then some a else some b) = some (if p then a else b) := by split <;> rfl
/-- The parts that a kind has, by the document. -/
theorem fields_eq (m : api_Msg) : butteryref23_fields m = some (
    if (m.Kind = 5 ∨ m.Kind = 6) ∧ (m.Id < 1 ∨ m.Id > 1099511627776) then 2 else
    if (m.Kind = 3 ∨ m.Kind = 4 ∨ m.Kind = 5 ∨ m.Kind = 6) ∧ ckK m.X.Key ≠ 0 then ckK m.X.Key else
    if (m.Kind = 2 ∨ m.Kind = 3 ∨ m.Kind = 4 ∨ m.Kind = 6) ∧ (m.X.AsOf < 0 ∨ m.X.AsOf > 1099511627776) then 2 else
    if m.Kind = 6 ∧ m.Found = true then ckE m.X else 0) := by
  unfold butteryref23_fields
  simp only [lt_eq, lease_eq, hkey_eq, asof_eq, Option.bind_some, or_bool, refKey_eq, refCheck_eq]
  by_cases h1 : (m.Kind = 5 ∨ m.Kind = 6) ∧ (m.Id < 1 ∨ m.Id > 1099511627776)
  · rw [if_pos h1, if_pos (decide_eq_true h1.1), decide_eq_true h1.2]; rfl
  · rw [if_neg h1]
    have e1 : (if decide (m.Kind = 5 ∨ m.Kind = 6) = true then some (decide (m.Id < 1 ∨ m.Id > 1099511627776)) else some false : Option Bool) = some false := by
      by_cases h : m.Kind = 5 ∨ m.Kind = 6
      · rw [if_pos (decide_eq_true h), decide_eq_false (fun h2 => h1 ⟨h, h2⟩)]
      · rw [if_neg (by rw [decide_eq_false h]; simp)]
    simp only [e1, Option.bind_some, Bool.false_eq_true, if_false]
    by_cases h2 : (m.Kind = 3 ∨ m.Kind = 4 ∨ m.Kind = 5 ∨ m.Kind = 6) ∧ ckK m.X.Key ≠ 0
    · rw [if_pos h2, if_pos (decide_eq_true h2.1), if_pos (by simpa using h2.2)]; rfl
    · rw [if_neg h2]
      have e2 : (if decide (m.Kind = 3 ∨ m.Kind = 4 ∨ m.Kind = 5 ∨ m.Kind = 6) = true then (if (ckK m.X.Key != 0) = true then some (Sum.inr (ckK m.X.Key)) else some (Sum.inl ())) else some (Sum.inl ()) : Option (Unit ⊕ Int)) = some (.inl ()) := by
        by_cases h : m.Kind = 3 ∨ m.Kind = 4 ∨ m.Kind = 5 ∨ m.Kind = 6
        · rw [if_pos (decide_eq_true h), if_neg (by have : ckK m.X.Key = 0 := Classical.byContradiction fun h3 => h2 ⟨h, h3⟩
                                                    simp [this])]
        · rw [if_neg (by rw [decide_eq_false h]; simp)]
      simp only [e2, Option.bind_some, Sum.elim_inl]
      by_cases h3 : (m.Kind = 2 ∨ m.Kind = 3 ∨ m.Kind = 4 ∨ m.Kind = 6) ∧ (m.X.AsOf < 0 ∨ m.X.AsOf > 1099511627776)
      · rw [if_pos h3, if_pos (decide_eq_true h3.1), decide_eq_true h3.2]; rfl
      · rw [if_neg h3]
        have e3 : (if decide (m.Kind = 2 ∨ m.Kind = 3 ∨ m.Kind = 4 ∨ m.Kind = 6) = true then some (decide (m.X.AsOf < 0 ∨ m.X.AsOf > 1099511627776)) else some false : Option Bool) = some false := by
          by_cases h : m.Kind = 2 ∨ m.Kind = 3 ∨ m.Kind = 4 ∨ m.Kind = 6
          · rw [if_pos (decide_eq_true h), decide_eq_false (fun h4 => h3 ⟨h, h4⟩)]
          · rw [if_neg (by rw [decide_eq_false h]; simp)]
        simp only [e3, Option.bind_some, Bool.false_eq_true, if_false]
        by_cases h4 : m.Kind = 6
        · by_cases h5 : m.Found = true
          · simp [h4, h5]
          · simp [h4, h5]
        · simp [h4]
def onlyM (m : api_Msg) : api_Msg :=
  ⟨m.Kind, m.From, m.To, m.Epoch, if m.Kind = 5 ∨ m.Kind = 6 then m.Id else 0,
    if m.Kind = 6 ∧ m.Found = true then m.X else ⟨if m.Kind = 3 ∨ m.Kind = 4 ∨ m.Kind = 5 ∨ m.Kind = 6 then m.X.Key else [], 0, if m.Kind = 2 ∨ m.Kind = 3 ∨ m.Kind = 4 ∨ m.Kind = 6 then m.X.AsOf else 0, 0, []⟩,
    if m.Kind = 2 ∨ m.Kind = 6 then m.Found else false⟩
theorem only_eq (m : api_Msg) : butteryref23_only m = some (onlyM m) := by
  obtain ⟨k, f, t, e, i, ⟨key, ver, asf, ends, val⟩, fd⟩ := m
  unfold butteryref23_only onlyM
  simp only [lt_eq, lease_eq, hkey_eq, asof_eq, hfound_eq, Option.bind_some]
  by_cases h2 : k = 2
  · subst h2; cases fd <;> rfl
  by_cases h3 : k = 3
  · subst h3; cases fd <;> rfl
  by_cases h4 : k = 4
  · subst h4; cases fd <;> rfl
  by_cases h5 : k = 5
  · subst h5; cases fd <;> rfl
  by_cases h6 : k = 6
  · subst h6; cases fd <;> rfl
  simp [h2, h3, h4, h5, h6, z_api_Entry]
theorem ckK_range (k : List (BitVec 8)) : 0 ≤ ckK k := by
  unfold ckK
  repeat' split
  all_goals omega
theorem rcheck_eq {m : api_Msg} (hv : m.X.Value.length < 9223372036854775807) : butteryref23_Check m = some (ckM m) := by
  unfold butteryref23_Check ckM
  simp only [lt_eq, or_bool, Option.bind_some, fields_eq, only_eq, rsame_eq _ _ hv]
  by_cases h1 : m.Kind < 1 ∨ m.Kind > 6
  · simp only [h1, decide_true, if_true]
  · simp only [decide_eq_false h1, if_neg h1, Bool.false_eq_true, if_false]
    have hd : (if (m.Kind == 2) = true then some true else if (m.Kind == 3) = true then some true else some (m.Kind == 6) : Option Bool) = some (decide (m.Kind = 2 ∨ m.Kind = 3 ∨ m.Kind = 6)) := by
      by_cases a : m.Kind = 2
      · simp [a]
      · by_cases b : m.Kind = 3
        · simp [b]
        · by_cases c : m.Kind = 6
          · simp [c]
          · simp [a, b, c]
    have hf : (if decide (m.Kind = 2 ∨ m.Kind = 3 ∨ m.Kind = 6) = true then some (m.To, m.From) else some (m.From, m.To) : Option (Int × Int)) = some (ckF m) := by
      unfold ckF
      by_cases h : m.Kind = 2 ∨ m.Kind = 3 ∨ m.Kind = 6
      · rw [if_pos h, if_pos (decide_eq_true h)]
      · rw [if_neg h, if_neg (by rw [decide_eq_false h]; simp)]
    simp only [hd, hf, Option.bind_some]
    have h3 : ∀ (f : Int × Int), (if decide (f.1 < 1) = true then some true else if decide (f.1 > 16) = true then some true else if (f.2 != 0) = true then some true else some (decide (m.Epoch < 1 ∨ m.Epoch > 1099511627776)) : Option Bool) = some (decide (f.1 < 1 ∨ f.1 > 16 ∨ f.2 ≠ 0 ∨ m.Epoch < 1 ∨ m.Epoch > 1099511627776)) := fun f => by
      by_cases a : f.1 < 1
      · simp [a]
      · by_cases b : f.1 > 16
        · simp [a, b]
        · by_cases c : f.2 = 0
          · simp [a, b, c]
          · simp [a, b, c]
    simp only [h3, Option.bind_some]
    by_cases h2 : (ckF m).1 < 1 ∨ (ckF m).1 > 16 ∨ (ckF m).2 ≠ 0 ∨ m.Epoch < 1 ∨ m.Epoch > 1099511627776
    · rw [if_pos (decide_eq_true h2), if_pos h2]
    · rw [if_neg (by rw [decide_eq_false h2]; simp), if_neg h2]
      clear h2 h3 hd hf
      obtain ⟨k, f, t, e, i, ⟨key, ver, asf, ends, val⟩, fd⟩ := m
      have h0 : k = 1 ∨ k = 2 ∨ k = 3 ∨ k = 4 ∨ k = 5 ∨ k = 6 := by simp only at h1; omega
      clear h1 hv
      generalize hK : ckK key = K
      rcases h0 with rfl | rfl | rfl | rfl | rfl | rfl
      · simp [ptsA, ckL, onlyM, zeroE]
        by_cases a : i = 0 <;> by_cases b : fd = true <;> by_cases c : key = [] <;> by_cases d : ver = 0 <;> by_cases g : asf = 0 <;> by_cases h : ends = 0 <;> by_cases l : val = [] <;> simp [a, b, c, d, g, h, l]
      · by_cases g : asf < 0 ∨ asf > 1099511627776
        · simp [ptsA, ckL, stC, g]
        · simp [ptsA, ckL, stC, g, onlyM, zeroE]
          by_cases a : i = 0 <;> by_cases c : key = [] <;> by_cases d : ver = 0 <;> by_cases h : ends = 0 <;> by_cases l : val = [] <;> simp [a, c, d, h, l]
      · by_cases hk : K = 0
        · by_cases g : asf < 0 ∨ asf > 1099511627776
          · simp [ptsA, ckL, stC, g, hK, hk]
          · simp [ptsA, ckL, stC, g, onlyM, zeroE, hK, hk]
            by_cases a : i = 0 <;> by_cases b : fd = true <;> by_cases d : ver = 0 <;> by_cases h : ends = 0 <;> by_cases l : val = [] <;> simp [a, b, d, h, l]
        · simp [ptsA, ckL, stC, hK, hk]
      · by_cases hk : K = 0
        · by_cases g : asf < 0 ∨ asf > 1099511627776
          · simp [ptsA, ckL, stC, g, hK, hk]
          · simp [ptsA, ckL, stC, g, onlyM, zeroE, hK, hk]
            by_cases a : i = 0 <;> by_cases b : fd = true <;> by_cases d : ver = 0 <;> by_cases h : ends = 0 <;> by_cases l : val = [] <;> simp [a, b, d, h, l]
        · simp [ptsA, ckL, stC, hK, hk]
      · by_cases hi : i < 1 ∨ i > 1099511627776
        · simp [ptsA, ckL, stC, hi]
        · by_cases hk : K = 0
          · simp [ptsA, ckL, stC, hi, hK, hk, onlyM, zeroE]
            by_cases b : fd = true <;> by_cases d : ver = 0 <;> by_cases g : asf = 0 <;> by_cases h : ends = 0 <;> by_cases l : val = [] <;> simp [b, d, g, h, l]
          · simp [ptsA, ckL, stC, hi, hK, hk]
      · by_cases hi : i < 1 ∨ i > 1099511627776
        · simp [ptsA, ckL, stC, hi]
        · by_cases hk : K = 0
          · by_cases g : asf < 0 ∨ asf > 1099511627776
            · simp [ptsA, ckL, stC, hi, hK, hk, g]
            · by_cases b : fd = true
              · by_cases hx : ckE ⟨key, ver, asf, ends, val⟩ = 0
                · simp [ptsA, ckL, stC, hi, hK, hk, g, b, hx, onlyM, zeroE]
                · simp [ptsA, ckL, stC, hi, hK, hk, g, b, hx]
              · simp [ptsA, ckL, stC, hi, hK, hk, g, b, onlyM, zeroE]
                by_cases d : ver = 0 <;> by_cases h : ends = 0 <;> by_cases l : val = [] <;> simp [d, h, l]
          · simp [ptsA, ckL, stC, hi, hK, hk]
end Go.Proofs.YthkfilchighbhaaDoor
namespace Go.Proofs.YthkfilchighbhaaDoor
open Go Go.Va
set_option linter.unusedVariables false
set_option linter.unusedSimpArgs false
/-- The bytes of one part. -/
def stP (m : api_Msg) (c : BitVec 8) : List (BitVec 8) :=
  if c = 73#8 then num7 m.Id.toNat
  else if c = 75#8 then num7 m.X.Key.length ++ m.X.Key
  else if c = 65#8 then num7 m.X.AsOf.toNat
  else if c = 70#8 then num7 (if m.Found = true then 1 else 0)
  else if m.Found = true then num7 m.X.Version.toNat ++ (num7 m.X.Ends.toNat ++ (num7 m.X.Value.length ++ m.X.Value)) else []
def encM (m : api_Msg) : List (BitVec 8) := num7 m.Kind.toNat ++ (num7 m.From.toNat ++ (num7 m.To.toNat ++ (num7 m.Epoch.toNat ++ (ptsA m.Kind).flatMap (stP m))))
/-- What a message is with which nothing is wrong. -/
structure okM (m : api_Msg) : Prop where
  k1 : 1 ≤ m.Kind
  k6 : m.Kind ≤ 6
  f0 : 0 ≤ m.From
  f1 : m.From ≤ 16
  t0 : 0 ≤ m.To
  t1 : m.To ≤ 16
  e1 : 1 ≤ m.Epoch
  e2 : m.Epoch ≤ 1099511627776
  i : m.Kind = 5 ∨ m.Kind = 6 → 1 ≤ m.Id ∧ m.Id ≤ 1099511627776
  i0 : ¬ (m.Kind = 5 ∨ m.Kind = 6) → m.Id = 0
  key : m.Kind = 3 ∨ m.Kind = 4 ∨ m.Kind = 5 ∨ m.Kind = 6 → 1 ≤ m.X.Key.length ∧ m.X.Key.length ≤ 40
  key0 : ¬ (m.Kind = 3 ∨ m.Kind = 4 ∨ m.Kind = 5 ∨ m.Kind = 6) → m.X.Key = []
  a : m.Kind = 2 ∨ m.Kind = 3 ∨ m.Kind = 4 ∨ m.Kind = 6 → 0 ≤ m.X.AsOf ∧ m.X.AsOf ≤ 1099511627776
  a0 : ¬ (m.Kind = 2 ∨ m.Kind = 3 ∨ m.Kind = 4 ∨ m.Kind = 6) → m.X.AsOf = 0
  f : ¬ (m.Kind = 2 ∨ m.Kind = 6) → m.Found = false
  v : m.Kind = 6 → m.Found = true → ckE m.X = 0
  v0 : ¬ (m.Kind = 6 ∧ m.Found = true) → m.X.Version = 0 ∧ m.X.Ends = 0 ∧ m.X.Value = []
theorem ckK_ok {k : List (BitVec 8)} (h : ckK k = 0) : 1 ≤ k.length ∧ k.length ≤ 40 := by
  unfold ckK at h
  split at h
  · cases h
  · split at h
    · cases h
    · omega
theorem ckM_ok {m : api_Msg} (h : ckM m = 0) : okM m := by
  unfold ckM at h
  split at h
  · cases h
  rename_i h1
  split at h
  · cases h
  rename_i h2
  split at h
  · rename_i h3; exact absurd h h3
  rename_i h3
  split at h
  · cases h
  rename_i h4
  have h3' := Classical.not_not.1 h3
  clear h h3
  obtain ⟨k, f, t, e, i, ⟨key, ver, asf, ends, val⟩, fd⟩ := m
  unfold ckF at h2
  simp only at h1 h2 h3' h4
  have h0 : k = 1 ∨ k = 2 ∨ k = 3 ∨ k = 4 ∨ k = 5 ∨ k = 6 := by omega
  have hft : 0 ≤ f ∧ f ≤ 16 ∧ 0 ≤ t ∧ t ≤ 16 ∧ 1 ≤ e ∧ e ≤ 1099511627776 := by
    split at h2 <;> simp only at h2 <;> omega
  clear h2 h1
  have fin : ∀ {b : Bool}, ¬ b = true → b = false := fun {b} h => by simpa using h
  rcases h0 with rfl | rfl | rfl | rfl | rfl | rfl
  · simp [ptsA, ckL, zeroE] at h4
    obtain ⟨rfl, rfl, rfl, rfl, rfl, rfl, rfl⟩ := h4
    exact ⟨by simp, by simp, by simp only; omega, by simp only; omega, by simp only; omega, by simp only; omega, by simp only; omega, by simp only; omega, by simp, by simp, by simp, by simp, by simp, by simp, by simp, by simp, by simp⟩
  · by_cases g : asf < 0 ∨ asf > 1099511627776
    · simp [ptsA, ckL, stC, g] at h3'
    · simp [ptsA, ckL, stC, g, zeroE] at h4
      obtain ⟨rfl, rfl, rfl, rfl, rfl⟩ := h4
      exact ⟨by simp, by simp, by simp only; omega, by simp only; omega, by simp only; omega, by simp only; omega, by simp only; omega, by simp only; omega, by simp, by simp, by simp, by simp, fun _ => by simp only; omega, by simp, by simp, by simp, by simp⟩
  · by_cases hk : ckK key = 0
    · by_cases g : asf < 0 ∨ asf > 1099511627776
      · simp [ptsA, ckL, stC, g, hk] at h3'
      · simp [ptsA, ckL, stC, g, hk, zeroE] at h4
        obtain ⟨rfl, rfl, rfl, rfl, rfl⟩ := h4
        exact ⟨by simp, by simp, by simp only; omega, by simp only; omega, by simp only; omega, by simp only; omega, by simp only; omega, by simp only; omega, by simp, by simp, fun _ => ckK_ok hk, by simp, fun _ => by simp only; omega, by simp, by simp, by simp, by simp⟩
    · simp [ptsA, ckL, stC, hk] at h3'
  · by_cases hk : ckK key = 0
    · by_cases g : asf < 0 ∨ asf > 1099511627776
      · simp [ptsA, ckL, stC, g, hk] at h3'
      · simp [ptsA, ckL, stC, g, hk, zeroE] at h4
        obtain ⟨rfl, rfl, rfl, rfl, rfl⟩ := h4
        exact ⟨by simp, by simp, by simp only; omega, by simp only; omega, by simp only; omega, by simp only; omega, by simp only; omega, by simp only; omega, by simp, by simp, fun _ => ckK_ok hk, by simp, fun _ => by simp only; omega, by simp, by simp, by simp, by simp⟩
    · simp [ptsA, ckL, stC, hk] at h3'
  · by_cases hi : i < 1 ∨ i > 1099511627776
    · simp [ptsA, ckL, stC, hi] at h3'
    · by_cases hk : ckK key = 0
      · simp [ptsA, ckL, stC, hi, hk, zeroE] at h4
        obtain ⟨rfl, rfl, rfl, rfl, rfl⟩ := h4
        exact ⟨by simp, by simp, by simp only; omega, by simp only; omega, by simp only; omega, by simp only; omega, by simp only; omega, by simp only; omega, fun _ => by simp only; omega, by simp, fun _ => ckK_ok hk, by simp, by simp, by simp, by simp, by simp, by simp⟩
      · simp [ptsA, ckL, stC, hi, hk] at h3'
  · by_cases hi : i < 1 ∨ i > 1099511627776
    · simp [ptsA, ckL, stC, hi] at h3'
    · by_cases hk : ckK key = 0
      · by_cases g : asf < 0 ∨ asf > 1099511627776
        · simp [ptsA, ckL, stC, hi, hk, g] at h3'
        · by_cases b : fd = true
          · by_cases hx : ckE ⟨key, ver, asf, ends, val⟩ = 0
            · exact ⟨by simp, by simp, by simp only; omega, by simp only; omega, by simp only; omega, by simp only; omega, by simp only; omega, by simp only; omega, fun _ => by simp only; omega, by simp, fun _ => ckK_ok hk, by simp, fun _ => by simp only; omega, by simp, by simp, fun _ _ => hx, by simp [b]⟩
            · simp [ptsA, ckL, stC, hi, hk, g, b, hx] at h3'
          · simp [ptsA, ckL, stC, hi, hk, g, b, zeroE] at h4
            obtain ⟨rfl, rfl, rfl⟩ := h4
            exact ⟨by simp, by simp, by simp only; omega, by simp only; omega, by simp only; omega, by simp only; omega, by simp only; omega, by simp only; omega, fun _ => by simp only; omega, by simp, fun _ => ckK_ok hk, by simp, fun _ => by simp only; omega, by simp, by simp, by simp [b], by simp⟩
      · simp [ptsA, ckL, stC, hi, hk] at h3'
/-- One part is right to be put. -/
def okP (m : api_Msg) (c : BitVec 8) : Prop :=
  (c = 73#8 ∧ 0 ≤ m.Id ∧ m.Id ≤ 1099511627776) ∨ (c = 75#8 ∧ m.X.Key.length ≤ 40) ∨ (c = 65#8 ∧ 0 ≤ m.X.AsOf ∧ m.X.AsOf ≤ 1099511627776) ∨ c = 70#8 ∨ (c = 86#8 ∧ (m.Found = true → ckE m.X = 0))
theorem okM.pts {m : api_Msg} (h : okM m) : ∀ c ∈ ptsA m.Kind, okP m c := by
  intro c hc
  unfold ptsA at hc
  unfold okP
  have h1 := h.i
  have h2 := h.key
  have h3 := h.a
  have h4 := h.v
  split at hc
  · rename_i hk
    simp at hc
    have := h3 (by omega)
    rcases hc with rfl | rfl
    · simp; omega
    · simp
  · split at hc
    · rename_i hk
      simp at hc
      have := h3 (by omega)
      have := h2 (by omega)
      rcases hc with rfl | rfl
      · simp; omega
      · simp; omega
    · split at hc
      · rename_i hk
        simp at hc
        have := h1 (by omega)
        have := h2 (by omega)
        rcases hc with rfl | rfl
        · simp; omega
        · simp; omega
      · split at hc
        · rename_i hk
          simp at hc
          have := h1 (by omega)
          have := h2 (by omega)
          have := h3 (by omega)
          rcases hc with rfl | rfl | rfl | rfl | rfl
          · simp; omega
          · simp; omega
          · simp; omega
          · simp
          · simp; exact h4 hk
        · cases hc
theorem okP_is {m : api_Msg} {c : BitVec 8} (h : okP m c) : isP c := by
  unfold isP
  rcases h with ⟨h, _⟩ | ⟨h, _⟩ | ⟨h, _⟩ | h | ⟨h, _⟩ <;> simp [h]
theorem stP_len {m : api_Msg} {c : BitVec 8} (h : okP m c) : (stP m c).length ≤ 4200 := by
  unfold stP
  rcases h with ⟨rfl, h⟩ | ⟨rfl, h⟩ | ⟨rfl, h⟩ | rfl | ⟨rfl, h⟩
  · have := num7_len (n := m.Id.toNat) (by omega); simp; omega
  · have := num7_len (n := m.X.Key.length) (by omega); simp; omega
  · have := num7_len (n := m.X.AsOf.toNat) (by omega); simp; omega
  · have := num7_len (n := if m.Found = true then 1 else 0) (by split <;> omega); simp; omega
  · by_cases hf : m.Found = true
    · obtain ⟨h1, h2, h3, h4, h5, h6, h7, h8, h9⟩ := ck_ok (h hf)
      have i1 := num7_len (n := m.X.Version.toNat) (by omega)
      have i2 := num7_len (n := m.X.Ends.toNat) (by omega)
      have i3 := num7_len (n := m.X.Value.length) (by omega)
      simp [hf]; omega
    · simp [hf]
theorem toBytes_eq {x : List (BitVec 8)} (h : x.length ≤ 140737488355328) : toBytes x = some x := by unfold toBytes; rw [if_pos h]
theorem nums_1 (n : Int) : nums [n] = num7 n.toNat := by simp [nums]
theorem okN_1 {n : Int} (h : 0 ≤ n) (h1 : n ≤ 9223372036854775807) : okN [n] := ⟨by simp, fun m hm => by simp at hm; omega⟩
theorem put_l (m : api_Msg) : ∀ (l s : List (BitVec 8)) (p : Nat) (b : List (BitVec 8)), (∀ c ∈ l, okP m c) → s.drop p = l → b.length + 4200 * l.length ≤ 100000 →
    ∃ q, wire_Put_l0 m (b, (s, p)) = some (b ++ l.flatMap (stP m), q)
  | [], s, p, b, _, h, _ => ⟨(s, p), by
    refine loopO_out (body := fun s => wire_Put_b0 m s.1 s.2) ?_
    simp [wire_Put_b0, nxS_end h]⟩
  | c :: l, s, p, b, hl, h, hb => by
    have hc := hl c (List.mem_cons_self ..)
    obtain ⟨h1, h2⟩ := nxS_at (c := c) h (by rcases okP_is hc with rfl | rfl | rfl | rfl | rfl <;> decide)
    have hlen := stP_len hc
    simp only [List.length_cons] at hb
    have key : wire_Put_b0 m b (s, p) = some (.inl (b ++ stP m c, (s, p + 1))) := by
      simp only [wire_Put_b0, h1, Option.bind_some, Option.elim_some, lt_eq]
      unfold stP
      rcases hc with ⟨rfl, g0⟩ | ⟨rfl, g0⟩ | ⟨rfl, g0⟩ | rfl | ⟨rfl, g0⟩
      · simp only [show ((((73#8 : BitVec 8).toNat : Int)) == 73) = true from rfl, if_true]
        rw [octPut_eq _ (by omega) (okN_1 (by omega) (by omega)), nums_1]
        rfl
      · simp only [show ((((75#8 : BitVec 8).toNat : Int)) == 73) = false from rfl, show ((((75#8 : BitVec 8).toNat : Int)) == 75) = true from rfl, Bool.false_eq_true, if_false, if_true, show ¬ (75#8 : BitVec 8) = 73#8 by decide]
        rw [toBytes_eq (by omega)]
        simp only [Option.bind_some]
        rw [octBytes_eq _ _ (by omega) (by omega)]
        simp
      · simp only [show ((((65#8 : BitVec 8).toNat : Int)) == 73) = false from rfl, show ((((65#8 : BitVec 8).toNat : Int)) == 75) = false from rfl, show ((((65#8 : BitVec 8).toNat : Int)) == 65) = true from rfl, Bool.false_eq_true, if_false, if_true, show ¬ (65#8 : BitVec 8) = 73#8 by decide, show ¬ (65#8 : BitVec 8) = 75#8 by decide]
        rw [octPut_eq _ (by omega) (okN_1 (by omega) (by omega)), nums_1]
        rfl
      · simp only [show ((((70#8 : BitVec 8).toNat : Int)) == 73) = false from rfl, show ((((70#8 : BitVec 8).toNat : Int)) == 75) = false from rfl, show ((((70#8 : BitVec 8).toNat : Int)) == 65) = false from rfl, show ((((70#8 : BitVec 8).toNat : Int)) == 70) = true from rfl, Bool.false_eq_true, if_false, if_true, show ¬ (70#8 : BitVec 8) = 73#8 by decide, show ¬ (70#8 : BitVec 8) = 75#8 by decide, show ¬ (70#8 : BitVec 8) = 65#8 by decide]
        by_cases hf : m.Found = true
        · simp only [hf, if_true, Option.bind_some]
          rw [octPut_eq _ (by omega) (okN_1 (by omega) (by omega)), nums_1]
          rfl
        · simp only [hf, if_false, Option.bind_some, Bool.false_eq_true]
          rw [octPut_eq _ (by omega) (okN_1 (by omega) (by omega)), nums_1]
          rfl
      · simp only [show ((((86#8 : BitVec 8).toNat : Int)) == 73) = false from rfl, show ((((86#8 : BitVec 8).toNat : Int)) == 75) = false from rfl, show ((((86#8 : BitVec 8).toNat : Int)) == 65) = false from rfl, show ((((86#8 : BitVec 8).toNat : Int)) == 70) = false from rfl, show ((((86#8 : BitVec 8).toNat : Int)) == 86) = true from rfl, Bool.false_eq_true, if_false, if_true, show ¬ (86#8 : BitVec 8) = 73#8 by decide, show ¬ (86#8 : BitVec 8) = 75#8 by decide, show ¬ (86#8 : BitVec 8) = 65#8 by decide, show ¬ (86#8 : BitVec 8) = 70#8 by decide]
        by_cases hf : m.Found = true
        · obtain ⟨g1, g2, g3, g4, g5, g6, g7, g8, g9⟩ := ck_ok (g0 hf)
          simp only [hf, if_true]
          have hn : okN [m.X.Version, m.X.Ends] := ⟨by simp, fun n hn => by simp at hn; omega⟩
          rw [octPut_eq _ (by omega) hn]
          simp only [Option.bind_some]
          have := nums_len hn.2
          simp only [List.length_cons, List.length_nil] at this
          rw [octBytes_eq _ _ (by rw [List.length_append]; omega) (by omega)]
          simp [nums]
        · simp [hf]
    obtain ⟨q, hq⟩ := put_l m l s (p + 1) (b ++ stP m c) (fun d hd => hl d (List.mem_cons_of_mem _ hd)) h2 (by rw [List.length_append]; omega)
    refine ⟨q, ?_⟩
    rw [List.flatMap_cons, ← List.append_assoc, ← hq]
    exact loopO_in (body := fun s => wire_Put_b0 m s.1 s.2) key
theorem okM.head {m : api_Msg} (h : okM m) : okN [m.Kind, m.From, m.To, m.Epoch] := ⟨by simp, fun n hn => by
  have := h.k1; have := h.k6; have := h.f0; have := h.f1; have := h.t0; have := h.t1; have := h.e1; have := h.e2
  simp at hn; omega⟩
theorem okM.hlen {m : api_Msg} (h : okM m) : (nums [m.Kind, m.From, m.To, m.Epoch]).length ≤ 36 := by
  have := nums_len h.head.2
  simpa using this
theorem ptsA_len (k : Int) : (ptsA k).length ≤ 5 := by
  unfold ptsA
  repeat' split
  all_goals simp
theorem encM_eq (m : api_Msg) : encM m = nums [m.Kind, m.From, m.To, m.Epoch] ++ (ptsA m.Kind).flatMap (stP m) := by simp [encM, nums]
theorem flat_len {m : api_Msg} : ∀ {l : List (BitVec 8)}, (∀ c ∈ l, okP m c) → (l.flatMap (stP m)).length ≤ 4200 * l.length
  | [], _ => by simp
  | c :: l, h => by
    have h1 := stP_len (h c (List.mem_cons_self ..))
    have h2 := flat_len (l := l) (fun d hd => h d (List.mem_cons_of_mem _ hd))
    simp only [List.flatMap_cons, List.length_append, List.length_cons]
    omega
theorem encM_len {m : api_Msg} (h : okM m) : (encM m).length ≤ 21036 := by
  have h1 := h.hlen
  have h2 := flat_len h.pts
  have h3 := ptsA_len m.Kind
  rw [encM_eq, List.length_append]
  omega
theorem wput_eq (m : api_Msg) : (ckM m = 0 → wire_Put m = some (cseal (encM m), .nil)) ∧ (ckM m ≠ 0 → ∃ e, wire_Put m = some ([], e) ∧ codeOf e = ckM m ∧ e.isNil = false) := by
  obtain ⟨e, e1, e2, e3⟩ := wcheck_eq m
  unfold wire_Put
  simp only [lt_eq, e1, Option.bind_some, e3]
  constructor
  · intro h
    have ho := ckM_ok h
    rw [if_neg (by simp [h]), octPut_eq _ (by simp) ho.head]
    simp only [Option.bind_some, parts_eq, List.nil_append]
    have h1 := ho.hlen
    have h3 := ptsA_len m.Kind
    obtain ⟨q, hq⟩ := put_l m (ptsA m.Kind) (ptsA m.Kind) 0 (nums [m.Kind, m.From, m.To, m.Epoch]) ho.pts rfl (by omega)
    rw [hq]
    simp only [Option.bind_some]
    rw [← encM_eq, seal_eq (by have := encM_len ho; omega)]
    rfl
  · intro h
    have h5 : e.isNil = false := by rw [e3]; simp [h]
    rw [if_pos (by simp [h]), wrap_eq _ _ e h5]
    exact ⟨_, rfl, by simp [codeOf, e2], rfl⟩
theorem rput_eq {m : api_Msg} (hv : m.X.Value.length < 9223372036854775807) : butteryref23_Put m = some (if ckM m = 0 then (cseal (encM m), 0) else ([], ckM m)) := by
  unfold butteryref23_Put
  simp only [lt_eq, rcheck_eq hv, Option.bind_some]
  by_cases h : ckM m = 0
  · have ho := ckM_ok h
    rw [if_neg (by simp [h]), if_pos h, refPut_eq _ (by simp) ho.head]
    simp only [Option.bind_some, lease_eq, hkey_eq, asof_eq, hfound_eq, List.nil_append]
    have h1 := ho.hlen
    have hE := encM_len ho
    rw [encM_eq] at hE ⊢
    generalize nums [m.Kind, m.From, m.To, m.Epoch] = H at *
    have hi := ho.i; have hk := ho.key; have ha := ho.a; have hv := ho.v
    have hk1 := ho.k1; have hk6 := ho.k6
    clear ho h
    obtain ⟨k, f, t, e, i, x, fd⟩ := m
    simp only at *
    have h0 : k = 1 ∨ k = 2 ∨ k = 3 ∨ k = 4 ∨ k = 5 ∨ k = 6 := by omega
    have pN : ∀ (b : List (BitVec 8)) (n : Int), b.length ≤ 100000 → 0 ≤ n → n ≤ 1099511627776 → butteryref02_Put b [n] = some (b ++ num7 n.toNat) := fun b n hb hn hn2 => by rw [refPut_eq b (by omega) (okN_1 hn (by omega)), nums_1]
    have pB : ∀ (b t : List (BitVec 8)), b.length ≤ 100000 → t.length ≤ 5000 → butteryref02_Bytes b t = some (b ++ (num7 t.length ++ t)) := fun b t hb ht => by rw [refBytes_eq b t (by omega) (by omega), List.append_assoc]
    have pS : ∀ (b : List (BitVec 8)), b.length ≤ 100000 → butteryref03_Seal b = some (cseal b) := fun b hb => rcSeal_eq (by omega)
    have n9 : ∀ n : Int, 0 ≤ n → n ≤ 1099511627776 → (num7 n.toNat).length ≤ 9 := fun n h1 h2 => num7_len (by omega)
    rcases h0 with rfl | rfl | rfl | rfl | rfl | rfl
    · simp [ptsA, pS H (by omega)]
    · have g1 := ha (by omega)
      have l1 := n9 _ g1.1 g1.2
      have q1 := pN H _ (by omega) g1.1 g1.2
      cases fd
      · have q2 := pN (H ++ num7 x.AsOf.toNat) 0 (by simp only [List.length_append]; omega) (by decide) (by decide)
        have l2 := n9 0 (by decide) (by decide)
        have q3 := pS (H ++ num7 x.AsOf.toNat ++ num7 (0 : Int).toNat) (by simp only [List.length_append]; omega)
        simp only [Int.reduceEq, Int.reduceBEq, or_true, true_or, or_self, or_false, false_or, decide_true, decide_false, if_true, Bool.false_eq_true, if_false, Option.bind_some, q1, q2, q3, Bool.not_false]
        simp [ptsA, stP]
      · have q2 := pN (H ++ num7 x.AsOf.toNat) 1 (by simp only [List.length_append]; omega) (by decide) (by decide)
        have l2 := n9 1 (by decide) (by decide)
        have q3 := pS (H ++ num7 x.AsOf.toNat ++ num7 (1 : Int).toNat) (by simp only [List.length_append]; omega)
        simp only [Int.reduceEq, Int.reduceBEq, or_true, true_or, or_self, or_false, false_or, decide_true, decide_false, if_true, Bool.false_eq_true, if_false, Option.bind_some, q1, q2, q3, Bool.not_true]
        simp [ptsA, stP]
    · have g1 := ha (by omega)
      have g2 := hk (by omega)
      have l1 := n9 _ g1.1 g1.2
      have l2 := num7_len (n := x.Key.length) (by omega)
      simp [toBytes_eq (x := x.Key) (by omega), ptsA, pB H x.Key (by omega) (by omega), pN (H ++ (num7 x.Key.length ++ x.Key)) x.AsOf (by simp only [List.length_append]; omega) g1.1 g1.2]
      rw [pS _ (by simp only [List.length_append]; omega)]
      simp [stP]
    · have g1 := ha (by omega)
      have g2 := hk (by omega)
      have l1 := n9 _ g1.1 g1.2
      have l2 := num7_len (n := x.Key.length) (by omega)
      simp [toBytes_eq (x := x.Key) (by omega), ptsA, pB H x.Key (by omega) (by omega), pN (H ++ (num7 x.Key.length ++ x.Key)) x.AsOf (by simp only [List.length_append]; omega) g1.1 g1.2]
      rw [pS _ (by simp only [List.length_append]; omega)]
      simp [stP]
    · have g1 := hi (by omega)
      have g2 := hk (by omega)
      have l1 := n9 i (by omega) g1.2
      have l2 := num7_len (n := x.Key.length) (by omega)
      simp [toBytes_eq (x := x.Key) (by omega), ptsA, pN H i (by omega) (by omega) g1.2, pB (H ++ num7 i.toNat) x.Key (by simp only [List.length_append]; omega) (by omega)]
      rw [pS _ (by simp only [List.length_append]; omega)]
      simp [stP]
    · have g1 := hi (by omega)
      have g2 := hk (by omega)
      have g3 := ha (by omega)
      have l1 := n9 i (by omega) g1.2
      have l2 := num7_len (n := x.Key.length) (by omega)
      have l3 := n9 _ g3.1 g3.2
      have q1 := pN H i (by omega) (by omega) g1.2
      have q2 := pB (H ++ num7 i.toNat) x.Key (by simp only [List.length_append]; omega) (by omega)
      have q3 := pN (H ++ num7 i.toNat ++ (num7 x.Key.length ++ x.Key)) x.AsOf (by simp only [List.length_append]; omega) g3.1 g3.2
      cases fd
      · have q4 := pN (H ++ num7 i.toNat ++ (num7 x.Key.length ++ x.Key) ++ num7 x.AsOf.toNat) 0 (by simp only [List.length_append]; omega) (by decide) (by decide)
        have l4 := n9 0 (by decide) (by decide)
        have q5 := pS (H ++ num7 i.toNat ++ (num7 x.Key.length ++ x.Key) ++ num7 x.AsOf.toNat ++ num7 (0 : Int).toNat) (by simp only [List.length_append]; omega)
        simp only [toBytes_eq (x := x.Key) (by omega), Int.reduceEq, Int.reduceBEq, or_true, true_or, or_self, or_false, false_or, decide_true, decide_false, if_true, Bool.false_eq_true, if_false, Option.bind_some, q1, q2, q3, q4, q5, Bool.not_false]
        simp [ptsA, stP]
      · have g4 := hv rfl rfl
        obtain ⟨a1, a2, a3, a4, a5, a6, a7, a8, a9⟩ := ck_ok g4
        have q4 := pN (H ++ num7 i.toNat ++ (num7 x.Key.length ++ x.Key) ++ num7 x.AsOf.toNat) 1 (by simp only [List.length_append]; omega) (by decide) (by decide)
        have l4 := n9 1 (by decide) (by decide)
        have hn : okN [x.Version, x.Ends] := ⟨by simp, fun n hn => by simp at hn; omega⟩
        have l5 := nums_len hn.2
        simp only [List.length_cons, List.length_nil] at l5
        have q5 := refPut_eq (H ++ num7 i.toNat ++ (num7 x.Key.length ++ x.Key) ++ num7 x.AsOf.toNat ++ num7 (1 : Int).toNat) (l := [x.Version, x.Ends]) (by simp only [List.length_append]; omega) hn
        have l6 := num7_len (n := x.Value.length) (by omega)
        have q6 := pB (H ++ num7 i.toNat ++ (num7 x.Key.length ++ x.Key) ++ num7 x.AsOf.toNat ++ num7 (1 : Int).toNat ++ nums [x.Version, x.Ends]) x.Value (by simp only [List.length_append]; omega) (by omega)
        have q7 := pS (H ++ num7 i.toNat ++ (num7 x.Key.length ++ x.Key) ++ num7 x.AsOf.toNat ++ num7 (1 : Int).toNat ++ nums [x.Version, x.Ends] ++ (num7 x.Value.length ++ x.Value)) (by simp only [List.length_append]; omega)
        simp only [toBytes_eq (x := x.Key) (by omega), Int.reduceEq, Int.reduceBEq, or_true, true_or, or_self, or_false, false_or, decide_true, decide_false, if_true, Bool.false_eq_true, if_false, Option.bind_some, q1, q2, q3, q4, q5, q6, q7, Bool.not_true]
        simp [ptsA, stP, nums]
  · rw [if_pos (by simpa using h), if_neg h]
end Go.Proofs.YthkfilchighbhaaDoor
namespace Go.Proofs.YthkfilchighbhaaDoor
open Go Go.Va
set_option linter.unusedVariables false
set_option linter.unusedSimpArgs false
set_option maxRecDepth 20000
noncomputable def butteryref23_read (x0 : butteryref02_Reader) (x1 : api_Msg) : Option (butteryref02_Reader × api_Msg) :=
  lt ((x1 : api_Msg)) fun c8 =>
  (butteryref23_lease x1.Kind).bind fun v14 =>
  (
    if v14 = true then
      (butteryref02_Number (x0 : butteryref02_Reader) (1099511627776 : Int)).bind fun v21 =>
      lt (((v21.1 : butteryref02_Reader) : butteryref02_Reader)) fun c26 =>
      lt (({ c8 with Id := v21.2 } : api_Msg)) fun c29 =>
      some (c26, c29)
    else
      some ((x0 : butteryref02_Reader), c8)
   : Option (butteryref02_Reader × api_Msg)).bind fun s15 =>
    (butteryref23_key x1.Kind).bind fun v33 =>
    (
      if v33 = true then
        (butteryref02_Text s15.1 (40 : Int)).bind fun v40 =>
        lt (((v40.1 : butteryref02_Reader) : butteryref02_Reader)) fun c45 =>
        lt (({ s15.2 with X := { s15.2.X with Key := v40.2 } } : api_Msg)) fun c48 =>
        some (c45, c48)
      else
        some (s15.1, s15.2)
     : Option (butteryref02_Reader × api_Msg)).bind fun s34 =>
      (butteryref23_asof x1.Kind).bind fun v52 =>
      (
        if v52 = true then
          (butteryref02_Number s34.1 (1099511627776 : Int)).bind fun v59 =>
          lt (((v59.1 : butteryref02_Reader) : butteryref02_Reader)) fun c64 =>
          lt (({ s34.2 with X := { s34.2.X with AsOf := v59.2 } } : api_Msg)) fun c67 =>
          some (c64, c67)
        else
          some (s34.1, s34.2)
       : Option (butteryref02_Reader × api_Msg)).bind fun s53 =>
        (butteryref23_found x1.Kind).bind fun v71 =>
        (
          if v71 = true then
            (butteryref02_Number s53.1 (1 : Int)).bind fun v78 =>
            lt (((v78.1 : butteryref02_Reader) : butteryref02_Reader)) fun c83 =>
            lt (v78.2 == (1 : Int)) fun v86 =>
            lt (({ s53.2 with Found := v86 } : api_Msg)) fun c88 =>
            some (c83, c88)
          else
            some (s53.1, s53.2)
         : Option (butteryref02_Reader × api_Msg)).bind fun s72 =>
          (
            lt (x1.Kind == (6 : Int)) fun v96 =>
            if v96 = true then
              some s72.2.Found
            else
              some false
           : Option (Bool)).bind fun s91 =>
            if s91 = true then
              (butteryref02_Number s72.1 (1099511627776 : Int)).bind fun v101 =>
              (butteryref02_Number (v101.1 : butteryref02_Reader) (1099511627776 : Int)).bind fun v106 =>
              (butteryref02_Text (v106.1 : butteryref02_Reader) (4096 : Int)).bind fun v111 =>
              lt (((v111.1 : butteryref02_Reader) : butteryref02_Reader)) fun c116 =>
              lt (({ s72.2 with X := { s72.2.X with Version := v101.2 } } : api_Msg)) fun c119 =>
              lt (({ c119 with X := { c119.X with Ends := v106.2 } } : api_Msg)) fun c122 =>
              lt (({ c122 with X := { c122.X with Value := v111.2 } } : api_Msg)) fun c125 =>
              lt ((c125 : api_Msg)) fun c129 =>
              some ((c116 : butteryref02_Reader), c129)
            else
              lt ((s72.2 : api_Msg)) fun c133 =>
              some ((s72.1 : butteryref02_Reader), c133)
end Go.Proofs.YthkfilchighbhaaDoor
namespace Go.Proofs.YthkfilchighbhaaDoor
open Go Go.Va
set_option linter.unusedVariables false
set_option linter.unusedSimpArgs false
set_option maxRecDepth 20000
noncomputable def butteryref23_Get (x0 : List (BitVec 8)) : Option (api_Msg × Int) :=
  lt (((x0).length : Int)) fun v4 =>
  lt (decide (v4 < (4 : Int))) fun v6 =>
  if v6 = true then
    lt ((⟨(0 : Int), (0 : Int), (0 : Int), (0 : Int), (0 : Int), z_api_Entry, false⟩ : api_Msg)) fun v9 =>
    lt ((v9 : api_Msg)) fun c11 =>
    some (c11, (6 : Int))
  else
    (butteryref03_Fits x0).bind fun v14 =>
    lt (!v14) fun v16 =>
    if v16 = true then
      lt ((⟨(0 : Int), (0 : Int), (0 : Int), (0 : Int), (0 : Int), z_api_Entry, false⟩ : api_Msg)) fun v19 =>
      lt ((v19 : api_Msg)) fun c21 =>
      some (c21, (7 : Int))
    else
      lt (((x0).length : Int)) fun v24 =>
      lt (w64 (v24 - (4 : Int))) fun v26 =>
      (cutTo x0 v26).bind fun v28 =>
      lt ((⟨v28, (0 : Int), (0 : Int)⟩ : butteryref02_Reader)) fun v30 =>
      (butteryref02_Number v30 (6 : Int)).bind fun v32 =>
      (butteryref02_Number (v32.1 : butteryref02_Reader) (16 : Int)).bind fun v37 =>
      (butteryref02_Number (v37.1 : butteryref02_Reader) (16 : Int)).bind fun v42 =>
      (butteryref02_Number (v42.1 : butteryref02_Reader) (1099511627776 : Int)).bind fun v47 =>
      lt ((⟨v32.2, v37.2, v42.2, v47.2, (0 : Int), z_api_Entry, false⟩ : api_Msg)) fun v52 =>
      (butteryref23_read (v47.1 : butteryref02_Reader) v52).bind fun v54 =>
      lt ((v54.2 : api_Msg)) fun c61 =>
      (butteryref02_End (v54.1 : butteryref02_Reader)).bind fun v64 =>
      lt (v64 != (0 : Int)) fun v66 =>
      if v66 = true then
        lt ((⟨(0 : Int), (0 : Int), (0 : Int), (0 : Int), (0 : Int), z_api_Entry, false⟩ : api_Msg)) fun v69 =>
        lt ((v69 : api_Msg)) fun c71 =>
        some (c71, v64)
      else
        (butteryref23_Check c61).bind fun v74 =>
        lt (v74 != (0 : Int)) fun v76 =>
        if v76 = true then
          lt ((⟨(0 : Int), (0 : Int), (0 : Int), (0 : Int), (0 : Int), z_api_Entry, false⟩ : api_Msg)) fun v79 =>
          lt ((v79 : api_Msg)) fun c81 =>
          some (c81, v74)
        else
          lt ((c61 : api_Msg)) fun c84 =>
          some (c84, (0 : Int))
end Go.Proofs.YthkfilchighbhaaDoor
namespace Go.Proofs.YthkfilchighbhaaDoor
open Go Go.Va
set_option linter.unusedVariables false
set_option linter.unusedSimpArgs false
/-- One part, read. -/
def gS (b : List (BitVec 8)) (c : BitVec 8) (m : api_Msg) (r : rdr) : api_Msg × rdr :=
  if c = 73#8 then ({ m with Id := (rN b r 1099511627776).1 }, (rN b r 1099511627776).2)
  else if c = 75#8 then ({ m with X := { m.X with Key := (rB b r 40).1 } }, (rB b r 40).2)
  else if c = 65#8 then ({ m with X := { m.X with AsOf := (rN b r 1099511627776).1 } }, (rN b r 1099511627776).2)
  else if c = 70#8 then ({ m with Found := ((rN b r 1).1 : Int) == 1 }, (rN b r 1).2)
  else if m.Found = true then
    ({ m with X := { m.X with Version := (rN b r 1099511627776).1, Ends := (rN b (rN b r 1099511627776).2 1099511627776).1, Value := (rB b (rN b (rN b r 1099511627776).2 1099511627776).2 4096).1 } }, (rB b (rN b (rN b r 1099511627776).2 1099511627776).2 4096).2)
  else (m, r)
def gL (b : List (BitVec 8)) : List (BitVec 8) → api_Msg → rdr → api_Msg × rdr
  | [], m, r => (m, r)
  | c :: l, m, r => gL b l (gS b c m r).1 (gS b c m r).2
/-- The same, up to the first thing that is wrong. -/
def gW (b : List (BitVec 8)) : List (BitVec 8) → api_Msg → rdr → api_Msg × rdr
  | [], m, r => (m, r)
  | c :: l, m, r => if r.e ≠ 0 then (m, r) else gW b l (gS b c m r).1 (gS b c m r).2
theorem rN_bad {b : List (BitVec 8)} {r : rdr} {m : Nat} (h : r.e ≠ 0) : rN b r m = (0, r) := by unfold rN; rw [if_neg h]
theorem rB_bad {b : List (BitVec 8)} {r : rdr} {m : Nat} (h : r.e ≠ 0) : rB b r m = ([], r) := by unfold rB; rw [if_neg h]
theorem gS_bad {b : List (BitVec 8)} {c : BitVec 8} {m : api_Msg} {r : rdr} (h : r.e ≠ 0) : (gS b c m r).2 = r := by
  unfold gS
  simp only [rN_bad h, rB_bad h]
  repeat' split
  all_goals rfl
theorem gL_bad {b : List (BitVec 8)} {r : rdr} (h : r.e ≠ 0) : ∀ (l : List (BitVec 8)) (m : api_Msg), (gL b l m r).2 = r
  | [], m => rfl
  | c :: l, m => by
    simp only [gL]
    rw [gS_bad h]
    exact gL_bad h l _
theorem gW_eq {b : List (BitVec 8)} : ∀ (l : List (BitVec 8)) (m : api_Msg) (r : rdr), (gW b l m r).2 = (gL b l m r).2 ∧ ((gL b l m r).2.e = 0 → gW b l m r = gL b l m r)
  | [], m, r => ⟨rfl, fun _ => rfl⟩
  | c :: l, m, r => by
    by_cases h : r.e = 0
    · simp only [gW, gL]
      rw [if_neg (by simp [h])]
      exact gW_eq l _ _
    · have hb : (gL b (c :: l) m r).2 = r := gL_bad h _ _
      simp only [gW]
      rw [if_pos h, hb]
      exact ⟨rfl, fun h2 => absurd h2 h⟩
theorem gS_le {b : List (BitVec 8)} {c : BitVec 8} {m : api_Msg} {r : rdr} (hr : r.a ≤ b.length) : (gS b c m r).2.a ≤ b.length := by
  unfold gS
  have h1 := rN_le hr 1099511627776
  have h2 := rN_le h1.1 1099511627776
  have h3 := rB_le h2.1 4096
  have h4 := rB_le hr 40
  have h5 := rN_le hr 1
  repeat' split
  · exact h1.1
  · exact h4.1
  · exact h1.1
  · exact h5.1
  · exact h3.1
  · exact hr
theorem gL_le {b : List (BitVec 8)} : ∀ (l : List (BitVec 8)) (m : api_Msg) {r : rdr}, r.a ≤ b.length → (gL b l m r).2.a ≤ b.length
  | [], m, r, h => h
  | c :: l, m, r, h => gL_le l _ (gS_le h)
theorem get_l {b : List (BitVec 8)} (hb : b.length ≤ 1000000) (x : List (BitVec 8)) : ∀ (l s : List (BitVec 8)) (p : Nat) (m : api_Msg) (r : rdr), (∀ c ∈ l, isP c) → s.drop p = l → r.a ≤ b.length →
    ∃ q, wire_Get_l0 x ((s, p), m, r.o b) = some (q, (gW b l m r).1, (gW b l m r).2.o b)
  | [], s, p, m, r, _, h, _ => ⟨(s, p), by
    refine loopO_out (body := fun s => wire_Get_b0 x s.1 s.2.1 s.2.2) ?_
    simp only [wire_Get_b0, nxS_end h, Option.bind_some, Option.elim_none, gW]⟩
  | c :: l, s, p, m, r, hl, h, hr => by
    have hc := hl c (List.mem_cons_self ..)
    obtain ⟨h1, h2⟩ := nxS_at (c := c) h (by rcases hc with rfl | rfl | rfl | rfl | rfl <;> decide)
    have hcode : octets_Reader_Code (r.o b) = some r.e := rfl
    by_cases he : r.e = 0
    · have key : wire_Get_b0 x (s, p) m (r.o b) = some (.inl ((s, p + 1), (gS b c m r).1, (gS b c m r).2.o b)) := by
        simp only [wire_Get_b0, h1, Option.bind_some, Option.elim_some, lt_eq, hcode, he, bne_self_eq_false, Bool.false_eq_true, if_false]
        unfold gS
        have l1 := rN_le hr 1099511627776
        have l2 := rN_le l1.1 1099511627776
        rcases hc with rfl | rfl | rfl | rfl | rfl
        · simp only [show ((((73#8 : BitVec 8).toNat : Int)) == 73) = true from rfl, if_true]
          rw [show (1099511627776 : Int) = ((1099511627776 : Nat) : Int) from rfl, octN_r hb hr (by omega)]
          rfl
        · simp only [show ((((75#8 : BitVec 8).toNat : Int)) == 73) = false from rfl, show ((((75#8 : BitVec 8).toNat : Int)) == 75) = true from rfl, Bool.false_eq_true, if_false, if_true, show ¬ (75#8 : BitVec 8) = 73#8 by decide]
          rw [show (40 : Int) = ((40 : Nat) : Int) from rfl, octB_r hb hr (by omega)]
          rfl
        · simp only [show ((((65#8 : BitVec 8).toNat : Int)) == 73) = false from rfl, show ((((65#8 : BitVec 8).toNat : Int)) == 75) = false from rfl, show ((((65#8 : BitVec 8).toNat : Int)) == 65) = true from rfl, Bool.false_eq_true, if_false, if_true, show ¬ (65#8 : BitVec 8) = 73#8 by decide, show ¬ (65#8 : BitVec 8) = 75#8 by decide]
          rw [show (1099511627776 : Int) = ((1099511627776 : Nat) : Int) from rfl, octN_r hb hr (by omega)]
          rfl
        · simp only [show ((((70#8 : BitVec 8).toNat : Int)) == 73) = false from rfl, show ((((70#8 : BitVec 8).toNat : Int)) == 75) = false from rfl, show ((((70#8 : BitVec 8).toNat : Int)) == 65) = false from rfl, show ((((70#8 : BitVec 8).toNat : Int)) == 70) = true from rfl, Bool.false_eq_true, if_false, if_true, show ¬ (70#8 : BitVec 8) = 73#8 by decide, show ¬ (70#8 : BitVec 8) = 75#8 by decide, show ¬ (70#8 : BitVec 8) = 65#8 by decide]
          have h5 := octN_r hb hr (m := 1) (by omega)
          rw [show ((1 : Nat) : Int) = 1 from rfl] at h5
          rw [h5]
          rfl
        · simp only [show ((((86#8 : BitVec 8).toNat : Int)) == 73) = false from rfl, show ((((86#8 : BitVec 8).toNat : Int)) == 75) = false from rfl, show ((((86#8 : BitVec 8).toNat : Int)) == 65) = false from rfl, show ((((86#8 : BitVec 8).toNat : Int)) == 70) = false from rfl, show ((((86#8 : BitVec 8).toNat : Int)) == 86) = true from rfl, Bool.false_eq_true, if_false, if_true, show ¬ (86#8 : BitVec 8) = 73#8 by decide, show ¬ (86#8 : BitVec 8) = 75#8 by decide, show ¬ (86#8 : BitVec 8) = 65#8 by decide, show ¬ (86#8 : BitVec 8) = 70#8 by decide]
          by_cases hf : m.Found = true
          · rw [if_pos hf, if_pos hf, show (1099511627776 : Int) = ((1099511627776 : Nat) : Int) from rfl, octN_r hb hr (by omega)]
            simp only [Option.bind_some]
            rw [octN_r hb l1.1 (by omega)]
            simp only [Option.bind_some]
            rw [show (4096 : Int) = ((4096 : Nat) : Int) from rfl, octB_r hb l2.1 (by omega)]
            rfl
          · rw [if_neg hf, if_neg hf]
      obtain ⟨q, hq⟩ := get_l hb x l s (p + 1) (gS b c m r).1 (gS b c m r).2 (fun d hd => hl d (List.mem_cons_of_mem _ hd)) h2 (gS_le hr)
      refine ⟨q, ?_⟩
      simp only [gW]
      rw [if_neg (by simp [he]), ← hq]
      exact loopO_in (body := fun s => wire_Get_b0 x s.1 s.2.1 s.2.2) key
    · refine ⟨(s, p + 1), loopO_out (body := fun s => wire_Get_b0 x s.1 s.2.1 s.2.2) ?_⟩
      simp only [wire_Get_b0, h1, Option.bind_some, Option.elim_some, lt_eq, hcode, gW]
      rw [if_pos (by simpa using he), if_pos he]
def zeroM : api_Msg := ⟨0, 0, 0, 0, 0, zeroE, false⟩
/-- The message's head. -/
def hdM (b : List (BitVec 8)) : api_Msg × rdr :=
  (⟨(rN b ⟨0, 0⟩ 6).1, (rN b (rN b ⟨0, 0⟩ 6).2 16).1, (rN b (rN b (rN b ⟨0, 0⟩ 6).2 16).2 16).1, (rN b (rN b (rN b (rN b ⟨0, 0⟩ 6).2 16).2 16).2 1099511627776).1, 0, zeroE, false⟩, (rN b (rN b (rN b (rN b ⟨0, 0⟩ 6).2 16).2 16).2 1099511627776).2)
def bdM (b : List (BitVec 8)) : api_Msg × rdr := gL b (ptsA (hdM b).1.Kind) (hdM b).1 (hdM b).2
def endC (b : List (BitVec 8)) (r : rdr) : Int := if r.e = 0 ∧ r.a < b.length then 5 else r.e
/-- Which message bytes are. -/
def decM (b : List (BitVec 8)) : api_Msg × Int :=
  if b.length < 4 then (zeroM, 6) else if cfits b = false then (zeroM, 7) else
  if endC (b.take (b.length - 4)) (bdM (b.take (b.length - 4))).2 ≠ 0 then (zeroM, endC (b.take (b.length - 4)) (bdM (b.take (b.length - 4))).2) else
  if ckM (bdM (b.take (b.length - 4))).1 ≠ 0 then (zeroM, ckM (bdM (b.take (b.length - 4))).1) else ((bdM (b.take (b.length - 4))).1, 0)
theorem hdM_le (b : List (BitVec 8)) : (hdM b).2.a ≤ b.length := by
  have h1 := rN_le (b := b) (r := ⟨0, 0⟩) (by simp) 6
  have h2 := rN_le h1.1 16
  have h3 := rN_le h2.1 16
  exact (rN_le h3.1 1099511627776).1
theorem wget_eq {b : List (BitVec 8)} (hb : b.length ≤ 900000) : ∃ e, wire_Get b = some ((decM b).1, e) ∧ codeOf e = (decM b).2 ∧ e.isNil = decide ((decM b).2 = 0) := by
  unfold wire_Get decM
  simp only [lt_eq]
  by_cases h4 : b.length < 4
  · rw [if_pos (decide_eq_true (by omega)), if_pos h4, new_eq _ _ (6 : Int) (by decide)]
    exact ⟨_, rfl, rfl, rfl⟩
  · rw [if_neg (by rw [decide_eq_false (by omega)]; simp), if_neg h4, fits_eq (by omega)]
    simp only [Option.bind_some]
    cases hfit : cfits b with
    | false =>
      rw [if_pos rfl, new_eq _ _ (7 : Int) (by decide)]
      exact ⟨_, rfl, rfl, rfl⟩
    | true =>
      rw [if_neg (by simp), w64_eq (by omega) (by omega), show (b.length : Int) - 4 = ((b.length - 4 : Nat) : Int) by omega, cutTo_eq (by omega)]
      simp only [Option.bind_some]
      have hc : (b.take (b.length - 4)).length ≤ 900000 := by rw [List.length_take]; omega
      generalize b.take (b.length - 4) = c at *
      rw [read_eq (by omega)]
      simp only [Option.bind_some]
      have h1 := rN_le (b := c) (r := ⟨0, 0⟩) (by simp) 6
      have h2 := rN_le h1.1 16
      have h3 := rN_le h2.1 16
      have hle := hdM_le c
      have k1 := octN_r (b := c) (r := ⟨0, 0⟩) (by omega) (by simp) (m := 6) (by omega)
      have k2 := octN_r (b := c) (by omega) h1.1 (m := 16) (by omega)
      have k3 := octN_r (b := c) (by omega) h2.1 (m := 16) (by omega)
      have k4 := octN_r (b := c) (by omega) h3.1 (m := 1099511627776) (by omega)
      have e0 : (⟨c, 0, 0⟩ : octets_Reader) = rdr.o ⟨0, 0⟩ c := rfl
      rw [e0, show (6 : Int) = ((6 : Nat) : Int) from rfl, k1]
      simp only [Option.bind_some]
      rw [show (16 : Int) = ((16 : Nat) : Int) from rfl, k2]
      simp only [Option.bind_some]
      rw [k3]
      simp only [Option.bind_some]
      rw [show (1099511627776 : Int) = ((1099511627776 : Nat) : Int) from rfl, k4]
      simp only [Option.bind_some]
      rw [parts_eq]
      simp only [Option.bind_some]
      obtain ⟨q, hq⟩ := get_l (b := c) (by omega) b (ptsA (hdM c).1.Kind) (ptsA (hdM c).1.Kind) 0 (hdM c).1 (hdM c).2 (ptsA_is _) rfl hle
      have hq' := hq
      unfold hdM at hq
      simp only at hq
      have ez : z_api_Entry = zeroE := rfl
      simp only [z_api_Msg, ez, hq, Option.bind_some]
      have hg := gW_eq (b := c) (ptsA (hdM c).1.Kind) (hdM c).1 (hdM c).2
      have hgl := gL_le (b := c) (ptsA (hdM c).1.Kind) (hdM c).1 hle
      have ew : gW c (ptsA ((rN c ⟨0, 0⟩ 6).1 : Int)) ⟨((rN c ⟨0, 0⟩ 6).1 : Int), ((rN c (rN c ⟨0, 0⟩ 6).2 16).1 : Int), ((rN c (rN c (rN c ⟨0, 0⟩ 6).2 16).2 16).1 : Int), ((rN c (rN c (rN c (rN c ⟨0, 0⟩ 6).2 16).2 16).2 1099511627776).1 : Int), 0, zeroE, false⟩ (rN c (rN c (rN c (rN c ⟨0, 0⟩ 6).2 16).2 16).2 1099511627776).2 = gW c (ptsA (hdM c).1.Kind) (hdM c).1 (hdM c).2 := rfl
      rw [ew]
      unfold bdM
      generalize gW c (ptsA (hdM c).1.Kind) (hdM c).1 (hdM c).2 = W at *
      generalize gL c (ptsA (hdM c).1.Kind) (hdM c).1 (hdM c).2 = L at *
      obtain ⟨g1, g2⟩ := hg
      rw [g1]
      have he := end_eq (b := c) (a := L.2.a) (e := L.2.e) (by omega) hgl
      have he' : octets_Reader_End (L.2.o c) = some (endC c L.2, ⟨c, L.2.a, endC c L.2⟩) := he
      rw [he']
      simp only [Option.bind_some]
      by_cases h5 : endC c L.2 = 0
      · have b5 : (endC c L.2 != 0) = false := by simp [h5]
        simp only [b5, h5, Bool.false_eq_true, if_false, ne_eq, not_true_eq_false]
        have h6 : L.2.e = 0 := by
          unfold endC at h5
          split at h5
          · cases h5
          · exact h5
        rw [g2 h6]
        obtain ⟨e, e1, e2, e3⟩ := wcheck_eq L.1
        simp only [e1, Option.bind_some, e3]
        by_cases h7 : ckM L.1 = 0
        · simp only [h7, decide_true, Bool.not_true, Bool.false_eq_true, if_false, not_true_eq_false]
          exact ⟨_, rfl, rfl, rfl⟩
        · have h8 : e.isNil = false := by rw [e3]; simp [h7]
          simp only [h7, decide_false, Bool.not_false, if_true, not_false_eq_true, wrap_eq _ _ e h8, Option.bind_some]
          exact ⟨_, rfl, by simp [codeOf, e2], by simp [Err.isNil, h7]⟩
      · have b5 : (endC c L.2 != 0) = true := by simpa using h5
        have ha : octets_Reader_At ⟨c, L.2.a, endC c L.2⟩ = some (L.2.a : Int) := rfl
        simp only [b5, h5, if_true, ne_eq, not_false_eq_true, ha, Option.bind_some, new_eq _ _ _ h5]
        exact ⟨_, rfl, by simp [codeOf, h5], by simp [Err.isNil, h5]⟩
end Go.Proofs.YthkfilchighbhaaDoor
namespace Go.Proofs.YthkfilchighbhaaDoor
open Go Go.Va
set_option linter.unusedVariables false
set_option linter.unusedSimpArgs false
theorem ptsA_cases (k : Int) : (k = 2 ∧ ptsA k = [65#8, 70#8]) ∨ ((k = 3 ∨ k = 4) ∧ ptsA k = [75#8, 65#8]) ∨ (k = 5 ∧ ptsA k = [73#8, 75#8]) ∨ (k = 6 ∧ ptsA k = [73#8, 75#8, 65#8, 70#8, 86#8]) ∨ (k ≠ 2 ∧ k ≠ 3 ∧ k ≠ 4 ∧ k ≠ 5 ∧ k ≠ 6 ∧ ptsA k = []) := by
  by_cases h2 : k = 2
  · exact .inl ⟨h2, by rw [h2]; rfl⟩
  by_cases h3 : k = 3
  · exact .inr (.inl ⟨.inl h3, by rw [h3]; rfl⟩)
  by_cases h4 : k = 4
  · exact .inr (.inl ⟨.inr h4, by rw [h4]; rfl⟩)
  by_cases h5 : k = 5
  · exact .inr (.inr (.inl ⟨h5, by rw [h5]; rfl⟩))
  by_cases h6 : k = 6
  · exact .inr (.inr (.inr (.inl ⟨h6, by rw [h6]; rfl⟩)))
  exact .inr (.inr (.inr (.inr ⟨h2, h3, h4, h5, h6, by simp [ptsA, h2, h3, h4, h5, h6]⟩)))
theorem read_eq23 {b : List (BitVec 8)} (hb : b.length ≤ 900000) (m : api_Msg) {r : rdr} (hr : r.a ≤ b.length) : butteryref23_read (r.x b) m = some ((gL b (ptsA m.Kind) m r).2.x b, (gL b (ptsA m.Kind) m r).1) := by
  have N1 : ∀ {r : rdr}, r.a ≤ b.length → butteryref02_Number (r.x b) 1099511627776 = some ((rN b r 1099511627776).2.x b, ((rN b r 1099511627776).1 : Int)) := fun h => refN_r (by omega) h (m := 1099511627776) (by omega)
  have N2 : ∀ {r : rdr}, r.a ≤ b.length → butteryref02_Number (r.x b) 1 = some ((rN b r 1).2.x b, ((rN b r 1).1 : Int)) := fun h => refN_r (by omega) h (m := 1) (by omega)
  have B1 : ∀ {r : rdr}, r.a ≤ b.length → butteryref02_Text (r.x b) 40 = some ((rB b r 40).2.x b, (rB b r 40).1) := fun h => refB_r (by omega) h (m := 40) (by omega)
  have B2 : ∀ {r : rdr}, r.a ≤ b.length → butteryref02_Text (r.x b) 4096 = some ((rB b r 4096).2.x b, (rB b r 4096).1) := fun h => refB_r (by omega) h (m := 4096) (by omega)
  unfold butteryref23_read
  obtain ⟨k, f, t, e, i, x, fd⟩ := m
  simp only [lt_eq, lease_eq, hkey_eq, asof_eq, hfound_eq, Option.bind_some]
  rcases ptsA_cases k with ⟨rfl, hp⟩ | ⟨hk, hp⟩ | ⟨rfl, hp⟩ | ⟨rfl, hp⟩ | ⟨h2, h3, h4, h5, h6, hp⟩
  · have l1 := (rN_le hr 1099511627776).1
    rw [hp]
    simp only [Int.reduceEq, Int.reduceBEq, or_true, true_or, or_self, or_false, false_or, decide_true, decide_false, if_true, Bool.false_eq_true, if_false, Option.bind_some, N1 hr, N2 l1]
    simp [gL, gS]
  · have l1 := (rB_le hr 40).1
    have l2 := (rN_le l1 1099511627776).1
    rw [hp]
    rcases hk with rfl | rfl <;> simp only [Int.reduceEq, Int.reduceBEq, or_true, true_or, or_self, or_false, false_or, decide_true, decide_false, if_true, Bool.false_eq_true, if_false, Option.bind_some, B1 hr, N1 l1] <;> simp [gL, gS]
  · have l1 := (rN_le hr 1099511627776).1
    rw [hp]
    simp only [Int.reduceEq, Int.reduceBEq, or_true, true_or, or_self, or_false, false_or, decide_true, decide_false, if_true, Bool.false_eq_true, if_false, Option.bind_some, N1 hr, B1 l1]
    simp [gL, gS]
  · have l1 := (rN_le hr 1099511627776).1
    have l2 := (rB_le l1 40).1
    have l3 := (rN_le l2 1099511627776).1
    have l4 := (rN_le l3 1).1
    have l5 := (rN_le l4 1099511627776).1
    have l6 := (rN_le l5 1099511627776).1
    rw [hp]
    simp only [Int.reduceEq, Int.reduceBEq, or_true, true_or, or_self, or_false, false_or, decide_true, decide_false, if_true, Bool.false_eq_true, if_false, Option.bind_some, N1 hr, B1 l1, N1 l2, N2 l3]
    simp only [gL, gS, if_true, show ¬ (75#8 : BitVec 8) = 73#8 by decide, show ¬ (65#8 : BitVec 8) = 73#8 by decide, show ¬ (65#8 : BitVec 8) = 75#8 by decide, show ¬ (70#8 : BitVec 8) = 73#8 by decide, show ¬ (70#8 : BitVec 8) = 75#8 by decide, show ¬ (70#8 : BitVec 8) = 65#8 by decide, show ¬ (86#8 : BitVec 8) = 73#8 by decide, show ¬ (86#8 : BitVec 8) = 75#8 by decide, show ¬ (86#8 : BitVec 8) = 65#8 by decide, show ¬ (86#8 : BitVec 8) = 70#8 by decide, if_false]
    cases hf : (((rN b (rN b (rB b (rN b r 1099511627776).2 40).2 1099511627776).2 1).1 : Int) == 1) with
    | true => simp only [if_true, N1 l4, N1 l5, B2 l6, Option.bind_some]
    | false => simp only [Bool.false_eq_true, if_false, Option.bind_some]
  · have hb : (k == 6) = false := by simpa using h6
    rw [hp]
    simp only [h2, h3, h4, h5, h6, or_self, decide_false, Bool.false_eq_true, if_false, Option.bind_some, hb]
    simp [gL]
theorem rN_Kind (b : List (BitVec 8)) : 0 ≤ (hdM b).1.Kind := by simp only [hdM]; omega
theorem gS_val {b : List (BitVec 8)} {c : BitVec 8} {m : api_Msg} {r : rdr} (hr : r.a ≤ b.length) (hm : m.X.Value.length ≤ b.length) : (gS b c m r).1.X.Value.length ≤ b.length := by
  unfold gS
  have h1 := rN_le hr 1099511627776
  have h2 := rN_le h1.1 1099511627776
  have h3 := rB_le h2.1 4096
  repeat' split
  all_goals first | exact hm | exact h3.2.2
theorem gL_val {b : List (BitVec 8)} : ∀ (l : List (BitVec 8)) (m : api_Msg) {r : rdr}, r.a ≤ b.length → m.X.Value.length ≤ b.length → (gL b l m r).1.X.Value.length ≤ b.length
  | [], m, r, h, hm => hm
  | c :: l, m, r, h, hm => gL_val l _ (gS_le h) (gS_val h hm)
theorem rget_eq {b : List (BitVec 8)} (hb : b.length ≤ 900000) : butteryref23_Get b = some (decM b) := by
  unfold butteryref23_Get decM
  simp only [lt_eq]
  by_cases h4 : b.length < 4
  · rw [if_pos (decide_eq_true (by omega)), if_pos h4]; rfl
  · rw [if_neg (by rw [decide_eq_false (by omega)]; simp), if_neg h4, rcFits_eq (by omega)]
    simp only [Option.bind_some]
    cases hfit : cfits b with
    | false =>
      rw [if_pos rfl]; rfl
    | true =>
      rw [if_neg (by simp), w64_eq (by omega) (by omega), show (b.length : Int) - 4 = ((b.length - 4 : Nat) : Int) by omega, cutTo_eq (by omega)]
      simp only [Option.bind_some]
      have hc : (b.take (b.length - 4)).length ≤ 900000 := by rw [List.length_take]; omega
      generalize b.take (b.length - 4) = c at *
      have h1 := rN_le (b := c) (r := ⟨0, 0⟩) (by simp) 6
      have h2 := rN_le h1.1 16
      have h3 := rN_le h2.1 16
      have hle := hdM_le c
      have k1 := refN_r (b := c) (r := ⟨0, 0⟩) (by omega) (by simp) (m := 6) (by omega)
      have k2 := refN_r (b := c) (by omega) h1.1 (m := 16) (by omega)
      have k3 := refN_r (b := c) (by omega) h2.1 (m := 16) (by omega)
      have k4 := refN_r (b := c) (by omega) h3.1 (m := 1099511627776) (by omega)
      have e0 : (⟨c, 0, 0⟩ : butteryref02_Reader) = rdr.x ⟨0, 0⟩ c := rfl
      rw [e0, show (6 : Int) = ((6 : Nat) : Int) from rfl, k1]
      simp only [Option.bind_some]
      rw [show (16 : Int) = ((16 : Nat) : Int) from rfl, k2]
      simp only [Option.bind_some]
      rw [k3]
      simp only [Option.bind_some]
      rw [show (1099511627776 : Int) = ((1099511627776 : Nat) : Int) from rfl, k4]
      simp only [Option.bind_some]
      have hr := read_eq23 (b := c) (by omega) (hdM c).1 hle
      have ez : z_api_Entry = zeroE := rfl
      have hr' : butteryref23_read ((rN c (rN c (rN c (rN c ⟨0, 0⟩ 6).2 16).2 16).2 1099511627776).2.x c) ⟨((rN c ⟨0, 0⟩ 6).1 : Int), ((rN c (rN c ⟨0, 0⟩ 6).2 16).1 : Int), ((rN c (rN c (rN c ⟨0, 0⟩ 6).2 16).2 16).1 : Int), ((rN c (rN c (rN c (rN c ⟨0, 0⟩ 6).2 16).2 16).2 1099511627776).1 : Int), 0, zeroE, false⟩ = some ((bdM c).2.x c, (bdM c).1) := hr
      have hv := gL_val (b := c) (ptsA (hdM c).1.Kind) (hdM c).1 hle (by simp [hdM, zeroE])
      simp only [ez, hr', Option.bind_some]
      have hv' : (bdM c).1.X.Value.length ≤ c.length := hv
      generalize bdM c = L at *
      have he : butteryref02_End (L.2.x c) = some (endC c L.2) := rend_eq
      simp only [he, Option.bind_some]
      by_cases h5 : endC c L.2 = 0
      · have b5 : (endC c L.2 != 0) = false := by simp [h5]
        simp only [b5, h5, Bool.false_eq_true, if_false, ne_eq, not_true_eq_false]
        rw [rcheck_eq (by omega)]
        simp only [Option.bind_some]
        by_cases h7 : ckM L.1 = 0
        · simp [h7]
        · simp [h7, zeroM]
      · have b5 : (endC c L.2 != 0) = true := by simpa using h5
        simp only [b5, h5, if_true, ne_eq, not_false_eq_true]
        rfl
/-- A part that is there is read. -/
def upP (m : api_Msg) (c : BitVec 8) (z : api_Msg) : api_Msg :=
  if c = 73#8 then { z with Id := m.Id }
  else if c = 75#8 then { z with X := { z.X with Key := m.X.Key } }
  else if c = 65#8 then { z with X := { z.X with AsOf := m.X.AsOf } }
  else if c = 70#8 then { z with Found := m.Found }
  else if m.Found = true then { z with X := { z.X with Version := m.X.Version, Ends := m.X.Ends, Value := m.X.Value } } else z
theorem gS_is {m z : api_Msg} {b l : List (BitVec 8)} {c : BitVec 8} {r : rdr} (hc : okP m c) (he : r.e = 0) (hr : r.a ≤ b.length) (h : b.drop r.a = stP m c ++ l) (hf : c = 86#8 → z.Found = m.Found) : gS b c z r = (upP m c z, ⟨r.a + (stP m c).length, 0⟩) := by
  unfold gS upP
  unfold stP at h ⊢
  rcases hc with ⟨rfl, g1, g2⟩ | ⟨rfl, g⟩ | ⟨rfl, g1, g2⟩ | rfl | ⟨rfl, g⟩
  · simp only [if_true] at h ⊢
    have k := rN_is he h (m := 1099511627776) (by omega) (by omega)
    have e2 : (m.Id.toNat : Int) = m.Id := by omega
    rw [k]
    simp only [e2]
  · simp only [show ¬ (75#8 : BitVec 8) = 73#8 by decide, if_true, if_false] at h ⊢
    rw [List.append_assoc] at h
    have k := rB_is he hr h (m := 40) (by omega) (by omega)
    rw [k, List.length_append, Nat.add_assoc]
  · simp only [show ¬ (65#8 : BitVec 8) = 73#8 by decide, show ¬ (65#8 : BitVec 8) = 75#8 by decide, if_true, if_false] at h ⊢
    have k := rN_is he h (m := 1099511627776) (by omega) (by omega)
    have e2 : (m.X.AsOf.toNat : Int) = m.X.AsOf := by omega
    rw [k]
    simp only [e2]
  · simp only [show ¬ (70#8 : BitVec 8) = 73#8 by decide, show ¬ (70#8 : BitVec 8) = 75#8 by decide, show ¬ (70#8 : BitVec 8) = 65#8 by decide, if_true, if_false] at h ⊢
    have k := rN_is he h (m := 1) (by split <;> omega) (by split <;> omega)
    rw [k]
    cases hF : m.Found <;> simp
  · simp only [show ¬ (86#8 : BitVec 8) = 73#8 by decide, show ¬ (86#8 : BitVec 8) = 75#8 by decide, show ¬ (86#8 : BitVec 8) = 65#8 by decide, show ¬ (86#8 : BitVec 8) = 70#8 by decide, if_false, hf rfl] at h ⊢
    by_cases hF : m.Found = true
    · simp only [hF, if_true, List.append_assoc] at h ⊢
      obtain ⟨a1, a2, a3, a4, a5, a6, a7, a8, a9⟩ := ck_ok (g hF)
      have k1 := rN_is he h (m := 1099511627776) (by omega) (by omega)
      have d1 := drop_app h
      have l1 := (rN_le hr 1099511627776).1
      rw [k1] at l1
      have k2 := rN_is (r := ⟨r.a + (num7 m.X.Version.toNat).length, 0⟩) rfl d1 (m := 1099511627776) (by omega) (by omega)
      have d2 := drop_app d1
      have l2 := (rN_le l1 1099511627776).1
      rw [k2] at l2
      have k3 := rB_is (r := ⟨r.a + (num7 m.X.Version.toNat).length + (num7 m.X.Ends.toNat).length, 0⟩) rfl l2 d2 (m := 4096) (by omega) (by omega)
      have e2 : (m.X.Version.toNat : Int) = m.X.Version := by omega
      have e3 : (m.X.Ends.toNat : Int) = m.X.Ends := by omega
      simp only [k1, k2, k3, e2, e3]
      refine Prod.ext rfl ?_
      simp only [List.length_append, rdr.mk.injEq, and_true]
      omega
    · simp only [hF, Bool.false_eq_true, if_false, List.length_nil, Nat.add_zero]
      refine Prod.ext rfl ?_
      obtain ⟨a, e⟩ := r
      simp only at he
      subst he
      rfl
end Go.Proofs.YthkfilchighbhaaDoor
namespace Go.Proofs.YthkfilchighbhaaDoor
open Go Go.Va
set_option linter.unusedVariables false
set_option linter.unusedSimpArgs false
theorem gL_is {m : api_Msg} {b rest : List (BitVec 8)} : ∀ (l : List (BitVec 8)) (z : api_Msg) (r : rdr), (∀ c ∈ l, okP m c) → r.e = 0 → r.a ≤ b.length → b.drop r.a = l.flatMap (stP m) ++ rest →
    (86#8 ∉ l ∨ z.Found = m.Found ∨ ∃ l1 l2, l = l1 ++ 70#8 :: l2 ∧ 86#8 ∉ l1) → gL b l z r = (l.foldl (fun z c => upP m c z) z, ⟨r.a + (l.flatMap (stP m)).length, 0⟩)
  | [], z, r, _, he, _, h, _ => by
    obtain ⟨a, e⟩ := r
    simp only at he
    subst he
    rfl
  | c :: l, z, r, hl, he, hr, h, hf => by
    have hc := hl c (List.mem_cons_self ..)
    simp only [List.flatMap_cons, List.append_assoc] at h
    have k := gS_is (z := z) hc he hr h (fun e => by
      subst e
      rcases hf with hf | hf | ⟨l1, l2, h1, h2⟩
      · exact absurd (List.mem_cons_self ..) hf
      · exact hf
      · cases l1 with
        | nil => simp at h1
        | cons x l1 => simp at h1; obtain ⟨rfl, _⟩ := h1; exact absurd (List.mem_cons_self ..) h2)
    have hle := gS_le (b := b) (c := c) (m := z) hr
    rw [k] at hle
    simp only [gL, k, List.foldl_cons]
    rw [gL_is l (upP m c z) ⟨r.a + (stP m c).length, 0⟩ (fun d hd => hl d (List.mem_cons_of_mem _ hd)) rfl hle (drop_app h) ?_]
    · simp only [List.flatMap_cons, List.length_append, Nat.add_assoc]
    · rcases hf with hf | hf | ⟨l1, l2, h1, h2⟩
      · exact .inl (fun h => hf (List.mem_cons_of_mem _ h))
      · refine .inr (.inl ?_)
        unfold upP
        repeat' split
        all_goals first | exact hf | rfl
      · cases l1 with
        | nil =>
          simp at h1
          obtain ⟨rfl, rfl⟩ := h1
          exact .inr (.inl rfl)
        | cons x l1 =>
          simp at h1
          obtain ⟨rfl, rfl⟩ := h1
          exact .inr (.inr ⟨l1, l2, rfl, fun h => h2 (List.mem_cons_of_mem _ h)⟩)
theorem ptsA_F (k : Int) (z m : api_Msg) : 86#8 ∉ ptsA k ∨ z.Found = m.Found ∨ ∃ l1 l2, ptsA k = l1 ++ 70#8 :: l2 ∧ 86#8 ∉ l1 := by
  rcases ptsA_cases k with ⟨_, hp⟩ | ⟨_, hp⟩ | ⟨_, hp⟩ | ⟨_, hp⟩ | ⟨_, _, _, _, _, hp⟩ <;> rw [hp]
  · exact .inl (by decide)
  · exact .inl (by decide)
  · exact .inl (by decide)
  · exact .inr (.inr ⟨[73#8, 75#8, 65#8], [86#8], rfl, by decide⟩)
  · exact .inl (by simp)
theorem fold_up {m : api_Msg} (h : okM m) : (ptsA m.Kind).foldl (fun z c => upP m c z) ⟨m.Kind, m.From, m.To, m.Epoch, 0, zeroE, false⟩ = m := by
  have h1 := h.k1; have h2 := h.k6; have i0 := h.i0; have key0 := h.key0; have a0 := h.a0; have f := h.f; have v0 := h.v0
  clear h
  obtain ⟨k, fr, t, e, i, ⟨key, ver, asf, ends, val⟩, fd⟩ := m
  simp only at *
  have h0 : k = 1 ∨ k = 2 ∨ k = 3 ∨ k = 4 ∨ k = 5 ∨ k = 6 := by omega
  rcases h0 with rfl | rfl | rfl | rfl | rfl | rfl
  · simp at *; simp [ptsA, zeroE, *]
  · simp at *; simp [ptsA, zeroE, upP, *]
  · simp at *; simp [ptsA, zeroE, upP, *]
  · simp at *; simp [ptsA, zeroE, upP, *]
  · simp at *; simp [ptsA, zeroE, upP, *]
  · cases fd
    · simp at *; simp [ptsA, zeroE, upP, *]
    · simp [ptsA, zeroE, upP]
theorem dec_enc {m : api_Msg} (h : ckM m = 0) : decM (cseal (encM m)) = (m, 0) := by
  have ho := ckM_ok h
  have hl := cseal_len (encM m)
  have htk : (cseal (encM m)).take ((cseal (encM m)).length - 4) = encM m := by
    rw [hl, Nat.add_sub_cancel]
    exact List.take_left' rfl
  unfold decM
  rw [if_neg (by omega), cseal_fits, if_neg (by simp), htk]
  have g1 := ho.k1; have g2 := ho.k6; have g3 := ho.f0; have g4 := ho.f1; have g5 := ho.t0; have g6 := ho.t1; have g7 := ho.e1; have g8 := ho.e2
  have hb : bdM (encM m) = (m, ⟨(encM m).length, 0⟩) := by
    have d0 : (encM m).drop 0 = num7 m.Kind.toNat ++ (num7 m.From.toNat ++ (num7 m.To.toNat ++ (num7 m.Epoch.toNat ++ ((ptsA m.Kind).flatMap (stP m) ++ [])))) := by simp [encM]
    generalize hb : encM m = b at *
    have k1 := rN_is (b := b) (r := ⟨0, 0⟩) rfl d0 (m := 6) (by omega) (by omega)
    have d1 := drop_app d0
    have l1 := (rN_le (b := b) (r := ⟨0, 0⟩) (by simp) 6).1
    rw [k1] at l1
    have k2 := rN_is (r := ⟨0 + (num7 m.Kind.toNat).length, 0⟩) rfl d1 (m := 16) (by omega) (by omega)
    have d2 := drop_app d1
    have l2 := (rN_le l1 16).1
    rw [k2] at l2
    have k3 := rN_is (r := ⟨0 + (num7 m.Kind.toNat).length + (num7 m.From.toNat).length, 0⟩) rfl d2 (m := 16) (by omega) (by omega)
    have d3 := drop_app d2
    have l3 := (rN_le l2 16).1
    rw [k3] at l3
    have k4 := rN_is (r := ⟨0 + (num7 m.Kind.toNat).length + (num7 m.From.toNat).length + (num7 m.To.toNat).length, 0⟩) rfl d3 (m := 1099511627776) (by omega) (by omega)
    have d4 := drop_app d3
    have l4 := (rN_le l3 1099511627776).1
    rw [k4] at l4
    have hh : hdM b = (⟨m.Kind, m.From, m.To, m.Epoch, 0, zeroE, false⟩, ⟨0 + (num7 m.Kind.toNat).length + (num7 m.From.toNat).length + (num7 m.To.toNat).length + (num7 m.Epoch.toNat).length, 0⟩) := by
      unfold hdM
      simp only [k1, k2, k3, k4]
      rw [show (m.Kind.toNat : Int) = m.Kind by omega, show (m.From.toNat : Int) = m.From by omega, show (m.To.toNat : Int) = m.To by omega, show (m.Epoch.toNat : Int) = m.Epoch by omega]
    unfold bdM
    rw [hh]
    simp only
    rw [gL_is (m := m) (rest := []) (ptsA m.Kind) _ _ ho.pts rfl l4 d4 (ptsA_F _ _ _), fold_up ho]
    refine Prod.ext rfl ?_
    simp only [rdr.mk.injEq, and_true]
    rw [← hb]
    simp only [encM, List.length_append]
    omega
  rw [hb]
  have he : endC (encM m) ⟨(encM m).length, 0⟩ = 0 := by simp [endC]
  simp [he, h]
theorem gS_one {b : List (BitVec 8)} {c : BitVec 8} {m : api_Msg} {r : rdr} (hc : isP c) (hr : r.a ≤ b.length) (h : (gS b c m r).2.e = 0) : r.e = 0 ∧ b.drop r.a = stP (gS b c m r).1 c ++ b.drop (gS b c m r).2.a := by
  have he : r.e = 0 := Classical.byContradiction fun h2 => by rw [gS_bad h2] at h; exact h2 h
  refine ⟨he, ?_⟩
  unfold gS at h ⊢
  unfold stP
  rcases hc with rfl | rfl | rfl | rfl | rfl
  · simp only [if_true] at h ⊢
    have k := (rN_one (b := b) (r := r) (m := 1099511627776) (by omega) h).1
    rw [Int.toNat_natCast]; exact k
  · simp only [show ¬ (75#8 : BitVec 8) = 73#8 by decide, if_true, if_false] at h ⊢
    have k := (rB_one (b := b) hr (m := 40) (by omega) h).1
    rw [List.append_assoc]; exact k
  · simp only [show ¬ (65#8 : BitVec 8) = 73#8 by decide, show ¬ (65#8 : BitVec 8) = 75#8 by decide, if_true, if_false] at h ⊢
    have k := (rN_one (b := b) (r := r) (m := 1099511627776) (by omega) h).1
    rw [Int.toNat_natCast]; exact k
  · simp only [show ¬ (70#8 : BitVec 8) = 73#8 by decide, show ¬ (70#8 : BitVec 8) = 75#8 by decide, show ¬ (70#8 : BitVec 8) = 65#8 by decide, if_true, if_false] at h ⊢
    have k := (rN_one (b := b) (r := r) (m := 1) (by omega) h).1
    have hn := (rN_le hr 1).2.2
    have e : (if (((rN b r 1).1 : Int) == 1) = true then 1 else 0) = (rN b r 1).1 := by
      by_cases h1 : (rN b r 1).1 = 1
      · simp [h1]
      · have : (rN b r 1).1 = 0 := by omega
        simp [this]
    rw [e]; exact k
  · simp only [show ¬ (86#8 : BitVec 8) = 73#8 by decide, show ¬ (86#8 : BitVec 8) = 75#8 by decide, show ¬ (86#8 : BitVec 8) = 65#8 by decide, show ¬ (86#8 : BitVec 8) = 70#8 by decide, if_false] at h ⊢
    by_cases hf : m.Found = true
    · simp only [hf, if_true] at h ⊢
      have l1 := rN_le hr 1099511627776
      have l2 := rN_le l1.1 1099511627776
      have o3 := rB_one (b := b) l2.1 (m := 4096) (by omega) h
      have e2 := rB_off h
      have o2 := rN_one (b := b) (m := 1099511627776) (by omega) e2
      have e1 := rN_off e2
      have o1 := rN_one (b := b) (m := 1099511627776) (by omega) e1
      simp only [Int.toNat_natCast, List.append_assoc]
      rw [o1.1, o2.1, o3.1]
    · simp [hf]
theorem gS_Id {b : List (BitVec 8)} {c : BitVec 8} {m : api_Msg} {r : rdr} (h : c ≠ 73#8) : (gS b c m r).1.Id = m.Id := by
  unfold gS
  rw [if_neg h]
  repeat' split
  all_goals rfl
theorem gS_Key {b : List (BitVec 8)} {c : BitVec 8} {m : api_Msg} {r : rdr} (h : c ≠ 75#8) : (gS b c m r).1.X.Key = m.X.Key := by
  unfold gS
  rw [if_neg (c := c = 75#8) h]
  repeat' split
  all_goals rfl
theorem gS_AsOf {b : List (BitVec 8)} {c : BitVec 8} {m : api_Msg} {r : rdr} (h : c ≠ 65#8) : (gS b c m r).1.X.AsOf = m.X.AsOf := by
  unfold gS
  rw [if_neg (c := c = 65#8) h]
  repeat' split
  all_goals rfl
theorem gS_Found {b : List (BitVec 8)} {c : BitVec 8} {m : api_Msg} {r : rdr} (h : c ≠ 70#8) : (gS b c m r).1.Found = m.Found := by
  unfold gS
  rw [if_neg (c := c = 70#8) h]
  repeat' split
  all_goals rfl
theorem gS_head {b : List (BitVec 8)} {c : BitVec 8} {m : api_Msg} {r : rdr} : (gS b c m r).1.Kind = m.Kind ∧ (gS b c m r).1.From = m.From ∧ (gS b c m r).1.To = m.To ∧ (gS b c m r).1.Epoch = m.Epoch := by
  unfold gS
  repeat' split
  all_goals exact ⟨rfl, rfl, rfl, rfl⟩
theorem gL_head {b : List (BitVec 8)} : ∀ (l : List (BitVec 8)) (m : api_Msg) (r : rdr), (gL b l m r).1.Kind = m.Kind ∧ (gL b l m r).1.From = m.From ∧ (gL b l m r).1.To = m.To ∧ (gL b l m r).1.Epoch = m.Epoch
  | [], m, r => ⟨rfl, rfl, rfl, rfl⟩
  | c :: l, m, r => by
    obtain ⟨h1, h2, h3, h4⟩ := gL_head l (gS b c m r).1 (gS b c m r).2
    obtain ⟨k1, k2, k3, k4⟩ := gS_head (b := b) (c := c) (m := m) (r := r)
    simp only [gL]
    exact ⟨h1.trans k1, h2.trans k2, h3.trans k3, h4.trans k4⟩
/-- What a part says is not turned by the parts behind it. -/
theorem gL_part {b : List (BitVec 8)} : ∀ (l : List (BitVec 8)) (m : api_Msg) (r : rdr) (c : BitVec 8), isP c → c ∉ l → (∀ d ∈ l, isP d) → (c = 86#8 → 70#8 ∉ l) → stP (gL b l m r).1 c = stP m c
  | [], m, r, c, _, _, _, _ => rfl
  | d :: l, m, r, c, hc, hn, hv, hf => by
    simp only [gL]
    have h1 : c ≠ d := fun h => hn (h ▸ List.mem_cons_self ..)
    rw [gL_part l (gS b d m r).1 (gS b d m r).2 c hc (fun h => hn (List.mem_cons_of_mem _ h)) (fun d hd => hv d (List.mem_cons_of_mem _ hd)) (fun h h2 => hf h (List.mem_cons_of_mem _ h2))]
    unfold stP
    rcases hc with rfl | rfl | rfl | rfl | rfl
    · simp only [if_true]; rw [gS_Id (Ne.symm h1)]
    · simp only [show ¬ (75#8 : BitVec 8) = 73#8 by decide, if_true, if_false]; rw [gS_Key (Ne.symm h1)]
    · simp only [show ¬ (65#8 : BitVec 8) = 73#8 by decide, show ¬ (65#8 : BitVec 8) = 75#8 by decide, if_true, if_false]; rw [gS_AsOf (Ne.symm h1)]
    · simp only [show ¬ (70#8 : BitVec 8) = 73#8 by decide, show ¬ (70#8 : BitVec 8) = 75#8 by decide, show ¬ (70#8 : BitVec 8) = 65#8 by decide, if_true, if_false]; rw [gS_Found (Ne.symm h1)]
    · simp only [show ¬ (86#8 : BitVec 8) = 73#8 by decide, show ¬ (86#8 : BitVec 8) = 75#8 by decide, show ¬ (86#8 : BitVec 8) = 65#8 by decide, show ¬ (86#8 : BitVec 8) = 70#8 by decide, if_false]
      have h70 : d ≠ 70#8 := fun h => hf rfl (h ▸ List.mem_cons_self ..)
      rw [gS_Found h70]
      have hX : (gS b d m r).1.X.Version = m.X.Version ∧ (gS b d m r).1.X.Ends = m.X.Ends ∧ (gS b d m r).1.X.Value = m.X.Value ∨ (d ≠ 73#8 ∧ d ≠ 75#8 ∧ d ≠ 65#8 ∧ d ≠ 70#8) := by
        unfold gS
        repeat' split
        all_goals first | exact .inl ⟨rfl, rfl, rfl⟩ | exact .inr ⟨by assumption, by assumption, by assumption, by assumption⟩
      rcases hX with ⟨e1, e2, e3⟩ | hd
      · rw [e1, e2, e3]
      · rcases hv d (List.mem_cons_self ..) with h | h | h | h | h
        · exact absurd h hd.1
        · exact absurd h hd.2.1
        · exact absurd h hd.2.2.1
        · exact absurd h hd.2.2.2
        · exact absurd h.symm h1
/-- What was read as parts is their bytes. -/
theorem gL_one {b : List (BitVec 8)} : ∀ (l : List (BitVec 8)) (m : api_Msg) (r : rdr), (∀ c ∈ l, isP c) → l.Nodup → (∀ l1 l2, l = l1 ++ 86#8 :: l2 → 70#8 ∉ l2) → r.a ≤ b.length → (gL b l m r).2.e = 0 → r.e = 0 ∧ b.drop r.a = l.flatMap (stP (gL b l m r).1) ++ b.drop (gL b l m r).2.a
  | [], m, r, _, _, _, _, h => ⟨h, by simp [gL]⟩
  | c :: l, m, r, hl, hn, hv, hr, h => by
    have hc := hl c (List.mem_cons_self ..)
    simp only [gL] at h ⊢
    rw [List.nodup_cons] at hn
    obtain ⟨i1, i2⟩ := gL_one l (gS b c m r).1 (gS b c m r).2 (fun d hd => hl d (List.mem_cons_of_mem _ hd)) hn.2 (fun l1 l2 e => hv (c :: l1) l2 (by rw [e]; rfl)) (gS_le hr) h
    obtain ⟨j1, j2⟩ := gS_one hc hr i1
    refine ⟨j1, ?_⟩
    rw [List.flatMap_cons, gL_part l _ _ c hc hn.1 (fun d hd => hl d (List.mem_cons_of_mem _ hd)) (fun e => hv [] l (by rw [e]; rfl)), List.append_assoc, ← i2]
    exact j2
theorem ptsA_nd (k : Int) : (ptsA k).Nodup ∧ ∀ l1 l2, ptsA k = l1 ++ 86#8 :: l2 → 70#8 ∉ l2 := by
  rcases ptsA_cases k with ⟨_, hp⟩ | ⟨_, hp⟩ | ⟨_, hp⟩ | ⟨_, hp⟩ | ⟨_, _, _, _, _, hp⟩ <;> rw [hp]
  · refine ⟨by decide, fun l1 l2 h => ?_⟩
    have : 86#8 ∈ [65#8, 70#8] := by rw [h]; simp
    simp at this
  · refine ⟨by decide, fun l1 l2 h => ?_⟩
    have : 86#8 ∈ [75#8, 65#8] := by rw [h]; simp
    simp at this
  · refine ⟨by decide, fun l1 l2 h => ?_⟩
    have : 86#8 ∈ [73#8, 75#8] := by rw [h]; simp
    simp at this
  · refine ⟨by decide, fun l1 l2 h => ?_⟩
    match l1, h with
    | [], h => simp at h
    | [_], h => simp at h
    | [_, _], h => simp at h
    | [_, _, _], h => simp at h
    | [_, _, _, _], h => simp at h; rw [h.2.2.2.2]; simp
    | _ :: _ :: _ :: _ :: _ :: l, h => simp at h
  · refine ⟨by simp, fun l1 l2 h => ?_⟩
    simp at h
/-- Bytes that are read as a message are its bytes. -/
theorem enc_dec {b : List (BitVec 8)} (h : (decM b).2 = 0) : ckM (decM b).1 = 0 ∧ cseal (encM (decM b).1) = b := by
  unfold decM at h ⊢
  split at h
  · cases h
  rename_i h4
  rw [if_neg h4]
  split at h
  · cases h
  rename_i hf
  rw [if_neg hf]
  split at h
  · rename_i h5; exact absurd h h5
  rename_i h5
  rw [if_neg h5]
  split at h
  · rename_i h6; exact absurd h h6
  rename_i h6
  rw [if_neg h6]
  have h6' := Classical.not_not.1 h6
  refine ⟨h6', ?_⟩
  have hfit : cfits b = true := by simpa using hf
  have h5' := Classical.not_not.1 h5
  clear h h5 h6 hf
  simp only
  have hb : cseal (b.take (b.length - 4)) = b := by
    unfold cfits at hfit
    rw [Bool.and_eq_true, decide_eq_true_eq, decide_eq_true_eq] at hfit
    unfold cseal
    rw [hfit.2, List.take_append_drop]
  generalize b.take (b.length - 4) = c at *
  rw [← hb]
  congr 1
  have h1 := rN_le (b := c) (r := ⟨0, 0⟩) (by simp) 6
  have h2 := rN_le h1.1 16
  have h3 := rN_le h2.1 16
  have hle := hdM_le c
  have hh := gL_head (b := c) (ptsA (hdM c).1.Kind) (hdM c).1 (hdM c).2
  have he : (bdM c).2.e = 0 := by
    unfold endC at h5'
    split at h5'
    · cases h5'
    · exact h5'
  have ha : c.length ≤ (bdM c).2.a := by
    unfold endC at h5'
    split at h5'
    · cases h5'
    · rename_i hx
      exact Nat.le_of_not_lt fun hlt => hx ⟨he, hlt⟩
  obtain ⟨i1, i2⟩ := gL_one (b := c) (ptsA (hdM c).1.Kind) (hdM c).1 (hdM c).2 (ptsA_is _) (ptsA_nd _).1 (ptsA_nd _).2 hle he
  have hd : c.drop (gL c (ptsA (hdM c).1.Kind) (hdM c).1 (hdM c).2).2.a = [] := List.drop_eq_nil_iff.2 ha
  rw [hd, List.append_nil] at i2
  have i1' : (rN c (rN c (rN c (rN c ⟨0, 0⟩ 6).2 16).2 16).2 1099511627776).2.e = 0 := i1
  have o4 := rN_one (b := c) (m := 1099511627776) (by omega) i1'
  have e3 := rN_off i1'
  have o3 := rN_one (b := c) (m := 16) (by omega) e3
  have e2 := rN_off e3
  have o2 := rN_one (b := c) (m := 16) (by omega) e2
  have e1 := rN_off e2
  have o1 := rN_one (b := c) (m := 6) (by omega) e1
  have i2' : c.drop (rN c (rN c (rN c (rN c ⟨0, 0⟩ 6).2 16).2 16).2 1099511627776).2.a = (ptsA (hdM c).1.Kind).flatMap (stP (bdM c).1) := i2
  have hh' : (bdM c).1.Kind = (hdM c).1.Kind ∧ (bdM c).1.From = (hdM c).1.From ∧ (bdM c).1.To = (hdM c).1.To ∧ (bdM c).1.Epoch = (hdM c).1.Epoch := hh
  unfold encM
  rw [hh'.1, hh'.2.1, hh'.2.2.1, hh'.2.2.2, ← i2']
  have q1 := o1.1
  rw [o2.1, o3.1, o4.1, List.drop_zero] at q1
  exact q1.symm
def exM : api_Msg := ⟨6, 0, 3, 2, 7, ⟨[107#8], 4, 5, 0, [118#8]⟩, true⟩
theorem works23 : butterylaw23_works = some true := by
  have hx : ckM exM = 0 := by decide
  have hp := (wput_eq exM).1 hx
  have he : encM exM = [6#8, 0#8, 3#8, 2#8, 7#8, 1#8, 107#8, 5#8, 1#8, 4#8, 0#8, 1#8, 118#8] := by
    simp [encM, exM, ptsA, stP, num7_small]
  have hl : (cseal (encM exM)).length = 17 := by rw [cseal_len, he]; rfl
  obtain ⟨e, g1, g2, g3⟩ := wget_eq (b := cseal (encM exM)) (by rw [hl]; omega)
  rw [dec_enc hx] at g1 g2 g3
  have hbad : ckM ⟨1, 3, 0, 1, 0, ⟨[], 0, 0, 0, []⟩, true⟩ = 5 := by decide
  obtain ⟨e2, p1, p2, p3⟩ := (wput_eq ⟨1, 3, 0, 1, 0, ⟨[], 0, 0, 0, []⟩, true⟩).2 (by rw [hbad]; decide)
  have hf : cfits [1#8, 2#8, 3#8, 4#8, 5#8] = false := by decide +kernel
  obtain ⟨e3, q1, q2, q3⟩ := wget_eq (b := [1#8, 2#8, 3#8, 4#8, 5#8]) (by simp)
  have hdec : decM [1#8, 2#8, 3#8, 4#8, 5#8] = (zeroM, 7) := by
    unfold decM
    rw [if_neg (by simp), hf, if_pos rfl]
  rw [hdec] at q1 q2 q3
  obtain ⟨e4, c1, c2, c3⟩ := wcheck_eq exM
  rw [hx] at c3
  rw [hbad] at p2
  have hz : z_api_Entry = ⟨[], 0, 0, 0, []⟩ := rfl
  have hp' : wire_Put ⟨6, 0, 3, 2, 7, ⟨[107#8], 4, 5, 0, [118#8]⟩, true⟩ = some (cseal (encM exM), .nil) := hp
  have c1' : wire_Check ⟨6, 0, 3, 2, 7, ⟨[107#8], 4, 5, 0, [118#8]⟩, true⟩ = some e4 := c1
  unfold butterylaw23_works
  simp only [lt_eq, hp', Option.bind_some, g1, hz, p1, q1, show Err.isNil Err.nil = true from rfl, if_true, g3, decide_true, wsame_eq, trouble_Of, p2, q2, hl, c1', c3, beq_self_eq_true]
  rfl
theorem light_eq23 (x : api_Msg) : butterylaw23_light x = some false ∨ (butterylaw23_light x = some true ∧ x.X.Key.length ≤ 200 ∧ x.X.Value.length ≤ 5000) := by
  unfold butterylaw23_light
  simp only [lt_eq]
  rcases light_eq [x.X] with h | ⟨h, _, h2⟩
  · left; rw [h]; rfl
  · right
    have := h2 x.X (List.mem_cons_self ..)
    rw [h]
    exact ⟨rfl, this⟩
end Go.Proofs.YthkfilchighbhaaDoor
namespace Go.Proofs.YthkfilchighbhaaDoor
open Go Go.Va
set_option linter.unusedSimpArgs false
set_option linter.unusedVariables false
def wf_runtime_boundsError (x : runtime_boundsError) : Prop := (wfI .i64) x.x ∧ (wfI .i64) x.y ∧ wfT x.signed ∧ wfT x.code
theorem opens7 : Opens Tryd.prog 7 e_runtime_boundsError wf_runtime_boundsError := by
  intro H enc w fuel cs x hx
  obtain ⟨xs, m, _, _, hl, hn, hx⟩ := DataW.trod_struct Tryd.underlying7 hx
  rw [cellsOf_sz tk sz7 (by decide)] at hl
  obtain ⟨y0, w0, r0, o0⟩ := opens_f hx hn 0 (o := 0) (s := 1) rfl (opens_i64 Tryd.underlying2) rfl (cellsOf_sz tk sz2 (by decide))
  obtain ⟨y1, w1, r1, o1⟩ := opens_f hx hn 1 (o := 1) (s := 1) rfl (opens_i64 Tryd.underlying3) rfl (cellsOf_sz tk sz3 (by decide))
  obtain ⟨y2, w2, r2, o2⟩ := opens_f hx hn 2 (o := 2) (s := 1) rfl (opens_b Tryd.underlying4) rfl (cellsOf_sz tk sz4 (by decide))
  obtain ⟨y3, w3, r3, o3⟩ := opens_f hx hn 3 (o := 3) (s := 1) rfl (opens_u rfl rfl Tryd.underlying6) rfl (cellsOf_sz tk sz6 (by decide))
  refine ⟨⟨y0, y1, y2, y3⟩, ⟨w0, w1, w2, w3⟩, ?_, ?_⟩
  · have h := (rel_piece r0 (rel_piece r1 (rel_piece r2 (rel_piece r3 (rel_end hl)))))
    rw [List.drop_zero] at h
    first | exact h | (simp only [List.append_nil, List.append_assoc] at h ⊢; exact h) | (simpa [AV.cells, e_runtime_boundsError, c_runtime_boundsError] using h)
  · have h := (one_piece o0 (one_piece o1 (one_piece o2 (one_piece o3 (one_end hl)))))
    rw [List.drop_zero] at h
    exact h
theorem opens8 : Opens Tryd.prog 8 e_runtime_boundsError wf_runtime_boundsError := by
  intro H enc w fuel cs x hx
  obtain ⟨xs, m, _, _, hl, hn, hx⟩ := DataW.trod_struct Tryd.underlying8 hx
  rw [cellsOf_sz tk sz8 (by decide)] at hl
  obtain ⟨y0, w0, r0, o0⟩ := opens_f hx hn 0 (o := 0) (s := 1) rfl (opens_i64 Tryd.underlying2) rfl (cellsOf_sz tk sz2 (by decide))
  obtain ⟨y1, w1, r1, o1⟩ := opens_f hx hn 1 (o := 1) (s := 1) rfl (opens_i64 Tryd.underlying3) rfl (cellsOf_sz tk sz3 (by decide))
  obtain ⟨y2, w2, r2, o2⟩ := opens_f hx hn 2 (o := 2) (s := 1) rfl (opens_b Tryd.underlying4) rfl (cellsOf_sz tk sz4 (by decide))
  obtain ⟨y3, w3, r3, o3⟩ := opens_f hx hn 3 (o := 3) (s := 1) rfl (opens_u rfl rfl Tryd.underlying6) rfl (cellsOf_sz tk sz6 (by decide))
  refine ⟨⟨y0, y1, y2, y3⟩, ⟨w0, w1, w2, w3⟩, ?_, ?_⟩
  · have h := (rel_piece r0 (rel_piece r1 (rel_piece r2 (rel_piece r3 (rel_end hl)))))
    rw [List.drop_zero] at h
    first | exact h | (simp only [List.append_nil, List.append_assoc] at h ⊢; exact h) | (simpa [AV.cells, e_runtime_boundsError, c_runtime_boundsError] using h)
  · have h := (one_piece o0 (one_piece o1 (one_piece o2 (one_piece o3 (one_end hl)))))
    rw [List.drop_zero] at h
    exact h
def wf_runtime_errorAddressString (x : runtime_errorAddressString) : Prop := wfS x.msg ∧ wfT x.addr
theorem opens13 : Opens Tryd.prog 13 e_runtime_errorAddressString wf_runtime_errorAddressString := by
  intro H enc w fuel cs x hx
  obtain ⟨xs, m, _, _, hl, hn, hx⟩ := DataW.trod_struct Tryd.underlying13 hx
  rw [cellsOf_sz tk sz13 (by decide)] at hl
  obtain ⟨y0, w0, r0, o0⟩ := opens_f hx hn 0 (o := 0) (s := 1) rfl (opens_s Tryd.underlying9) rfl (cellsOf_sz tk sz9 (by decide))
  obtain ⟨y1, w1, r1, o1⟩ := opens_f hx hn 1 (o := 1) (s := 1) rfl (opens_u rfl rfl Tryd.underlying12) rfl (cellsOf_sz tk sz12 (by decide))
  refine ⟨⟨y0, y1⟩, ⟨w0, w1⟩, ?_, ?_⟩
  · have h := (rel_piece r0 (rel_piece r1 (rel_end hl)))
    rw [List.drop_zero] at h
    first | exact h | (simp only [List.append_nil, List.append_assoc] at h ⊢; exact h) | (simpa [AV.cells, e_runtime_errorAddressString, c_runtime_errorAddressString] using h)
  · have h := (one_piece o0 (one_piece o1 (one_end hl)))
    rw [List.drop_zero] at h
    exact h
theorem opens14 : Opens Tryd.prog 14 e_runtime_errorAddressString wf_runtime_errorAddressString := by
  intro H enc w fuel cs x hx
  obtain ⟨xs, m, _, _, hl, hn, hx⟩ := DataW.trod_struct Tryd.underlying14 hx
  rw [cellsOf_sz tk sz14 (by decide)] at hl
  obtain ⟨y0, w0, r0, o0⟩ := opens_f hx hn 0 (o := 0) (s := 1) rfl (opens_s Tryd.underlying9) rfl (cellsOf_sz tk sz9 (by decide))
  obtain ⟨y1, w1, r1, o1⟩ := opens_f hx hn 1 (o := 1) (s := 1) rfl (opens_u rfl rfl Tryd.underlying12) rfl (cellsOf_sz tk sz12 (by decide))
  refine ⟨⟨y0, y1⟩, ⟨w0, w1⟩, ?_, ?_⟩
  · have h := (rel_piece r0 (rel_piece r1 (rel_end hl)))
    rw [List.drop_zero] at h
    first | exact h | (simp only [List.append_nil, List.append_assoc] at h ⊢; exact h) | (simpa [AV.cells, e_runtime_errorAddressString, c_runtime_errorAddressString] using h)
  · have h := (one_piece o0 (one_piece o1 (one_end hl)))
    rw [List.drop_zero] at h
    exact h
def wf_api_Entry (x : api_Entry) : Prop := wfS x.Key ∧ (wfI .i64) x.Version ∧ (wfI .i64) x.AsOf ∧ (wfI .i64) x.Ends ∧ (wfL wfT) x.Value
theorem opens23 : Opens Tryd.prog 23 e_api_Entry wf_api_Entry := by
  intro H enc w fuel cs x hx
  obtain ⟨xs, m, _, _, hl, hn, hx⟩ := DataW.trod_struct Tryd.underlying23 hx
  rw [cellsOf_sz tk sz23 (by decide)] at hl
  obtain ⟨y0, w0, r0, o0⟩ := opens_f hx hn 0 (o := 0) (s := 1) rfl (opens_s Tryd.underlying9) rfl (cellsOf_sz tk sz9 (by decide))
  obtain ⟨y1, w1, r1, o1⟩ := opens_f hx hn 1 (o := 1) (s := 1) rfl (opens_i64 Tryd.underlying3) rfl (cellsOf_sz tk sz3 (by decide))
  obtain ⟨y2, w2, r2, o2⟩ := opens_f hx hn 2 (o := 2) (s := 1) rfl (opens_i64 Tryd.underlying3) rfl (cellsOf_sz tk sz3 (by decide))
  obtain ⟨y3, w3, r3, o3⟩ := opens_f hx hn 3 (o := 3) (s := 1) rfl (opens_i64 Tryd.underlying3) rfl (cellsOf_sz tk sz3 (by decide))
  obtain ⟨y4, w4, r4, o4⟩ := opens_f hx hn 4 (o := 4) (s := 1) rfl (opens_l tk Tryd.underlying22 (enc_u td5 sz5) (opens_u rfl rfl Tryd.underlying5)) rfl (cellsOf_sz tk sz22 (by decide))
  refine ⟨⟨y0, y1, y2, y3, y4⟩, ⟨w0, w1, w2, w3, w4⟩, ?_, ?_⟩
  · have h := (rel_piece r0 (rel_piece r1 (rel_piece r2 (rel_piece r3 (rel_piece r4 (rel_end hl))))))
    rw [List.drop_zero] at h
    first | exact h | (simp only [List.append_nil, List.append_assoc] at h ⊢; exact h) | (simpa [AV.cells, e_api_Entry, c_api_Entry] using h)
  · have h := (one_piece o0 (one_piece o1 (one_piece o2 (one_piece o3 (one_piece o4 (one_end hl))))))
    rw [List.drop_zero] at h
    exact h
theorem opens24 : Opens Tryd.prog 24 e_api_Entry wf_api_Entry := by
  intro H enc w fuel cs x hx
  obtain ⟨xs, m, _, _, hl, hn, hx⟩ := DataW.trod_struct Tryd.underlying24 hx
  rw [cellsOf_sz tk sz24 (by decide)] at hl
  obtain ⟨y0, w0, r0, o0⟩ := opens_f hx hn 0 (o := 0) (s := 1) rfl (opens_s Tryd.underlying9) rfl (cellsOf_sz tk sz9 (by decide))
  obtain ⟨y1, w1, r1, o1⟩ := opens_f hx hn 1 (o := 1) (s := 1) rfl (opens_i64 Tryd.underlying3) rfl (cellsOf_sz tk sz3 (by decide))
  obtain ⟨y2, w2, r2, o2⟩ := opens_f hx hn 2 (o := 2) (s := 1) rfl (opens_i64 Tryd.underlying3) rfl (cellsOf_sz tk sz3 (by decide))
  obtain ⟨y3, w3, r3, o3⟩ := opens_f hx hn 3 (o := 3) (s := 1) rfl (opens_i64 Tryd.underlying3) rfl (cellsOf_sz tk sz3 (by decide))
  obtain ⟨y4, w4, r4, o4⟩ := opens_f hx hn 4 (o := 4) (s := 1) rfl (opens_l tk Tryd.underlying22 (enc_u td5 sz5) (opens_u rfl rfl Tryd.underlying5)) rfl (cellsOf_sz tk sz22 (by decide))
  refine ⟨⟨y0, y1, y2, y3, y4⟩, ⟨w0, w1, w2, w3, w4⟩, ?_, ?_⟩
  · have h := (rel_piece r0 (rel_piece r1 (rel_piece r2 (rel_piece r3 (rel_piece r4 (rel_end hl))))))
    rw [List.drop_zero] at h
    first | exact h | (simp only [List.append_nil, List.append_assoc] at h ⊢; exact h) | (simpa [AV.cells, e_api_Entry, c_api_Entry] using h)
  · have h := (one_piece o0 (one_piece o1 (one_piece o2 (one_piece o3 (one_piece o4 (one_end hl))))))
    rw [List.drop_zero] at h
    exact h
def wf_api_Msg (x : api_Msg) : Prop := (wfI .i64) x.Kind ∧ (wfI .i64) x.From ∧ (wfI .i64) x.To ∧ (wfI .i64) x.Epoch ∧ (wfI .i64) x.Id ∧ wf_api_Entry x.X ∧ wfT x.Found
theorem opens25 : Opens Tryd.prog 25 e_api_Msg wf_api_Msg := by
  intro H enc w fuel cs x hx
  obtain ⟨xs, m, _, _, hl, hn, hx⟩ := DataW.trod_struct Tryd.underlying25 hx
  rw [cellsOf_sz tk sz25 (by decide)] at hl
  obtain ⟨y0, w0, r0, o0⟩ := opens_f hx hn 0 (o := 0) (s := 1) rfl (opens_i64 Tryd.underlying3) rfl (cellsOf_sz tk sz3 (by decide))
  obtain ⟨y1, w1, r1, o1⟩ := opens_f hx hn 1 (o := 1) (s := 1) rfl (opens_i64 Tryd.underlying3) rfl (cellsOf_sz tk sz3 (by decide))
  obtain ⟨y2, w2, r2, o2⟩ := opens_f hx hn 2 (o := 2) (s := 1) rfl (opens_i64 Tryd.underlying3) rfl (cellsOf_sz tk sz3 (by decide))
  obtain ⟨y3, w3, r3, o3⟩ := opens_f hx hn 3 (o := 3) (s := 1) rfl (opens_i64 Tryd.underlying3) rfl (cellsOf_sz tk sz3 (by decide))
  obtain ⟨y4, w4, r4, o4⟩ := opens_f hx hn 4 (o := 4) (s := 1) rfl (opens_i64 Tryd.underlying3) rfl (cellsOf_sz tk sz3 (by decide))
  obtain ⟨y5, w5, r5, o5⟩ := opens_f hx hn 5 (o := 5) (s := 5) rfl opens24 rfl (cellsOf_sz tk sz24 (by decide))
  obtain ⟨y6, w6, r6, o6⟩ := opens_f hx hn 6 (o := 10) (s := 1) rfl (opens_b Tryd.underlying4) rfl (cellsOf_sz tk sz4 (by decide))
  refine ⟨⟨y0, y1, y2, y3, y4, y5, y6⟩, ⟨w0, w1, w2, w3, w4, w5, w6⟩, ?_, ?_⟩
  · have h := (rel_piece r0 (rel_piece r1 (rel_piece r2 (rel_piece r3 (rel_piece r4 (rel_piece r5 (rel_piece r6 (rel_end hl))))))))
    rw [List.drop_zero] at h
    first | exact h | (simp only [List.append_nil, List.append_assoc] at h ⊢; exact h) | (simpa [AV.cells, e_api_Msg, c_api_Msg] using h)
  · have h := (one_piece o0 (one_piece o1 (one_piece o2 (one_piece o3 (one_piece o4 (one_piece o5 (one_piece o6 (one_end hl))))))))
    rw [List.drop_zero] at h
    exact h
theorem opens26 : Opens Tryd.prog 26 e_api_Msg wf_api_Msg := by
  intro H enc w fuel cs x hx
  obtain ⟨xs, m, _, _, hl, hn, hx⟩ := DataW.trod_struct Tryd.underlying26 hx
  rw [cellsOf_sz tk sz26 (by decide)] at hl
  obtain ⟨y0, w0, r0, o0⟩ := opens_f hx hn 0 (o := 0) (s := 1) rfl (opens_i64 Tryd.underlying3) rfl (cellsOf_sz tk sz3 (by decide))
  obtain ⟨y1, w1, r1, o1⟩ := opens_f hx hn 1 (o := 1) (s := 1) rfl (opens_i64 Tryd.underlying3) rfl (cellsOf_sz tk sz3 (by decide))
  obtain ⟨y2, w2, r2, o2⟩ := opens_f hx hn 2 (o := 2) (s := 1) rfl (opens_i64 Tryd.underlying3) rfl (cellsOf_sz tk sz3 (by decide))
  obtain ⟨y3, w3, r3, o3⟩ := opens_f hx hn 3 (o := 3) (s := 1) rfl (opens_i64 Tryd.underlying3) rfl (cellsOf_sz tk sz3 (by decide))
  obtain ⟨y4, w4, r4, o4⟩ := opens_f hx hn 4 (o := 4) (s := 1) rfl (opens_i64 Tryd.underlying3) rfl (cellsOf_sz tk sz3 (by decide))
  obtain ⟨y5, w5, r5, o5⟩ := opens_f hx hn 5 (o := 5) (s := 5) rfl opens24 rfl (cellsOf_sz tk sz24 (by decide))
  obtain ⟨y6, w6, r6, o6⟩ := opens_f hx hn 6 (o := 10) (s := 1) rfl (opens_b Tryd.underlying4) rfl (cellsOf_sz tk sz4 (by decide))
  refine ⟨⟨y0, y1, y2, y3, y4, y5, y6⟩, ⟨w0, w1, w2, w3, w4, w5, w6⟩, ?_, ?_⟩
  · have h := (rel_piece r0 (rel_piece r1 (rel_piece r2 (rel_piece r3 (rel_piece r4 (rel_piece r5 (rel_piece r6 (rel_end hl))))))))
    rw [List.drop_zero] at h
    first | exact h | (simp only [List.append_nil, List.append_assoc] at h ⊢; exact h) | (simpa [AV.cells, e_api_Msg, c_api_Msg] using h)
  · have h := (one_piece o0 (one_piece o1 (one_piece o2 (one_piece o3 (one_piece o4 (one_piece o5 (one_piece o6 (one_end hl))))))))
    rw [List.drop_zero] at h
    exact h
def wf_butteryref02_Reader (x : butteryref02_Reader) : Prop := (wfL wfT) x.B ∧ (wfI .i64) x.At ∧ (wfI .i64) x.Code
theorem opens78 : Opens Tryd.prog 78 e_butteryref02_Reader wf_butteryref02_Reader := by
  intro H enc w fuel cs x hx
  obtain ⟨xs, m, _, _, hl, hn, hx⟩ := DataW.trod_struct Tryd.underlying78 hx
  rw [cellsOf_sz tk sz78 (by decide)] at hl
  obtain ⟨y0, w0, r0, o0⟩ := opens_f hx hn 0 (o := 0) (s := 1) rfl (opens_l tk Tryd.underlying22 (enc_u td5 sz5) (opens_u rfl rfl Tryd.underlying5)) rfl (cellsOf_sz tk sz22 (by decide))
  obtain ⟨y1, w1, r1, o1⟩ := opens_f hx hn 1 (o := 1) (s := 1) rfl (opens_i64 Tryd.underlying3) rfl (cellsOf_sz tk sz3 (by decide))
  obtain ⟨y2, w2, r2, o2⟩ := opens_f hx hn 2 (o := 2) (s := 1) rfl (opens_i64 Tryd.underlying33) rfl (cellsOf_sz tk sz33 (by decide))
  refine ⟨⟨y0, y1, y2⟩, ⟨w0, w1, w2⟩, ?_, ?_⟩
  · have h := (rel_piece r0 (rel_piece r1 (rel_piece r2 (rel_end hl))))
    rw [List.drop_zero] at h
    first | exact h | (simp only [List.append_nil, List.append_assoc] at h ⊢; exact h) | (simpa [AV.cells, e_butteryref02_Reader, c_butteryref02_Reader] using h)
  · have h := (one_piece o0 (one_piece o1 (one_piece o2 (one_end hl))))
    rw [List.drop_zero] at h
    exact h
theorem opens79 : Opens Tryd.prog 79 e_butteryref02_Reader wf_butteryref02_Reader := by
  intro H enc w fuel cs x hx
  obtain ⟨xs, m, _, _, hl, hn, hx⟩ := DataW.trod_struct Tryd.underlying79 hx
  rw [cellsOf_sz tk sz79 (by decide)] at hl
  obtain ⟨y0, w0, r0, o0⟩ := opens_f hx hn 0 (o := 0) (s := 1) rfl (opens_l tk Tryd.underlying22 (enc_u td5 sz5) (opens_u rfl rfl Tryd.underlying5)) rfl (cellsOf_sz tk sz22 (by decide))
  obtain ⟨y1, w1, r1, o1⟩ := opens_f hx hn 1 (o := 1) (s := 1) rfl (opens_i64 Tryd.underlying3) rfl (cellsOf_sz tk sz3 (by decide))
  obtain ⟨y2, w2, r2, o2⟩ := opens_f hx hn 2 (o := 2) (s := 1) rfl (opens_i64 Tryd.underlying33) rfl (cellsOf_sz tk sz33 (by decide))
  refine ⟨⟨y0, y1, y2⟩, ⟨w0, w1, w2⟩, ?_, ?_⟩
  · have h := (rel_piece r0 (rel_piece r1 (rel_piece r2 (rel_end hl))))
    rw [List.drop_zero] at h
    first | exact h | (simp only [List.append_nil, List.append_assoc] at h ⊢; exact h) | (simpa [AV.cells, e_butteryref02_Reader, c_butteryref02_Reader] using h)
  · have h := (one_piece o0 (one_piece o1 (one_piece o2 (one_end hl))))
    rw [List.drop_zero] at h
    exact h
def wf_octets_Reader (x : octets_Reader) : Prop := (wfL wfT) x.b ∧ (wfI .i64) x.at_ ∧ (wfI .i64) x.code
theorem opens101 : Opens Tryd.prog 101 e_octets_Reader wf_octets_Reader := by
  intro H enc w fuel cs x hx
  obtain ⟨xs, m, _, _, hl, hn, hx⟩ := DataW.trod_struct Tryd.underlying101 hx
  rw [cellsOf_sz tk sz101 (by decide)] at hl
  obtain ⟨y0, w0, r0, o0⟩ := opens_f hx hn 0 (o := 0) (s := 1) rfl (opens_l tk Tryd.underlying22 (enc_u td5 sz5) (opens_u rfl rfl Tryd.underlying5)) rfl (cellsOf_sz tk sz22 (by decide))
  obtain ⟨y1, w1, r1, o1⟩ := opens_f hx hn 1 (o := 1) (s := 1) rfl (opens_i64 Tryd.underlying3) rfl (cellsOf_sz tk sz3 (by decide))
  obtain ⟨y2, w2, r2, o2⟩ := opens_f hx hn 2 (o := 2) (s := 1) rfl (opens_i64 Tryd.underlying33) rfl (cellsOf_sz tk sz33 (by decide))
  refine ⟨⟨y0, y1, y2⟩, ⟨w0, w1, w2⟩, ?_, ?_⟩
  · have h := (rel_piece r0 (rel_piece r1 (rel_piece r2 (rel_end hl))))
    rw [List.drop_zero] at h
    first | exact h | (simp only [List.append_nil, List.append_assoc] at h ⊢; exact h) | (simpa [AV.cells, e_octets_Reader, c_octets_Reader] using h)
  · have h := (one_piece o0 (one_piece o1 (one_piece o2 (one_end hl))))
    rw [List.drop_zero] at h
    exact h
theorem opens102 : Opens Tryd.prog 102 e_octets_Reader wf_octets_Reader := by
  intro H enc w fuel cs x hx
  obtain ⟨xs, m, _, _, hl, hn, hx⟩ := DataW.trod_struct Tryd.underlying102 hx
  rw [cellsOf_sz tk sz102 (by decide)] at hl
  obtain ⟨y0, w0, r0, o0⟩ := opens_f hx hn 0 (o := 0) (s := 1) rfl (opens_l tk Tryd.underlying22 (enc_u td5 sz5) (opens_u rfl rfl Tryd.underlying5)) rfl (cellsOf_sz tk sz22 (by decide))
  obtain ⟨y1, w1, r1, o1⟩ := opens_f hx hn 1 (o := 1) (s := 1) rfl (opens_i64 Tryd.underlying3) rfl (cellsOf_sz tk sz3 (by decide))
  obtain ⟨y2, w2, r2, o2⟩ := opens_f hx hn 2 (o := 2) (s := 1) rfl (opens_i64 Tryd.underlying33) rfl (cellsOf_sz tk sz33 (by decide))
  refine ⟨⟨y0, y1, y2⟩, ⟨w0, w1, w2⟩, ?_, ?_⟩
  · have h := (rel_piece r0 (rel_piece r1 (rel_piece r2 (rel_end hl))))
    rw [List.drop_zero] at h
    first | exact h | (simp only [List.append_nil, List.append_assoc] at h ⊢; exact h) | (simpa [AV.cells, e_octets_Reader, c_octets_Reader] using h)
  · have h := (one_piece o0 (one_piece o1 (one_piece o2 (one_end hl))))
    rw [List.drop_zero] at h
    exact h
def wf_reflectlite_ValueError (x : reflectlite_ValueError) : Prop := wfS x.Method ∧ wfT x.Kind
theorem opens140 : Opens Tryd.prog 140 e_reflectlite_ValueError wf_reflectlite_ValueError := by
  intro H enc w fuel cs x hx
  obtain ⟨xs, m, _, _, hl, hn, hx⟩ := DataW.trod_struct Tryd.underlying140 hx
  rw [cellsOf_sz tk sz140 (by decide)] at hl
  obtain ⟨y0, w0, r0, o0⟩ := opens_f hx hn 0 (o := 0) (s := 1) rfl (opens_s Tryd.underlying9) rfl (cellsOf_sz tk sz9 (by decide))
  obtain ⟨y1, w1, r1, o1⟩ := opens_f hx hn 1 (o := 1) (s := 1) rfl (opens_u rfl rfl Tryd.underlying95) rfl (cellsOf_sz tk sz95 (by decide))
  refine ⟨⟨y0, y1⟩, ⟨w0, w1⟩, ?_, ?_⟩
  · have h := (rel_piece r0 (rel_piece r1 (rel_end hl)))
    rw [List.drop_zero] at h
    first | exact h | (simp only [List.append_nil, List.append_assoc] at h ⊢; exact h) | (simpa [AV.cells, e_reflectlite_ValueError, c_reflectlite_ValueError] using h)
  · have h := (one_piece o0 (one_piece o1 (one_end hl)))
    rw [List.drop_zero] at h
    exact h
theorem opens141 : Opens Tryd.prog 141 e_reflectlite_ValueError wf_reflectlite_ValueError := by
  intro H enc w fuel cs x hx
  obtain ⟨xs, m, _, _, hl, hn, hx⟩ := DataW.trod_struct Tryd.underlying141 hx
  rw [cellsOf_sz tk sz141 (by decide)] at hl
  obtain ⟨y0, w0, r0, o0⟩ := opens_f hx hn 0 (o := 0) (s := 1) rfl (opens_s Tryd.underlying9) rfl (cellsOf_sz tk sz9 (by decide))
  obtain ⟨y1, w1, r1, o1⟩ := opens_f hx hn 1 (o := 1) (s := 1) rfl (opens_u rfl rfl Tryd.underlying95) rfl (cellsOf_sz tk sz95 (by decide))
  refine ⟨⟨y0, y1⟩, ⟨w0, w1⟩, ?_, ?_⟩
  · have h := (rel_piece r0 (rel_piece r1 (rel_end hl)))
    rw [List.drop_zero] at h
    first | exact h | (simp only [List.append_nil, List.append_assoc] at h ⊢; exact h) | (simpa [AV.cells, e_reflectlite_ValueError, c_reflectlite_ValueError] using h)
  · have h := (one_piece o0 (one_piece o1 (one_end hl)))
    rw [List.drop_zero] at h
    exact h
def wf_abi_Method (x : abi_Method) : Prop := (wfI .i32) x.Name ∧ (wfI .i32) x.Mtyp ∧ (wfI .i32) x.Ifn ∧ (wfI .i32) x.Tfn
theorem opens148 : Opens Tryd.prog 148 e_abi_Method wf_abi_Method := by
  intro H enc w fuel cs x hx
  obtain ⟨xs, m, _, _, hl, hn, hx⟩ := DataW.trod_struct Tryd.underlying148 hx
  rw [cellsOf_sz tk sz148 (by decide)] at hl
  obtain ⟨y0, w0, r0, o0⟩ := opens_f hx hn 0 (o := 0) (s := 1) rfl (opens_i Tryd.underlying134) rfl (cellsOf_sz tk sz134 (by decide))
  obtain ⟨y1, w1, r1, o1⟩ := opens_f hx hn 1 (o := 1) (s := 1) rfl (opens_i Tryd.underlying135) rfl (cellsOf_sz tk sz135 (by decide))
  obtain ⟨y2, w2, r2, o2⟩ := opens_f hx hn 2 (o := 2) (s := 1) rfl (opens_i Tryd.underlying147) rfl (cellsOf_sz tk sz147 (by decide))
  obtain ⟨y3, w3, r3, o3⟩ := opens_f hx hn 3 (o := 3) (s := 1) rfl (opens_i Tryd.underlying147) rfl (cellsOf_sz tk sz147 (by decide))
  refine ⟨⟨y0, y1, y2, y3⟩, ⟨w0, w1, w2, w3⟩, ?_, ?_⟩
  · have h := (rel_piece r0 (rel_piece r1 (rel_piece r2 (rel_piece r3 (rel_end hl)))))
    rw [List.drop_zero] at h
    first | exact h | (simp only [List.append_nil, List.append_assoc] at h ⊢; exact h) | (simpa [AV.cells, e_abi_Method, c_abi_Method] using h)
  · have h := (one_piece o0 (one_piece o1 (one_piece o2 (one_piece o3 (one_end hl)))))
    rw [List.drop_zero] at h
    exact h
theorem opens149 : Opens Tryd.prog 149 e_abi_Method wf_abi_Method := by
  intro H enc w fuel cs x hx
  obtain ⟨xs, m, _, _, hl, hn, hx⟩ := DataW.trod_struct Tryd.underlying149 hx
  rw [cellsOf_sz tk sz149 (by decide)] at hl
  obtain ⟨y0, w0, r0, o0⟩ := opens_f hx hn 0 (o := 0) (s := 1) rfl (opens_i Tryd.underlying134) rfl (cellsOf_sz tk sz134 (by decide))
  obtain ⟨y1, w1, r1, o1⟩ := opens_f hx hn 1 (o := 1) (s := 1) rfl (opens_i Tryd.underlying135) rfl (cellsOf_sz tk sz135 (by decide))
  obtain ⟨y2, w2, r2, o2⟩ := opens_f hx hn 2 (o := 2) (s := 1) rfl (opens_i Tryd.underlying147) rfl (cellsOf_sz tk sz147 (by decide))
  obtain ⟨y3, w3, r3, o3⟩ := opens_f hx hn 3 (o := 3) (s := 1) rfl (opens_i Tryd.underlying147) rfl (cellsOf_sz tk sz147 (by decide))
  refine ⟨⟨y0, y1, y2, y3⟩, ⟨w0, w1, w2, w3⟩, ?_, ?_⟩
  · have h := (rel_piece r0 (rel_piece r1 (rel_piece r2 (rel_piece r3 (rel_end hl)))))
    rw [List.drop_zero] at h
    first | exact h | (simp only [List.append_nil, List.append_assoc] at h ⊢; exact h) | (simpa [AV.cells, e_abi_Method, c_abi_Method] using h)
  · have h := (one_piece o0 (one_piece o1 (one_piece o2 (one_piece o3 (one_end hl)))))
    rw [List.drop_zero] at h
    exact h
end Go.Proofs.YthkfilchighbhaaDoor
namespace Go.Proofs.YthkfilchighbhaaDoor
open Go Go.Va
set_option linter.unusedVariables false
set_option linter.unusedSimpArgs false
theorem WireBack_pure (x : api_Msg) (b : List (BitVec 8)) (_ : wf_api_Msg x) (_ : wfL wfT b) : butterylaw23_WireBack x b = some true := by
  unfold butterylaw23_WireBack
  simp only [lt_eq]
  rcases light_eq23 x with h | ⟨h, h1, h2⟩
  · simp [h, works23]
  · simp only [h, Option.bind_some, Bool.not_true, Bool.false_eq_true, if_false]
    by_cases hb : (b.length : Int) > 5000
    · simp [hb, works23]
    · simp only [decide_eq_false hb, Option.bind_some, Bool.false_eq_true, if_false]
      rw [rcheck_eq (by omega)]
      simp only [Option.bind_some]
      have tail : ((butteryref03_Seal b).bind fun v55 => (wire_Get v55).bind fun v57 => if (!Err.isNil v57.2) = true then (butterylaw23_works).bind fun v67 => some v67 else (wire_Put v57.1).bind fun v69 => if Err.isNil v69.2 = true then (butteryref03_Seal b).bind fun v74 => (butteryref02_Same v69.1 v74).bind fun v76 => if v76 = true then (butterylaw23_works).bind fun v79 => some v79 else some false else some false) = some true := by
        rw [rcSeal_eq (by omega)]
        simp only [Option.bind_some]
        have hl := cseal_len b
        obtain ⟨e, e1, e2, e3⟩ := wget_eq (b := cseal b) (by omega)
        rw [e1]
        simp only [Option.bind_some, e3]
        by_cases hd : (decM (cseal b)).2 = 0
        · obtain ⟨k1, k2⟩ := enc_dec hd
          have hp := (wput_eq (decM (cseal b)).1).1 k1
          rw [hp]
          simp only [hd, decide_true, Bool.not_true, Bool.false_eq_true, if_false, Option.bind_some, show Err.isNil Err.nil = true from rfl, if_true, k2]
          rw [same_eq _ _ (by omega)]
          simp [works23]
        · simp [hd, works23]
      by_cases hc : ckM x = 0
      · have hp := (wput_eq x).1 hc
        have hl := encM_len (ckM_ok hc)
        obtain ⟨e, e1, e2, e3⟩ := wget_eq (b := cseal (encM x)) (by rw [cseal_len]; omega)
        rw [dec_enc hc] at e1 e2 e3
        rw [if_pos (by simp [hc]), hp]
        simp only [Option.bind_some, e1, show Err.isNil Err.nil = true from rfl, Bool.not_true, Bool.false_eq_true, if_false, e3, decide_true]
        rw [rsame_eq _ _ (by omega)]
        simp only [decide_true, Option.bind_some, Bool.not_true, Bool.false_eq_true, if_false, Sum.elim_inl]
        exact tail
      · rw [if_neg (by simpa using hc)]
        simp only [Option.bind_some, Sum.elim_inl]
        exact tail
end Go.Proofs.YthkfilchighbhaaDoor
namespace Go.Proofs.YthkfilchighbhaaDoor
open Go.ChangeShapes Go.WideShapes Go.RowKit
theorem own : ownKnob Tryd.prog.godebug = none := by kernel_rfl
theorem laidEt : Tryd.prog.globalNamed "errors.errorType" = some 0 := by kernel_rfl
theorem laidRt : (Tryd.prog.cutTypes.find? (·.1 == "internal/reflectlite.rtype")).map (·.2) = some 110 := by kernel_rfl
theorem laidRow : ((List.range 151).filter fun t => Tryd.prog.rowNamed t [101, 114, 114, 111, 114]) = [30] := by kernel_rfl
theorem laidSize : Tryd.prog.types.size = 151 := by kernel_rfl
def laidL {H : Type} : List (String × DataW H) := [("errors.errorType", Rows.laid_errors_errorType)]
theorem handle_of_laid {W : World} (h : laidMetH Tryd.prog laidL W) : W.cell? ⟨0, 0, none⟩ = some (.iface 110 (.agg #[.pointer (some ⟨1, 30, none⟩)])) := by
  have h' : laidMet Tryd.prog [] W ∧ handlesMet Tryd.prog laidL W := h
  obtain ⟨name, u, ty, e1, e2, e3, e4, e5⟩ := h'.2 _ (List.mem_singleton.2 rfl)
  have en : name = [101, 114, 114, 111, 114] := (Option.some.inj e1).symm
  subst en
  obtain rfl := Option.some.inj (laidRt.symm.trans e2)
  have hm : ty ∈ (List.range 151).filter fun t => Tryd.prog.rowNamed t [101, 114, 114, 111, 114] := List.mem_filter.2 ⟨List.mem_range.2 (by rw [← laidSize]; exact e3), e4⟩
  rw [laidRow] at hm
  obtain rfl := List.mem_singleton.1 hm
  have hh : typeHandle Tryd.prog 30 = .pointer (some ⟨1, 30, none⟩) := by kernel_rfl
  rw [hh] at e5
  simpa using World.var?_cell laidEt e5 0
/-- A world that meets the condition. -/
noncomputable def laidWorld (os : Os) : World :=
  let w0 := World.holding Tryd.prog os ⟨#[], #[], []⟩
  { w0 with heap := w0.heap.modify 0 fun
      | .cells _ t frozen => .cells #[.iface 110 (.agg #[.pointer (some ⟨1, 30, none⟩)])] t frozen
      | o => o }
theorem laidWorld_met (os : Os) (args : Array Value) : laidMetH Tryd.prog laidL ((laidWorld os).forCall (fun _ _ => 0) ⟨#[], args, []⟩).memory :=
  laidMetH_of_parts (laidMet_nil _ _) (by kernel_rfl)
theorem gls_met {W : World} (h : laidMetH Tryd.prog laidL W) : ∀ p ∈ gls, W.cell? p.1 = some p.2 := by
  intro p hp
  obtain rfl := List.mem_singleton.1 hp
  exact handle_of_laid h
theorem laidOut : laidOutB Tryd.prog = true := by kernel_rfl
end Go.Proofs.YthkfilchighbhaaDoor
