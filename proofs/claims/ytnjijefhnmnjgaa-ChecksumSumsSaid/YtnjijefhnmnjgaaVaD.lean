/- Rows: their cells, how they are read and appended to. -/
import Derived.Test.YtnjijefhnmnjgaaVaC
import Derived.Deep.AppendSrc
namespace Go.Va
open Go Go.RowKit
set_option linter.unusedVariables false
set_option linter.unusedSimpArgs false

def flat (es : List AV) : List AV := es.flatMap AV.cells
theorem flat_nil : flat [] = [] := rfl
theorem flat_cons (e : AV) (es : List AV) : flat (e :: es) = e.cells ++ flat es := rfl
theorem flat_append (es fs : List AV) : flat (es ++ fs) = flat es ++ flat fs := by simp [flat]
theorem flat_length {sz : Nat} : ∀ {es : List AV}, (∀ e ∈ es, e.cells.length = sz) → (flat es).length = es.length * sz
  | [], _ => by simp [flat]
  | e :: es, h => by
    rw [flat_cons, List.length_append, flat_length (fun x hx => h x (List.mem_cons_of_mem _ hx)), h e List.mem_cons_self, List.length_cons, Nat.add_mul]
    omega
theorem flat_get {sz : Nat} : ∀ {es : List AV} (_ : ∀ e ∈ es, e.cells.length = sz) {i j : Nat} {e a : AV}, es[i]? = some e → e.cells[j]? = some a → (flat es)[i * sz + j]? = some a
  | [], _, i, j, e, a, h1, _ => by simp at h1
  | x :: es, h, i, j, e, a, h1, h2 => by
    have hx := h x List.mem_cons_self
    cases i with
    | zero =>
      simp at h1; subst h1
      have hj : j < x.cells.length := (List.getElem?_eq_some_iff.1 h2).1
      rw [flat_cons, Nat.zero_mul, Nat.zero_add, List.getElem?_append_left hj]
      exact h2
    | succ i =>
      have := flat_get (fun y hy => h y (List.mem_cons_of_mem _ hy)) (i := i) (by simpa using h1) h2
      rw [flat_cons, List.getElem?_append_right (by rw [hx, Nat.add_mul]; omega), hx]
      rw [show (i + 1) * sz + j - sz = i * sz + j by rw [Nat.add_mul]; omega]
      exact this
theorem flat_at {sz : Nat} {es : List AV} (h : ∀ e ∈ es, e.cells.length = sz) {k : Nat} {a : AV} (hk : (flat es)[k]? = some a) :
    ∃ i e j, k = i * sz + j ∧ j < sz ∧ es[i]? = some e ∧ e.cells[j]? = some a := by
  have hl : k < es.length * sz := by rw [← flat_length h]; exact (List.getElem?_eq_some_iff.1 hk).1
  have hs : 0 < sz := by
    rcases Nat.eq_zero_or_pos sz with h0 | h0
    · subst h0; simp at hl
    · exact h0
  have hi : k / sz < es.length := Nat.div_lt_of_lt_mul (by rw [Nat.mul_comm]; exact hl)
  have hj : k % sz < sz := Nat.mod_lt _ hs
  have hk' : k = k / sz * sz + k % sz := by rw [Nat.mul_comm]; exact (Nat.div_add_mod k sz).symm
  have hz := h es[k / sz] (List.getElem_mem hi)
  refine ⟨k / sz, es[k / sz], k % sz, hk', hj, List.getElem?_eq_getElem hi, ?_⟩
  have hc : k % sz < es[k / sz].cells.length := by rw [hz]; exact hj
  have := flat_get h (List.getElem?_eq_getElem hi) (List.getElem?_eq_getElem hc)
  rw [← hk', hk] at this
  rw [List.getElem?_eq_getElem hc]
  exact this.symm ▸ rfl

/-- The elements of a slice. -/
def elems : AV → Option (Nat × List AV)
  | .sl _ sz es => some (sz, es)
  | _ => none

/-- A slice's cells. -/
structure Row (G : Ghost) (v : Value) (sz : Nat) (es : List AV) (A : Option Addr) (c : Nat) (news : List Value) : Prop where
  val : v = .slice A es.length c
  le : es.length ≤ c
  max : c ≤ maxLen
  hz : ∀ e ∈ es, e.cells.length = sz
  len : news.length = es.length * sz
  rel : RelL G news (flat es)
  at_ : 0 < es.length → ∃ b o, A = some ⟨b, o, none⟩ ∧ ∀ j u, news[j]? = some u → G.fz b (o + j) = some u
theorem Rel.row {G : Ghost} {v : Value} {t : Tok} {sz : Nat} {es : List AV} (h : Rel G v (.sl t sz es)) : ∃ A c news, Row G v sz es A c news := by
  cases h with
  | sl0 A c t sz hm ht => exact ⟨A, c, [], rfl, Nat.zero_le _, hm, (fun e he => by cases he), (by simp), RelL.nil G, (fun h => by simp at h)⟩
  | sl b o c t sz es val hc hm hz hf h ht =>
    have hlen := flat_length hz
    refine ⟨some ⟨b, o, none⟩, c, (List.range (es.length * sz)).map (fun k => val (k / sz) (k % sz)), rfl, hc, hm, hz, by simp, ⟨by simp [hlen], fun k v a h1 h2 => ?_⟩, fun _ => ⟨b, o, rfl, fun k u h1 => ?_⟩⟩
    · obtain ⟨i, e, j, rfl, hj, h3, h4⟩ := flat_at hz h2
      have : (i * sz + j) / sz = i ∧ (i * sz + j) % sz = j := by
        rw [Nat.mul_comm, Nat.mul_add_div (by omega), Nat.mul_add_mod]
        exact ⟨by rw [Nat.div_eq_of_lt hj]; rfl, Nat.mod_eq_of_lt hj⟩
      rw [List.getElem?_map] at h1
      simp only [Option.map_eq_some_iff] at h1
      obtain ⟨k, hk, rfl⟩ := h1
      have hk' : k = i * sz + j := by
        have := (List.getElem?_eq_some_iff.1 hk).2
        simpa using this.symm
      subst hk'
      rw [this.1, this.2]
      exact h i e j a h3 h4
    · rw [List.getElem?_map] at h1
      simp only [Option.map_eq_some_iff] at h1
      obtain ⟨k', hk, rfl⟩ := h1
      obtain ⟨hlt, he⟩ := List.getElem?_eq_some_iff.1 hk
      simp at hlt he
      subst he
      obtain ⟨a, ha⟩ : ∃ a, (flat es)[k]? = some a := ⟨_, List.getElem?_eq_getElem (by rw [hlen]; exact hlt)⟩
      obtain ⟨i, e, j, rfl, hj, h3, h4⟩ := flat_at hz ha
      have : (i * sz + j) / sz = i ∧ (i * sz + j) % sz = j := by
        rw [Nat.mul_comm, Nat.mul_add_div (by omega), Nat.mul_add_mod]
        exact ⟨by rw [Nat.div_eq_of_lt hj]; rfl, Nat.mod_eq_of_lt hj⟩
      rw [this.1, this.2, ← Nat.add_assoc]
      exact hf i e j a h3 h4
/-- A slice out of cells that never change. -/
theorem Rel.mkSl {G : Ghost} {b o c sz : Nat} {t : Tok} {es : List AV} {news : List Value} (hc : es.length ≤ c) (hm : c ≤ maxLen) (hz : ∀ e ∈ es, e.cells.length = sz) (hr : RelL G news (flat es))
    (hf : ∀ j u, news[j]? = some u → G.fz b (o + j) = some u) (ht : TokOk G t b o es.length c sz) : Rel G (.slice (some ⟨b, o, none⟩) es.length c) (.sl t sz es) := by
  have key : ∀ (i : Nat) (e : AV) (j : Nat) (a : AV), es[i]? = some e → e.cells[j]? = some a → ∃ u, news[i * sz + j]? = some u ∧ Rel G u a := fun i e j a h1 h2 => hr.get (flat_get hz h1 h2)
  refine .sl b o c t sz es (fun i j => (news[i * sz + j]?).getD undef) hc hm hz (fun i e j a h1 h2 => ?_) (fun i e j a h1 h2 => ?_) ht
  · obtain ⟨u, hu, _⟩ := key i e j a h1 h2
    rw [hu, Nat.add_assoc]
    exact hf _ u hu
  · obtain ⟨u, hu, hr⟩ := key i e j a h1 h2
    rw [hu]
    exact hr

theorem Row.one {w0 : World} {G : Ghost} {w : World} {σ : St} (hI : Inv w0 G w σ) {v : Value} {sz : Nat} {es : List AV} {A : Option Addr} {c : Nat} {news : List Value} (h : Row G v sz es A c news) : ∀ u ∈ news, u.oneCell' = true := by
  intro u hu
  obtain ⟨j, hj⟩ := List.mem_iff_getElem?.1 hu
  have hp : 0 < es.length := by
    rcases Nat.eq_zero_or_pos es.length with h0 | h0
    · have := h.len; rw [h0, Nat.zero_mul] at this
      rw [List.eq_nil_of_length_eq_zero this] at hj; simp at hj
    · exact h0
  obtain ⟨b, o, _, hf⟩ := h.at_ hp
  exact (hI.fz b _ u (hf j u hj)).2
theorem Row.src {P : Program} {w0 : World} {G : Ghost} {w : World} {σ : St} (hI : Inv w0 G w σ) {v : Value} {sz : Nat} {es : List AV} {A : Option Addr} {c : Nat} {news : List Value} (h : Row G v sz es A c news) {tx e' : TypeId} (hk : P.underlying tx = some (.slice e')) :
    Src P sz tx v es.length news w := by
  have h1 := h.one hI
  rw [h.val]
  cases A with
  | some a =>
    refine Src.ofSlice w hk a _ _ _ h.len (fun j u hu => ?_) h1
    have hp : 0 < es.length := by
      rcases Nat.eq_zero_or_pos es.length with h0 | h0
      · have := h.len; rw [h0, Nat.zero_mul] at this
        rw [List.eq_nil_of_length_eq_zero this] at hu; simp at hu
      · exact h0
    obtain ⟨b, o, he, hf⟩ := h.at_ hp
    injection he with he
    subst he
    rw [Addr.add_lit]
    exact (hI.fz b _ u (hf j u hu)).1
  | none =>
    have h0 : es.length = 0 := by
      rcases Nat.eq_zero_or_pos es.length with h0 | h0
      · exact h0
      · obtain ⟨b, o, he, _⟩ := h.at_ h0; cases he
    have hn : news = [] := List.eq_nil_of_length_eq_zero (by rw [h.len, h0, Nat.zero_mul])
    rw [h0, hn]
    exact Src.ofNil w hk c
end Go.Va
