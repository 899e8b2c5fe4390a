/- A law's call becomes what its row wants. -/
import Derived.Test.YtnjijefhnmnjgaaVaQ
namespace Go.Va
open Go Go.RowKit
set_option linter.unusedVariables false
set_option linter.unusedSimpArgs false

/-- What is known at a law's begin: what lies in memory. -/
def argG (w : World) : Ghost := ⟨fun b o => match w.cell? ⟨b, o, none⟩ with | some v => if v.oneCell' = true then some v else none | none => none, fun _ => none, fun _ => none, 0, fun _ => false⟩
theorem argG_fz {w : World} {b o : Nat} {v : Value} (h : w.cell? ⟨b, o, none⟩ = some v) (h1 : v.oneCell' = true) : (argG w).fz b o = some v := by
  simp [argG, h, h1]
theorem argG_inv (w : World) : Inv w (argG w) w ⟨[], []⟩ := by
  refine ⟨Below.refl _ _, fun b o v h => ?_, fun id c h => by simp at h, fun id b o h => by simp [argG] at h, fun id b h => by simp [argG] at h, fun i j b h => by simp [argG] at h, fun t b top en h => by simp at h, fun t x h => by simp [argG] at h, fun t t' x x' h => by simp at h, Nat.le_refl _, fun b h => by simp [argG] at h⟩
  simp only [argG] at h
  split at h
  case h_2 => cases h
  rename_i u hu
  split at h
  case isFalse => cases h
  rename_i h1
  cases h
  exact ⟨hu, h1⟩
/-- THE BRIDGE. -/
theorem ACall.said {P : Program} {n : FuncId} {args : List AV} {vs : Array Value} {w : World} (hc : ACall P n args ⟨[], []⟩ (fun a _ => a = .bool true)) (hr : RelL (argG w) vs.toList args) :
    Calls P n vs w fun e w' => e = .returned (.bool true) ∧ Below w.heap.size w w' :=
  (hc.2 w (argG w) w vs (argG_inv w) hr).mono fun e w' ⟨v, a, σ', G', h1, _, h3, h4, h5⟩ => by
    subst h5
    cases h4
    exact ⟨h1, h3.below⟩

theorem St.Le.push (σ : St) (c : List AV) : σ.Le ⟨σ.objs ++ [c], σ.opn⟩ :=
  ⟨fun id c' h => by rw [List.getElem?_append_left (List.getElem?_eq_some_iff.1 h).1]; exact h, fun t h => h⟩
theorem St.Le.open_ (σ : St) (b : Bool) : σ.Le ⟨σ.objs, σ.opn ++ [b]⟩ :=
  ⟨fun id c h => h, fun t h => by rw [List.getElem?_append_left (List.getElem?_eq_some_iff.1 h).1]; exact h⟩
/-! ### slices in use -/
section
variable {Ty : TypeId → Option TI} {T U e : TypeId} {sz : Nat} {es : List AV} {a : AV} {σ σ0 : St}
theorem Sl.at8 {b : List (BitVec 8)} (h : Sl 1 (bys b) a) (hd : tdOf Ty T = .slice e) (hz : szOf Ty e = 1) {k : IntKind} {i : Nat} {c : BitVec 8} (hi : b[i]? = some c) : aindexAddr Ty T a (.int k (i : Int)) = some (.fptr [.int .u8 (c.toNat : Int)] 0) :=
  h.addr hd hz (by decide) (by omega) (y := .int .u8 (c.toNat : Int)) (by rw [Int.toNat_natCast, bys_get, hi]; rfl)
theorem Sl.at64 {l : List Int} {k' : IntKind} (h : Sl 1 (ints k' l) a) (hd : tdOf Ty T = .slice e) (hz : szOf Ty e = 1) {k : IntKind} {i : Nat} {c : Int} (hi : l[i]? = some c) : aindexAddr Ty T a (.int k (i : Int)) = some (.fptr [.int k' c] 0) :=
  h.addr hd hz (by decide) (by omega) (y := .int k' c) (by rw [Int.toNat_natCast]; simp [ints, hi])
theorem Sl.cut (h : Sl sz es a) (hd : tdOf Ty T = .slice e) (hz : szOf Ty e = sz) (h0 : sz ≠ 0) {lo hi : Option AV} {l m : Nat} (hl : abnd 0 lo = some l) (hm : abnd es.length hi = some m) (h1 : l ≤ m) (h2 : m ≤ es.length) : ∃ a', aslice Ty T a lo hi σ = some a' ∧ Sl sz ((es.take m).drop l) a' := by
  rcases h with ⟨rfl, rfl⟩ | ⟨t, rfl⟩
  · have : m = 0 := by simpa using h2
    subst this
    have : l = 0 := by omega
    subst this
    refine ⟨.nils, ?_, .inl ⟨rfl, by simp⟩⟩
    simp only [List.length_nil] at hm
    simp [aslice, hd, hl, hm, hz, h0]
  · exact ⟨_, by simp only [aslice, hd, hl, hm, hz]; rw [if_pos ⟨h1, h2, trivial, h0⟩], .inr ⟨_, rfl⟩⟩
theorem flat_flat : ∀ {es : List AV}, (∀ x ∈ es, x.cells = [x]) → flat es = es := flat_one
theorem Sl.arr (h : Sl sz es a) {n : Nat} (hd : tdOf Ty T = .arr n e) (hz : szOf Ty e = sz) (hn : 0 < n) (hl : es.length = n) (hf : ∀ x ∈ es, x.cells = [x]) : aarrAt Ty T a = some (.fptr es 0) := by
  rcases h with ⟨rfl, rfl⟩ | ⟨t, rfl⟩
  · simp at hl; omega
  · simp only [aarrAt, hd, hz]
    rw [if_pos ⟨hn, by omega, trivial⟩, List.take_of_length_le (by omega), flat_one hf]
theorem bys_take (b : List (BitVec 8)) (n : Nat) : (bys b).take n = bys (b.take n) := by simp [bys, List.map_take]
theorem bys_drop (b : List (BitVec 8)) (n : Nat) : (bys b).drop n = bys (b.drop n) := by simp [bys, List.map_drop]
theorem ints_take (k : IntKind) (b : List Int) (n : Nat) : (ints k b).take n = ints k (b.take n) := by simp [ints, List.map_take]
theorem ints_drop (k : IntKind) (b : List Int) (n : Nat) : (ints k b).drop n = ints k (b.drop n) := by simp [ints, List.map_drop]
theorem bys_flat (b : List (BitVec 8)) : ∀ x ∈ bys b, x.cells = [x] := by
  intro x hx
  simp only [bys, List.mem_map] at hx
  obtain ⟨c, _, rfl⟩ := hx
  rfl
theorem bys_detok (b : List (BitVec 8)) : ∀ x ∈ bys b, detok x = x := by
  intro x hx
  simp only [bys, List.mem_map] at hx
  obtain ⟨c, _, rfl⟩ := hx
  rfl
theorem ints_detok (k : IntKind) (b : List Int) : ∀ x ∈ ints k b, detok x = x := by
  intro x hx
  simp only [ints, List.mem_map] at hx
  obtain ⟨c, _, rfl⟩ := hx
  rfl
theorem intsOf_bys : ∀ b : List (BitVec 8), intsOf .u8 (bys b) = some (b.map fun c => (c.toNat : Int))
  | [] => rfl
  | c :: b => by
    show intsOf .u8 (.int .u8 (c.toNat : Int) :: bys b) = _
    rw [intsOf, if_pos rfl, intsOf_bys b]
    rfl
theorem aeqAgg_bys {op : BinOp} {n : Nat} (hd : tdOf Ty T = .arr n e) (he : tdOf Ty e = .int .u8) (hs : szOf Ty e = 1) {l m : List (BitVec 8)} (hl : l.length = n) (hm : m.length = n) : aeqAgg Ty op T (bys l) (bys m) = aeq op (decide (l = m)) := by
  simp only [aeqAgg, hd, he, hs, intsOf_bys, if_true, List.length_map, hl, hm, and_self]
  congr 1
  rw [decide_eq_decide]
  constructor
  · intro h
    exact List.map_inj_right (fun x y h => BitVec.eq_of_toNat_eq (by omega)) |>.1 h
  · rintro rfl; rfl
/-- A slice to which one may append: what is made here, or full, or nil. -/
def Ap (sz : Nat) (σ0 σ : St) (es : List AV) (a : AV) : Prop := (a = .nils ∧ es = []) ∨ a = .sl .full sz es ∨ ∃ t, a = .sl (.own t) sz es ∧ σ.opn[t]? = some true ∧ σ0.opn.length ≤ t
theorem Ap.sl (h : Ap sz σ0 σ es a) : Sl sz es a := by
  rcases h with ⟨rfl, rfl⟩ | rfl | ⟨t, rfl, _⟩
  · exact .inl ⟨rfl, rfl⟩
  · exact .inr ⟨_, rfl⟩
  · exact .inr ⟨_, rfl⟩
theorem Sl.src (h : Sl sz es a) (hd : tdOf Ty T = .slice e) : srcOf Ty T sz σ a = some es := by
  rcases h with ⟨rfl, rfl⟩ | ⟨t, rfl⟩ <;> simp [srcOf, hd]
theorem opn_push {σ : St} {t : Nat} {x : Bool} (h : σ.opn[t]? = some true) : (σ.opn ++ [x])[t]? = some true := by
  rw [List.getElem?_append_left (List.getElem?_eq_some_iff.1 h).1]; exact h
theorem Ap.append (h : Ap sz σ0 σ es a) (hle : σ0.Le σ) (hlen : σ0.opn.length ≤ σ.opn.length) {i : TI} (hd : tdOf Ty T = .slice e) (he : Ty e = some i) (hs : i.sz = sz) (hb : 0 < i.bytes) {y : AV} {ys : List AV} (hy : srcOf Ty U sz σ y = some ys) (hm : (es.length + ys.length) * i.bytes ≤ 140737488355328) :
    ∃ a' σ', aappend Ty T U a y σ = some (a', σ') ∧ Ap sz σ0 σ' (es ++ ys) a' ∧ σ0.Le σ' ∧ σ'.objs = σ.objs ∧ σ.opn.length ≤ σ'.opn.length := by
  subst hs
  have key : ∀ k, baseOf i.sz σ a = some (k, es) → ∃ a' σ', aappend Ty T U a y σ = some (a', σ') ∧ a' = .sl (.own σ.opn.length) i.sz (es ++ ys) ∧ σ' = closed σ k := by
    intro k hk
    exact ⟨.sl (.own σ.opn.length) i.sz (es ++ ys), closed σ k, by simp only [aappend, hd, he, hk, hy]; rw [if_pos ⟨hb, hm⟩], rfl, rfl⟩
  have fin : ∀ k, (∀ t, k = .own t → σ0.opn.length ≤ t) → baseOf i.sz σ a = some (k, es) → ∃ a' σ', aappend Ty T U a y σ = some (a', σ') ∧ Ap i.sz σ0 σ' (es ++ ys) a' ∧ σ0.Le σ' ∧ σ'.objs = σ.objs ∧ σ.opn.length ≤ σ'.opn.length := by
    intro k hk hbase
    obtain ⟨a', σ', h1, rfl, rfl⟩ := key k hbase
    obtain ⟨c1, c2, c3⟩ := close_sub σ k
    refine ⟨_, _, h1, .inr (.inr ⟨_, rfl, ?_, hlen⟩), ⟨fun id c hc => by rw [c1]; exact hle.objs id c hc, fun t ht => ?_⟩, c1, c2⟩
    · cases k <;> simp [closed]
    · have h2 := hle.opn t ht
      have h3 : t < σ0.opn.length := (List.getElem?_eq_some_iff.1 ht).1
      have h4 : t < σ.opn.length := (List.getElem?_eq_some_iff.1 h2).1
      cases k with
      | own u =>
        have := hk u rfl
        simp only [closed]
        rw [List.getElem?_append_left (by simpa using h4), List.getElem?_set, if_neg (by omega)]
        exact h2
      | no => exact opn_push h2
      | full => exact opn_push h2
  rcases h with ⟨rfl, rfl⟩ | rfl | ⟨t, rfl, ht, hge⟩
  · exact fin .full (by simp) rfl
  · exact fin .full (by simp) (by simp [baseOf])
  · exact fin (.own t) (by rintro _ ⟨⟩; exact hge) (by simp [baseOf, ht])
end
/-- A row that came in. -/
def IsRow (k : IntKind) (w : World) (a : Option Addr) (len cap : Nat) (zs : List Int) : Prop :=
  (a = none ∧ len = 0 ∧ cap = 0 ∧ zs = []) ∨
  ∃ x, a = some x ∧ len ≤ cap ∧ cap ≤ maxLen ∧ zs.length = cap ∧ (∀ i, i < zs.length → w.cell? (x.add i) = some (.int k (zs.getD i 0))) ∧ ∀ n ∈ zs, (Lit.int k n).wf = true
theorem row_ints {k : IntKind} {w : World} {a : Option Addr} {len cap : Nat} {zs : List Int} (h : IsRow k w a len cap zs) : ∃ av, Rel (argG w) (.slice a len cap) av ∧ Sl 1 (ints k (zs.take len)) av ∧ (zs.take len).length = len := by
  rcases h with ⟨rfl, rfl, rfl, rfl⟩ | ⟨x, rfl, h1, h2, h3, h4, _⟩
  · exact ⟨.nils, .nils, .inl ⟨rfl, rfl⟩, rfl⟩
  · cases len with
    | zero => exact ⟨.sl .no 1 [], .sl0 _ _ _ _ h2 (.inl rfl), .inr ⟨.no, by simp [ints]⟩, rfl⟩
    | succ len =>
      have hx : x.spot = none := World.cell?_spot (h4 0 (by omega))
      obtain ⟨b, o, sp⟩ := x
      simp only at hx
      subst hx
      have hl : (ints k (zs.take (len + 1))).length = len + 1 := by simp; omega
      refine ⟨.sl .no 1 (ints k (zs.take (len + 1))), ?_, .inr ⟨.no, rfl⟩, by simp; omega⟩
      have key := Rel.sl (G := argG w) b o cap .no 1 (ints k (zs.take (len + 1))) (fun i _ => .int k (zs.getD i 0)) (by omega) h2 ?_ ?_ ?_ trivial
      · rw [hl] at key
        exact key
      · intro e he
        simp only [ints, List.mem_map] at he
        obtain ⟨n, _, rfl⟩ := he
        rfl
      · intro i e j y h5 h6
        have hi : i < len + 1 := by rw [← hl]; exact (List.getElem?_eq_some_iff.1 h5).1
        have he : e.cells = [e] := by
          simp only [ints, List.getElem?_map, Option.map_eq_some_iff] at h5
          obtain ⟨n, _, rfl⟩ := h5
          rfl
        rw [he] at h6
        cases j with
        | succ j => simp at h6
        | zero =>
          have h7 := h4 i (by omega)
          refine argG_fz ?_ (by simp [Value.oneCell'])
          by_cases hi0 : i = 0
          · subst hi0; simpa [Addr.add] using h7
          · simpa [Addr.add, hi0] using h7
      · intro i e j y h5 h6
        simp only [ints, List.getElem?_map, Option.map_eq_some_iff] at h5
        obtain ⟨n, h5, rfl⟩ := h5
        cases j with
        | succ j => simp [AV.cells] at h6
        | zero =>
          simp [AV.cells] at h6
          subst h6
          rw [List.getElem?_take] at h5
          split at h5
          case isFalse => cases h5
          rw [List.getD_eq_getElem?_getD, h5]
          exact .int _ _
theorem wf_u8 {n : Int} (h : (Lit.int .u8 n).wf = true) : 0 ≤ n ∧ n < 256 := by
  simp [Lit.wf, IntKind.min, IntKind.max, IntKind.signed, IntKind.bits] at h
  omega
theorem ints_bys {l : List Int} (h : ∀ n ∈ l, 0 ≤ n ∧ n < 256) : ints .u8 l = bys (l.map (BitVec.ofInt 8)) := by
  simp only [ints, bys, List.map_map]
  refine List.map_congr_left fun n hn => ?_
  simp only [Function.comp]
  rw [← lit_u8 n (h n hn).1 (h n hn).2]
theorem wf_u8_bv {n : Int} (h : (Lit.int .u8 n).wf = true) : ∃ c : BitVec 8, n = (c.toNat : Int) := by
  have h2 : 0 ≤ n ∧ n < 256 := by
    simp [Lit.wf, IntKind.min, IntKind.max, IntKind.signed, IntKind.bits] at h
    omega
  exact ⟨BitVec.ofInt 8 n, lit_bv8 n h2.1 h2.2⟩
theorem wf_u16_bv {n : Int} (h : (Lit.int .u16 n).wf = true) : ∃ c : BitVec 16, n = (c.toNat : Int) := by
  have h2 : 0 ≤ n ∧ n < 65536 := by
    simp [Lit.wf, IntKind.min, IntKind.max, IntKind.signed, IntKind.bits] at h
    omega
  exact ⟨BitVec.ofInt 16 n, lit_bv16 n h2.1 h2.2⟩
theorem wf_u32_bv {n : Int} (h : (Lit.int .u32 n).wf = true) : ∃ c : BitVec 32, n = (c.toNat : Int) := by
  have h2 : 0 ≤ n ∧ n < 4294967296 := by
    simp [Lit.wf, IntKind.min, IntKind.max, IntKind.signed, IntKind.bits] at h
    omega
  exact ⟨BitVec.ofInt 32 n, lit_bv32 n h2.1 h2.2⟩
theorem wf_u64_bv {n : Int} (h : (Lit.int .u64 n).wf = true) : ∃ c : BitVec 64, n = (c.toNat : Int) := by
  have h2 : 0 ≤ n ∧ n < 18446744073709551616 := by
    simp [Lit.wf, IntKind.min, IntKind.max, IntKind.signed, IntKind.bits] at h
    omega
  exact ⟨BitVec.ofInt 64 n, lit_bv64 n h2.1 h2.2⟩
theorem wf_i64 {n : Int} (h : (Lit.int .i64 n).wf = true) : -9223372036854775808 ≤ n ∧ n ≤ 9223372036854775807 := by
  simp [Lit.wf, IntKind.min, IntKind.max, IntKind.signed, IntKind.bits] at h
  omega
theorem row_ints' {k : IntKind} {w : World} {a : Option Addr} {len cap : Nat} {zs : List Int} (h : IsRow k w a len cap zs) : ∃ av, Rel (argG w) (.slice a len cap) av ∧ Sl 1 (ints k (zs.take len)) av ∧ (zs.take len).length = len ∧ ∀ n ∈ zs.take len, (Lit.int k n).wf = true := by
  obtain ⟨av, h1, h2, h3⟩ := row_ints h
  refine ⟨av, h1, h2, h3, fun n hn => ?_⟩
  rcases h with ⟨rfl, rfl, rfl, rfl⟩ | ⟨x, rfl, _, _, _, _, h6⟩
  · simp at hn
  · exact h6 n (List.mem_of_mem_take hn)
theorem row_bys {w : World} {a : Option Addr} {len cap : Nat} {zs : List Int} (h : IsRow .u8 w a len cap zs) : ∃ av l, Rel (argG w) (.slice a len cap) av ∧ Sl 1 (bys l) av ∧ l.length = len := by
  obtain ⟨av, h1, h2, h3⟩ := row_ints h
  have hz : ∀ n ∈ zs, 0 ≤ n ∧ n < 256 := by
    rcases h with ⟨rfl, rfl, rfl, rfl⟩ | ⟨x, rfl, _, _, _, _, h6⟩
    · simp
    · exact fun n hn => wf_u8 (h6 n hn)
  refine ⟨av, (zs.take len).map (BitVec.ofInt 8), h1, ?_, by simpa using h3⟩
  rw [← ints_bys (fun n hn => hz n (List.mem_of_mem_take hn))]
  exact h2
end Go.Va
