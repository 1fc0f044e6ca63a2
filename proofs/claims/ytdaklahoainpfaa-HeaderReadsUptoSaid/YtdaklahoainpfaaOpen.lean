/- From an argument's reading as data to the list, text or number that it stands for, with its bulk: plain steps for any kinds. -/
import Derived.Test.YtdaklahoainpfaaRows
import Derived.Test.YtdaklahoainpfaaWWords
import Derived.ChangeArms
import Derived.ProofKit
import Derived.Deep.Slices
namespace Go.Proofs.Ytdaklahoainpfaa.Open
open Go.Proofs.YtdaklahoainpfaaW.PrintWords
set_option linter.unusedVariables false

/-- What reads as data of type t is of the kind d; m: its bulk; g: its numbers are of their kinds. -/
def Opens (P : Program) (t : TypeId) {α : Type} (d : Kd α) (m : α → Nat) (g : α → Prop) : Prop :=
  ∀ {H : Type} (enc : TypeId × Value → H) (w : World) (base : Nat) (spare : Nat → Bool) (held : Bool) (fuel : Nat) (cs : List Value) (x : DataW H × List MemPlace),
    DataW.trod enc P w base spare held fuel t cs = some x → ∃ a, d.K w a cs ∧ m a ≤ Rows.uptoBulk x.1 ∧ g a
def mOne {α : Type} (_ : α) : Nat := 1
def mStr (s : ByteArray) : Nat := s.size + 1
def mList {α : Type} (m : α → Nat) (l : List α) : Nat := (l.map m).sum + 1
def gAny {α : Type} (_ : α) : Prop := True
def gInt (k : IntKind) (n : Int) : Prop := (Lit.int k n).wf = true
def gList {α : Type} (g : α → Prop) (l : List α) : Prop := ∀ x ∈ l, g x

section
variable {P : Program} {t : TypeId}
theorem opens_int {k : IntKind} (ht : P.underlying t = some (.int k)) : Opens P t (Kd.int k) mOne (gInt k) := by
  intro H enc w base spare held fuel cs x h
  obtain ⟨n, rfl, rfl, hw⟩ := DataW.trod_int ht h
  exact ⟨n, rfl, by simp [mOne, Rows.uptoBulk], hw⟩
theorem opens_bool (ht : P.underlying t = some .bool) : Opens P t Kd.bool mOne gAny := by
  intro H enc w base spare held fuel cs x h
  obtain ⟨b, rfl, rfl⟩ := DataW.trod_bool ht h
  exact ⟨b, rfl, by simp [mOne, Rows.uptoBulk], trivial⟩
theorem opens_string (ht : P.underlying t = some .string) : Opens P t Kd.string mStr gAny := by
  intro H enc w base spare held fuel cs x h
  obtain ⟨s, rfl, rfl, _⟩ := DataW.trod_string ht h
  exact ⟨s, rfl, by simp only [mStr, Rows.uptoBulk]; exact Nat.le_of_eq rfl, trivial⟩
theorem exists_list {α : Type} (p : Nat → α → Prop) : ∀ n, (∀ i, i < n → ∃ x, p i x) → ∃ xs : List α, xs.length = n ∧ ∀ (i : Nat) (x : α), xs[i]? = some x → p i x := by
  intro n
  induction n with
  | zero => intro _; exact ⟨[], rfl, fun i x h => by simp at h⟩
  | succ n ih =>
    intro h
    obtain ⟨xs, hl, hx⟩ := ih fun i hi => h i (by omega)
    obtain ⟨y, hy⟩ := h n (by omega)
    refine ⟨xs ++ [y], by simp [hl], fun i x hix => ?_⟩
    rcases Nat.lt_or_ge i n with hlt | hge
    · rw [List.getElem?_append_left (by omega)] at hix
      exact hx i x hix
    · have := (List.getElem?_eq_some_iff.1 hix).1
      simp [hl] at this
      obtain rfl : i = n := by omega
      rw [List.getElem?_append_right (by omega)] at hix
      simp [hl] at hix
      exact hix ▸ hy
theorem sum_le {α H : Type} (m : α → Nat) : ∀ (xs : List α) (es : List (DataW H)), xs.length = es.length → (∀ (i : Nat) (x : α) (e : DataW H), xs[i]? = some x → es[i]? = some e → m x ≤ Rows.uptoBulk e) → (xs.map m).sum ≤ Rows.uptoBulkAll es := by
  intro xs
  induction xs with
  | nil => intro es _ _; simp
  | cons x xs ih =>
    intro es hl h
    cases es with
    | nil => simp at hl
    | cons e es =>
      have h0 := h 0 x e rfl rfl
      have h1 := ih es (by simpa using hl) fun i y f hy hf => h (i + 1) y f (by simpa using hy) (by simpa using hf)
      simp only [List.map_cons, List.sum_cons, Rows.uptoBulkAll]
      omega
theorem opens_slice {e : TypeId} {α : Type} {d : Kd α} {m : α → Nat} {g : α → Prop} (ht : P.underlying t = some (.slice e)) (hc : P.cellsOf e = d.sz) (hd : Opens P e d m g) : Opens P t (Kd.slice e d) (mList m) (gList g) := by
  intro H enc w base spare held fuel cs x h
  rcases DataW.trod_slice ht h with ⟨rfl, rfl⟩ | ⟨a, len, cap, elems, rest, n, _, rfl, rfl, hb, hl, hm, hlen, hel, _, _⟩
  · exact ⟨[], ⟨none, 0, rfl, Nat.le_refl _, rfl, by simp, fun h => absurd h (by simp)⟩, by simp [mList, Rows.uptoBulk], by simp [gList]⟩
  · have each : ∀ i, i < len → ∃ y : α, (∃ c, d.K w y c ∧ c.length = d.sz ∧ ∀ j u, c[j]? = some u → w.cell? (a.add (i * d.sz + j)) = some u) ∧ (∀ z, elems[i]? = some z → m y ≤ Rows.uptoBulk z.1) ∧ g y := by
      intro i hi
      have h1 := hel i hi
      rw [List.getElem?_eq_getElem (by omega), Option.bind_eq_some_iff] at h1
      obtain ⟨c, hcs, hy⟩ := h1
      obtain ⟨y, hK, hmy, hg⟩ := hd enc w base spare held n c _ hy
      obtain ⟨_, hcl, hcell⟩ := World.cells?_some hcs
      refine ⟨y, ⟨c, hK, by rw [hcl, hc], fun j u hj => ?_⟩, fun z hz => ?_, hg⟩
      · have hlt := (List.getElem?_eq_some_iff.1 hj).1
        have := hcell j (by omega)
        rw [Go.Deep.add_add, hc] at this
        rw [this, hj]
      · rw [List.getElem?_eq_getElem (by omega)] at hz
        exact Option.some.inj hz ▸ hmy
    obtain ⟨xs, hxl, hx⟩ := exists_list _ len each
    refine ⟨xs, ⟨some a, cap, by rw [hxl], by omega, hxl ▸ rfl, by unfold maxLen at hm; omega, fun _ => ⟨a, rfl, fun j p hj => ?_⟩⟩, ?_, ?_⟩
    · obtain ⟨⟨c, h1, h2, h3⟩, _, _⟩ := hx j p hj
      exact ⟨c, h2, h1, h3⟩
    · have := sum_le m xs (elems.map (·.1)) (by simp [hxl, hlen]) fun i y f hy hf => by
        obtain ⟨_, h2, _⟩ := hx i y hy
        rw [List.getElem?_map, Option.map_eq_some_iff] at hf
        obtain ⟨z, hz, rfl⟩ := hf
        exact h2 z hz
      simp only [mList, Rows.uptoBulk]
      omega
    · intro y hy
      obtain ⟨i, hi⟩ := List.getElem?_of_mem hy
      exact (hx i y hi).2.2
/-- Fields in line, from an offset on. -/
def OpensF (P : Program) (off : Nat) (fs : List Field) {β : Type} (d : Kd β) (m : β → Nat) (g : β → Prop) : Prop :=
  ∀ {H : Type} (enc : TypeId × Value → H) (w : World) (base : Nat) (spare : Nat → Bool) (held : Bool) (n : Nat) (cs : List Value) (xs : List (DataW H × List MemPlace)),
    cs.length = off + d.sz → xs.length = fs.length → (∀ (i : Nat) (f : Field), fs[i]? = some f → DataW.trod enc P w base spare held n f.type ((cs.drop f.offset).take (P.cellsOf f.type)) = xs[i]?) →
    ∃ a, d.K w a (cs.drop off) ∧ m a ≤ Rows.uptoBulkAll (xs.map (·.1)) ∧ g a
theorem opensF_one {off : Nat} {f : Field} {β : Type} {d : Kd β} {m : β → Nat} {g : β → Prop} (ho : f.offset = off) (hc : P.cellsOf f.type = d.sz) (hd : Opens P f.type d m g) : OpensF P off [f] d m g := by
  intro H enc w base spare held n cs xs hl hx h
  obtain ⟨y, rfl⟩ : ∃ y, xs = [y] := by
    match xs, hx with
    | [y], _ => exact ⟨y, rfl⟩
  have h0 := h 0 f rfl
  rw [ho, hc, List.take_of_length_le (by rw [List.length_drop]; omega)] at h0
  obtain ⟨a, hK, hm, hg⟩ := hd enc w base spare held n _ _ h0
  exact ⟨a, hK, by simp only [List.map_cons, List.map_nil, Rows.uptoBulkAll]; omega, hg⟩
theorem opensF_cons {off : Nat} {f : Field} {fs : List Field} {α β : Type} {d : Kd α} {e : Kd β} {m : α → Nat} {k : β → Nat} {g : α → Prop} {q : β → Prop} (ho : f.offset = off) (hc : P.cellsOf f.type = d.sz) (hd : Opens P f.type d m g)
    (hr : OpensF P (off + d.sz) fs e k q) : OpensF P off (f :: fs) (Kd.pair d e) (fun x => m x.1 + k x.2) (fun x => g x.1 ∧ q x.2) := by
  intro H enc w base spare held n cs xs hl hx h
  obtain ⟨y, ys, rfl⟩ : ∃ y ys, xs = y :: ys := by
    match xs, hx with
    | y :: ys, _ => exact ⟨y, ys, rfl⟩
  have h0 := h 0 f rfl
  rw [ho, hc] at h0
  have hsz : (Kd.pair d e).sz = d.sz + e.sz := rfl
  rw [hsz] at hl
  obtain ⟨a, hK, hm, hg⟩ := hd enc w base spare held n _ _ h0
  obtain ⟨b, hK2, hm2, hg2⟩ := hr enc w base spare held n cs ys (by omega) (by simpa using hx) fun i f' hf => by
    have := h (i + 1) f' (by simpa using hf)
    simpa using this
  refine ⟨(a, b), ⟨(cs.drop off).take d.sz, cs.drop (off + d.sz), ?_, hK, hK2⟩, ?_, hg, hg2⟩
  · rw [← List.drop_drop, List.take_append_drop]
  · simp only [List.map_cons, Rows.uptoBulkAll]
    omega
theorem opens_struct {fs : Array Field} {α β : Type} {d : Kd β} {m : β → Nat} {g : β → Prop} (f : α → β) (f' : β → α) (hf : ∀ b, f (f' b) = b) (ht : P.underlying t = some (.struct fs)) (hc : P.cellsOf t = d.sz) (hd : OpensF P 0 fs.toList d m g) :
    Opens P t (Kd.iso d f) (fun x => m (f x) + 1) (fun x => g (f x)) := by
  intro H enc w base spare held fuel cs x h
  obtain ⟨xs, n, rfl, rfl, hl, hx, hi⟩ := DataW.trod_struct ht h
  obtain ⟨b, hK, hm, hg⟩ := hd enc w base spare held n cs xs (by omega) (by simpa using hx) fun i f hf => hi i f (by simpa using hf)
  refine ⟨f' b, ?_, ?_, ?_⟩
  · show d.K w (f (f' b)) cs
    rw [hf]
    exact hK
  · simp only [hf, Rows.uptoBulk]
    omega
  · show g (f (f' b))
    rw [hf]; exact hg
end
theorem bulk_pos {H : Type} (d : DataW H) : 1 ≤ Rows.uptoBulk d := by
  cases d with
  | lit l => cases l <;> simp [Rows.uptoBulk]
  | nil => simp [Rows.uptoBulk]
  | ptr d => simp [Rows.uptoBulk]
  | slice elems spare => simp [Rows.uptoBulk]
  | agg parts => simp [Rows.uptoBulk]
  | iface t d => simp [Rows.uptoBulk]
  | map entries => simp [Rows.uptoBulk]
  | held h => simp [Rows.uptoBulk]
/-- A slice that is an argument: what its reading says. -/
theorem slice_arg {P : Program} {t : TypeId} {α : Type} {d : Kd α} {e : TypeId} {m : α → Nat} {g : α → Prop} (ho : Opens P t (Kd.slice e d) (mList m) (gList g)) {H : Type} {enc : TypeId × Value → H} {w : World} {base : Nat} {spare : Nat → Bool} {held : Bool}
    {a : Option Addr} {len cap : Nat} {x : DataW H} {p : List MemPlace} (h : DataW.Trod enc P w base spare held t (.slice a len cap) x p) :
    ∃ l : List α, l.length = len ∧ Kd.C d w a l.length l ∧ l.length ≤ cap ∧ (l.map m).sum + 1 ≤ Rows.uptoBulk x ∧ gList g l := by
  obtain ⟨fuel, hf⟩ := h
  obtain ⟨l, ⟨A, c, hc, hl, hr⟩, hm, hg⟩ := ho enc w base spare held fuel _ _ hf
  simp [Value.cells] at hc
  obtain ⟨rfl, rfl, rfl⟩ := hc
  exact ⟨l, rfl, hr, hl, hm, hg⟩
theorem string_arg {P : Program} {t : TypeId} (ht : P.underlying t = some .string) {H : Type} {enc : TypeId × Value → H} {w : World} {base : Nat} {spare : Nat → Bool} {held : Bool} {s : ByteArray} {x : DataW H} {p : List MemPlace}
    (h : DataW.Trod enc P w base spare held t (.string s) x p) : s.size + 1 ≤ Rows.uptoBulk x := by
  obtain ⟨fuel, hf⟩ := h
  obtain ⟨s', hc, hx, _⟩ := DataW.trod_string ht hf
  simp [Value.cells] at hc
  obtain rfl := hc
  simp at hx
  rw [hx.1]
  simp only [Rows.uptoBulk]
  exact Nat.le_of_eq rfl
/-- A struct that is an argument by value: its cells. -/
theorem struct_arg {P : Program} {t : TypeId} {α : Type} {d : Kd α} {m : α → Nat} {g : α → Prop} (ho : Opens P t d m g) {H : Type} {enc : TypeId × Value → H} {w : World} {base : Nat} {spare : Nat → Bool} {held : Bool}
    {cs : Array Value} {x : DataW H} {p : List MemPlace} (h : DataW.Trod enc P w base spare held t (.agg cs) x p) : ∃ a : α, d.K w a cs.toList ∧ m a ≤ Rows.uptoBulk x ∧ g a := by
  obtain ⟨fuel, hf⟩ := h
  obtain ⟨a, h1, h2, h3⟩ := ho enc w base spare held fuel _ _ hf
  exact ⟨a, by simpa [Value.cells] using h1, h2, h3⟩
end Go.Proofs.Ytdaklahoainpfaa.Open
