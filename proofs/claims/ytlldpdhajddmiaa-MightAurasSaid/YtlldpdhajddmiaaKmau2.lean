/- Joined by a program of this session (pack.py) out of: Opens -/
import Derived.ChangeArms
import Derived.Deep.Slices
import Derived.OpenShut
import Derived.SizedLaws
import Derived.Test.YtlldpdhajddmiaaKmau1
section
/- What a value that can be read as data holds, kind by kind: from the reading of an argument to the kinds of the print's words. -/
namespace Go.Proofs.Ytlldpdhajddmiaa.Opens
open Go.ChangeShapes Go.WideShapes Go.Deep Go.Proofs.YtlldpdhajddmiaaW.PrintWords

/-- Whatever reads as data of type t (nested at most n deep) holds a value of kind d, of which 'ok' holds. -/
def OpensAt {α : Type} (n : Nat) (P : Program) (t : TypeId) (d : Kd α) (ok : α → Prop) : Prop :=
  ∀ {H : Type} (enc : TypeId × Value → H) (w : World) (base : Nat) (spare : Nat → Bool) (held : Bool) (cs : List Value) (x : DataW H × List MemPlace),
    DataW.trod enc P w base spare held n t cs = some x → (∀ m ∈ x.1.weights P t, m ≤ reachBytes) → ∃ a, d.K w a cs ∧ ok a
def Opens {α : Type} (P : Program) (t : TypeId) (d : Kd α) (ok : α → Prop) : Prop := ∀ n, OpensAt n P t d ok
def FsAt {α : Type} (n : Nat) (P : Program) (fs : List Field) (off : Nat) (d : Kd α) (ok : α → Prop) : Prop :=
  ∀ {H : Type} (enc : TypeId × Value → H) (w : World) (base : Nat) (spare : Nat → Bool) (held : Bool) (cs : List Value) (xs : List (DataW H × List MemPlace)),
    (∀ (i : Nat) (f : Field), fs[i]? = some f → DataW.trod enc P w base spare held n f.type ((cs.drop (f.offset - off)).take (P.cellsOf f.type)) = xs[i]?) →
    xs.length = fs.length → cs.length = d.sz → (∀ m ∈ DataW.weightsEach P (fs.map (·.type)) (xs.map (·.1)), m ≤ reachBytes) → ∃ a, d.K w a cs ∧ ok a

section
variable {P : Program} {t e : TypeId} {α β : Type} {d : Kd α} {d' : Kd β} {ok : α → Prop} {ok' : β → Prop} {n : Nat}

theorem Opens.int {k : IntKind} (hu : P.underlying t = some (.int k)) : Opens P t (Kd.int k) (fun z => (Lit.int k z).wf = true) := by
  intro n H enc w base spare held cs x h _
  obtain ⟨z, rfl, rfl, hw⟩ := DataW.trod_int hu h
  exact ⟨z, rfl, hw⟩
theorem Opens.bool (hu : P.underlying t = some .bool) : Opens P t Kd.bool (fun _ => True) := by
  intro n H enc w base spare held cs x h _
  obtain ⟨z, rfl, rfl⟩ := DataW.trod_bool hu h
  exact ⟨z, rfl, trivial⟩
theorem Opens.string (hu : P.underlying t = some .string) : Opens P t Kd.string (fun s => s.size ≤ reachBytes) := by
  intro n H enc w base spare held cs x h hw
  obtain ⟨z, rfl, rfl, _⟩ := DataW.trod_string hu h
  refine ⟨z, rfl, ?_⟩
  have := hw z.data.toList.length (by simp [DataW.weights])
  simpa using this

theorem weightsAll_mem {H : Type} {d : DataW H} {l : List (DataW H)} (hd : d ∈ l) {m : Nat} (hm : m ∈ d.weights P e) : m ∈ DataW.weightsAll P e l := by
  induction l with
  | nil => cases hd
  | cons a l ih =>
    simp only [DataW.weightsAll, List.mem_append]
    rcases List.mem_cons.1 hd with rfl | h
    · exact Or.inl hm
    · exact Or.inr (ih h)

theorem OpensAt.slice (hu : P.underlying t = some (.slice e)) (hs : d.sz = P.cellsOf e) (hd : ∀ m, m < n → OpensAt m P e d ok) :
    OpensAt n P t (Kd.slice e d) (fun l => l.length * P.bytesOf e ≤ reachBytes ∧ l.length ≤ maxLen ∧ ∀ x ∈ l, ok x) := by
  intro H enc w base spare held cs x h hw
  cases n with
  | zero => simp [DataW.trod] at h
  | succ n =>
  rcases DataW.trod_slice hu h with ⟨rfl, rfl⟩ | ⟨a, len, cap, elems, rest, n', hn, rfl, rfl, hb, hl, hm, hlen, hel, _, _⟩
  · exact ⟨[], ⟨none, 0, rfl, Nat.le_refl _, rfl, by simp, fun h0 => absurd h0 (Nat.lt_irrefl 0)⟩, by simp, by simp, by simp⟩
  · obtain rfl : n = n' := by omega
    have hw0 : (elems.length + rest.length) * P.bytesOf e ≤ reachBytes := hw _ (by simp [DataW.weights, hu])
    have hone : ∀ i, i < len → ∃ y : α, ∃ c, c.length = d.sz ∧ d.K w y c ∧ ok y ∧ ∀ j u, c[j]? = some u → w.cell? (a.add (i * d.sz + j)) = some u := by
      intro i hi
      have h1 := hel i hi
      have hi' : i < elems.length := by omega
      rw [List.getElem?_eq_getElem hi', Option.bind_eq_some_iff] at h1
      obtain ⟨cs', hc, ht⟩ := h1
      obtain ⟨y, hy, hok⟩ := hd n (Nat.lt_succ_self n) enc w base spare held cs' _ ht (fun m hm => hw m (by
        simp only [DataW.weights, hu, List.mem_cons, List.mem_append]
        exact Or.inr (Or.inl (weightsAll_mem (List.mem_map_of_mem (List.getElem_mem hi')) hm))))
      refine ⟨y, cs', d.K_len hy, hy, hok, fun j u hu' => ?_⟩
      obtain ⟨_, hcl, hat⟩ := World.cells?_some hc
      have hj : j < cs'.length := (List.getElem?_eq_some_iff.1 hu').1
      have h2 := hat j (by omega)
      rw [← Go.Deep.add_add, hs, h2, ← hu']
    have hall : ∀ m, m ≤ len → ∃ ys : List α, ys.length = m ∧ (∀ y ∈ ys, ok y) ∧ ∀ i y, ys[i]? = some y → ∃ c, c.length = d.sz ∧ d.K w y c ∧ ∀ j u, c[j]? = some u → w.cell? (a.add (i * d.sz + j)) = some u := by
      intro m
      induction m with
      | zero => exact fun _ => ⟨[], rfl, by simp, by simp⟩
      | succ m ih =>
        intro hm'
        obtain ⟨ys, hl', hok, hy⟩ := ih (by omega)
        obtain ⟨y, c, hcl, hk, ho, hcell⟩ := hone m (by omega)
        refine ⟨ys ++ [y], by simp [hl'], ?_, ?_⟩
        · intro z hz
          rcases List.mem_append.1 hz with hz | hz
          · exact hok z hz
          · rw [List.mem_singleton.1 hz]; exact ho
        · intro i z hz
          rcases Nat.lt_or_ge i ys.length with hi | hi
          · rw [List.getElem?_append_left hi] at hz
            exact hy i z hz
          · rw [List.getElem?_append_right hi] at hz
            have h0 : i - ys.length = 0 := by
              have := (List.getElem?_eq_some_iff.1 hz).1
              simpa using this
            rw [h0] at hz
            simp only [List.getElem?_cons_zero, Option.some.injEq] at hz
            subst hz
            obtain rfl : i = m := by omega
            exact ⟨c, hcl, hk, hcell⟩
    obtain ⟨ys, hl', hok, hy⟩ := hall len (Nat.le_refl _)
    refine ⟨ys, ⟨some a, cap, by rw [hl'], by omega, rfl, ?_, fun _ => ⟨a, rfl, hy⟩⟩, ?_, by omega, hok⟩
    · have : maxLen ≤ 9223372036854775807 := by decide
      omega
    · refine Nat.le_trans ?_ hw0
      rw [hl']
      exact Nat.mul_le_mul_right _ (by omega)

theorem Opens.slice (hu : P.underlying t = some (.slice e)) (hs : d.sz = P.cellsOf e) (hd : Opens P e d ok) :
    Opens P t (Kd.slice e d) (fun l => l.length * P.bytesOf e ≤ reachBytes ∧ l.length ≤ maxLen ∧ ∀ x ∈ l, ok x) :=
  fun _ => OpensAt.slice hu hs (fun m _ => hd m)

theorem fs_last {f : Field} {off : Nat} (hf : OpensAt n P f.type d ok) (ho : f.offset = off) (hs : d.sz = P.cellsOf f.type) : FsAt n P [f] off d ok := by
  intro H enc w base spare held cs xs hx hl hc hw
  match xs, hl with
  | [y], _ =>
    have h := hx 0 f rfl
    rw [ho, Nat.sub_self, List.drop_zero, List.take_of_length_le (by omega)] at h
    refine hf enc w base spare held cs y h (fun m hm => hw m ?_)
    simpa [DataW.weightsEach] using hm
theorem fs_cons {f : Field} {fs : List Field} {off : Nat} (hf : OpensAt n P f.type d ok) (ho : f.offset = off) (hs : d.sz = P.cellsOf f.type) (hge : (fs.all fun g => off + d.sz ≤ g.offset) = true) (hr : FsAt n P fs (off + d.sz) d' ok') :
    FsAt n P (f :: fs) off (Kd.pair d d') (fun x => ok x.1 ∧ ok' x.2) := by
  intro H enc w base spare held cs xs hx hl hc hw
  match xs, hl with
  | y :: xs, hl =>
    have hc' : cs.length = d.sz + d'.sz := hc
    have h := hx 0 f rfl
    rw [ho, Nat.sub_self, List.drop_zero, ← hs] at h
    obtain ⟨a, ha, hoa⟩ := hf enc w base spare held _ y h (fun m hm => hw m (by simp only [List.map_cons, DataW.weightsEach, List.mem_append]; exact Or.inl hm))
    obtain ⟨b, hb, hob⟩ := hr enc w base spare held (cs.drop d.sz) xs (fun i g hg => by
      have h2 := hx (i + 1) g (by simpa using hg)
      have hgo : off + d.sz ≤ g.offset := by
        have := List.all_eq_true.1 hge g (List.mem_of_getElem? hg)
        simpa using this
      rw [List.drop_drop, show d.sz + (g.offset - (off + d.sz)) = g.offset - off by omega]
      simpa using h2) (by simpa using hl) (by rw [List.length_drop]; omega) (fun m hm => hw m (by simp only [List.map_cons, DataW.weightsEach, List.mem_append]; exact Or.inr hm))
    exact ⟨(a, b), ⟨cs.take d.sz, cs.drop d.sz, (List.take_append_drop _ _).symm, ha, hb⟩, hoa, hob⟩

theorem OpensAt.struct {fs : Array Field} (hu : P.underlying t = some (.struct fs)) (hs : P.cellsOf t = d.sz) (f : β → α) (g : α → β) (hfg : ∀ a, f (g a) = a) (h : ∀ m, m < n → FsAt m P fs.toList 0 d ok) :
    OpensAt n P t (Kd.iso d f) (fun b => ok (f b)) := by
  intro H enc w base spare held cs x hx hw
  obtain ⟨xs, m, rfl, rfl, hl, hlen, hf⟩ := DataW.trod_struct hu hx
  obtain ⟨a, ha, hoa⟩ := h m (Nat.lt_succ_self m) enc w base spare held cs xs (fun i fl hi => by
    have := hf i fl (by simpa using hi)
    simpa using this) (by simpa using hlen) (by omega) (fun k hk => hw k (by simpa [DataW.weights, hu] using hk))
  exact ⟨g a, by show d.K w (f (g a)) cs; rw [hfg]; exact ha, by show ok (f (g a)); rw [hfg]; exact hoa⟩
theorem Opens.struct {fs : Array Field} (hu : P.underlying t = some (.struct fs)) (hs : P.cellsOf t = d.sz) (f : β → α) (g : α → β) (hfg : ∀ a, f (g a) = a) (h : ∀ m, FsAt m P fs.toList 0 d ok) :
    Opens P t (Kd.iso d f) (fun b => ok (f b)) := fun _ => OpensAt.struct hu hs f g hfg (fun m _ => h m)

/-- an array's elements, as fields -/
def elF (e : TypeId) (o : Nat) : Field := { (default : Field) with type := e, offset := o }
theorem weightsEach_el {H : Type} (o : Nat → Nat) : ∀ (l : List (DataW H)) (k : Nat), DataW.weightsEach P (((List.range' k l.length).map fun i => elF e (o i)).map (·.type)) l = DataW.weightsAll P e l
  | [], k => by simp [DataW.weightsEach, DataW.weightsAll]
  | a :: l, k => by
    simp only [List.length_cons, List.range'_succ, List.map_cons, DataW.weightsEach, DataW.weightsAll]
    rw [weightsEach_el o l (k + 1)]
    rfl
theorem Opens.array {m : Nat} (hu : P.underlying t = some (.array m e)) (hs : P.cellsOf t = d.sz) (f : β → α) (g : α → β) (hfg : ∀ a, f (g a) = a)
    (h : ∀ k, FsAt k P ((List.range' 0 m).map fun i => elF e (i * P.cellsOf e)) 0 d ok) : Opens P t (Kd.iso d f) (fun b => ok (f b)) := by
  intro n H enc w base spare held cs x hx hw
  obtain ⟨xs, k, rfl, rfl, hl, hlen, hf⟩ := DataW.trod_array hu hx
  obtain ⟨a, ha, hoa⟩ := h k enc w base spare held cs xs (fun i fl hi => by
    rw [List.getElem?_map, Option.map_eq_some_iff] at hi
    obtain ⟨j, hj, rfl⟩ := hi
    have hj' := List.getElem?_eq_some_iff.1 hj
    obtain ⟨hj1, hj2⟩ := hj'
    rw [List.length_range'] at hj1
    rw [List.getElem_range'] at hj2
    obtain rfl : j = i := by omega
    exact hf j hj1) (by simp [hlen]) (by omega) (fun q hq => hw q (by
      have e1 := weightsEach_el (P := P) (e := e) (fun i => i * P.cellsOf e) (xs.map (·.1)) 0
      rw [List.length_map, hlen] at e1
      rw [e1] at hq
      simpa [DataW.weights, hu] using hq))
  exact ⟨g a, by show d.K w (f (g a)) cs; rw [hfg]; exact ha, by show ok (f (g a)); rw [hfg]; exact hoa⟩
end
end Go.Proofs.Ytlldpdhajddmiaa.Opens
end
