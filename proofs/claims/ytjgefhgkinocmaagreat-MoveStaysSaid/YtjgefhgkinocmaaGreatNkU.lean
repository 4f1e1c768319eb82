/- Arguments: what a reading of them says at the data level; that they read the same behind the call. -/
import Derived.Test.YtjgefhgkinocmaaGreatNkQ
import Derived.Below
import Derived.ChangeSame
import Derived.ChangeReads
import Derived.ChangeArms
import Derived.Deep.Slices
import Derived.OpenShut
set_option linter.all false
namespace Go.Nk
open Go.RowKit Go.WideShapes Go.ChangeShapes Go.Deep

mutual
def DV.sz : DV → Nat
  | .str s => s.length + 1
  | .sl es => szLL es + 1
  | .ref cs => szL cs + 1
  | .agg cs => szL cs + 1
  | _ => 1
def szL : List DV → Nat
  | [] => 0
  | d :: r => d.sz + szL r
def szLL : List (List DV) → Nat
  | [] => 0
  | d :: r => szL d + szLL r
end

theorem szL_append : ∀ (a b : List DV), szL (a ++ b) = szL a + szL b
  | [], b => by simp [szL]
  | x :: a, b => by simp [szL, szL_append a b]; omega

/-- How much a list weighs, at the least. -/
def lenW : List (List DV) → Nat
  | [.int .i64 n] :: es => 8 * (es.length + 1)
  | es => es.length
theorem lenW_ge (es : List (List DV)) : es.length ≤ lenW es := by unfold lenW; split <;> (try simp only [List.length_cons]) <;> omega
theorem lenW_small : ∀ {es : List (List DV)}, (∀ r ∈ es, ∀ n, r ≠ [.int .i64 n]) → lenW es = es.length
  | [], _ => rfl
  | r :: es, h => by
    unfold lenW
    split
    · rename_i n es' e
      exact absurd (List.cons.inj e).1 (h r (by simp) n)
    · rfl
theorem lenW_le (es : List (List DV)) : lenW es ≤ 8 * es.length := by unfold lenW; split <;> (try simp only [List.length_cons]) <;> omega

mutual
/-- How long the lists and texts of a value are. -/
def DV.lens : DV → List Nat
  | .str s => [s.length]
  | .sl es => lenW es :: lensLL es
  | .ref cs => lensL cs
  | .agg cs => lensL cs
  | _ => []
def lensL : List DV → List Nat
  | [] => []
  | d :: r => d.lens ++ lensL r
def lensLL : List (List DV) → List Nat
  | [] => []
  | d :: r => lensL d ++ lensLL r
end
theorem lensL_append : ∀ (a b : List DV), lensL (a ++ b) = lensL a ++ lensL b
  | [], b => by simp [lensL]
  | x :: a, b => by simp [lensL, lensL_append a b]
theorem mem_lensLL : ∀ {es : List (List DV)} {L : Nat}, L ∈ lensLL es → ∃ e ∈ es, L ∈ lensL e
  | [], L, h => by simp [lensLL] at h
  | e :: es, L, h => by
    simp only [lensLL, List.mem_append] at h
    rcases h with h | h
    · exact ⟨e, by simp, h⟩
    · obtain ⟨e', h1, h2⟩ := mem_lensLL h; exact ⟨e', by simp [h1], h2⟩
/-- Each is naught, or at most one of these. -/
def Fits (ls ws : List Nat) : Prop := ∀ L ∈ ls, L = 0 ∨ ∃ w ∈ ws, L ≤ w
theorem Fits.nil {ws : List Nat} : Fits [] ws := fun _ h => by simp at h
theorem Fits.append {a b ws : List Nat} (h1 : Fits a ws) (h2 : Fits b ws) : Fits (a ++ b) ws := fun L h => (List.mem_append.1 h).elim (h1 L) (h2 L)
theorem Fits.sub {a ws ws' : List Nat} (h1 : Fits a ws) (h : ∀ w ∈ ws, w ∈ ws') : Fits a ws' := fun L hl => (h1 L hl).imp id fun ⟨w, a, b⟩ => ⟨w, h w a, b⟩
/-- Offsets one behind the other. -/
def laidFrom (P : Program) : Nat → List Field → Bool
  | _, [] => true
  | k, f :: r => f.offset == k && laidFrom P (k + P.cellsOf f.type) r

def cellsSum (P : Program) : List Field → Nat
  | [] => 0
  | f :: r => P.cellsOf f.type + cellsSum P r

/-- A type that the data level reads as an argument, if it reads those of a list. -/
def locOk (P : Program) (Ls : List TypeId) (t : TypeId) : Bool :=
  match P.underlying t with
  | some (.int _) | some .bool | some .string => true
  | some (.slice e) => decide (0 < P.cellsOf e) && Ls.contains e && decide (0 < P.bytesOf e) && (decide (8 ≤ P.bytesOf e) || (match P.underlying e with | some (.int k) => k != .i64 | some .bool => true | _ => false))
  | some (.pointer e) => decide (0 < P.cellsOf e) && Ls.contains e
  | some (.array k e) => decide (P.cellsOf t = k * P.cellsOf e) && Ls.contains e
  | some (.struct fs) => fs.toList.all (fun f => Ls.contains f.type) && laidFrom P 0 fs.toList && P.cellsOf t == cellsSum P fs.toList
  | _ => false
/-- A list of types that are made of types of the list. -/
def Closed (P : Program) (Ls : List TypeId) : Prop := ∀ t ∈ Ls, locOk P Ls t = true
def succT (P : Program) (t : TypeId) : List TypeId :=
  match P.underlying t with
  | some (.slice e) | some (.pointer e) | some (.array _ e) => [e]
  | some (.struct fs) => fs.toList.map (·.type)
  | _ => []
def reachT (P : Program) : Nat → List TypeId → List TypeId → List TypeId
  | 0, _, l => l
  | _ + 1, [], l => l
  | n + 1, t :: r, l => if l.contains t then reachT P n r l else reachT P n (succT P t ++ r) (t :: l)

def HasL (R : TypeId → List DV → Prop) : List Field → List DV → Prop
  | [], ds => ds = []
  | f :: fs, ds => ∃ a b, ds = a ++ b ∧ R f.type a ∧ HasL R fs b

def HasN (R : List DV → Prop) : Nat → List DV → Prop
  | 0, ds => ds = []
  | k + 1, ds => ∃ a b, ds = a ++ b ∧ R a ∧ HasN R k b

/-- What the cells of a value of a type are. -/
def Has (P : Program) : Nat → TypeId → List DV → Prop
  | 0, _, _ => False
  | n + 1, t, ds =>
    match P.underlying t with
    | some (.int k) => ∃ i, ds = [.int k i] ∧ (Lit.int k i).wf = true
    | some .bool => ∃ b, ds = [.bool b]
    | some .string => ∃ s, ds = [.str s] ∧ s.length ≤ maxLen
    | some (.slice e) => ∃ es, ds = [.sl es] ∧ es.length ≤ maxLen ∧ ∀ x ∈ es, Has P n e x
    | some (.pointer e) => ds = [.nilp] ∨ ∃ r, ds = [.ref r] ∧ Has P n e r
    | some (.struct fs) => HasL (Has P n) fs.toList ds
    | some (.array k e) => HasN (Has P n e) k ds
    | _ => False

structure Bulk {H : Type} (B : DataW H → Nat) (BA : List (DataW H) → Nat) : Prop where
  lit : ∀ l, 1 ≤ B (.lit l)
  str : ∀ s, s.length + 1 ≤ B (.lit (.string s))
  nil : 1 ≤ B .nil
  ptr : ∀ d, B d + 1 ≤ B (.ptr d)
  slice : ∀ a b, BA a + 1 ≤ B (.slice a b)
  agg : ∀ a, BA a ≤ B (.agg a)
  cons : ∀ d r, B d + BA r = BA (d :: r)

section
variable {H : Type} {enc : TypeId × Value → H} {P : Program} {w : World} {B : DataW H → Nat} {BA : List (DataW H) → Nat}

abbrev oldF (w : World) : Nat → Prop := fun b => b < w.heap.size

abbrev allSp : Nat → Bool := fun _ => true

theorem cellAt_row {es : List (List DV)} {i j : Nat} {d : DV} (h : cellAt es i j = some d) : ∃ e, es[i]? = some e ∧ e[j]? = some d := by
  unfold cellAt at h
  cases he : es[i]? with
  | none => simp [he] at h
  | some e => exact ⟨e, rfl, by simpa [he] using h⟩

theorem one_of_has : ∀ (n : Nat) (t : TypeId) (ds : List DV), Has P n t ds → ∀ d ∈ ds, d.one = true
  | 0, _, _, h => h.elim
  | n + 1, t, ds, h => by
    unfold Has at h
    split at h
    · obtain ⟨i, rfl, _⟩ := h; intro d hd; simp at hd; subst hd; rfl
    · obtain ⟨i, rfl⟩ := h; intro d hd; simp at hd; subst hd; rfl
    · obtain ⟨i, rfl, _⟩ := h; intro d hd; simp at hd; subst hd; rfl
    · obtain ⟨i, rfl, _⟩ := h; intro d hd; simp at hd; subst hd; rfl
    · rcases h with rfl | ⟨i, rfl, _⟩ <;> intro d hd <;> simp at hd <;> subst hd <;> rfl
    · rename_i fs _
      have key : ∀ (fs : List Field) (ds : List DV), HasL (Has P n) fs ds → ∀ d ∈ ds, d.one = true := by
        intro fs
        induction fs with
        | nil => intro ds h d hd; simp only [HasL] at h; subst h; simp at hd
        | cons f fs ih =>
          rintro ds ⟨a, b, rfl, ha, hb⟩ d hd
          rcases List.mem_append.1 hd with hd | hd
          · exact one_of_has n _ a ha d hd
          · exact ih b hb d hd
      exact key _ _ h
    · rename_i k e _
      have key : ∀ (k : Nat) (ds : List DV), HasN (Has P n e) k ds → ∀ d ∈ ds, d.one = true := by
        intro k
        induction k with
        | zero => intro ds h d hd; simp only [HasN] at h; subst h; simp at hd
        | succ k ih =>
          rintro ds ⟨a, b, rfl, ha, hb⟩ d hd
          rcases List.mem_append.1 hd with hd | hd
          · exact one_of_has n _ a ha d hd
          · exact ih b hb d hd
      exact key _ _ h
    · exact h.elim

/-- The reading of cells. -/
def Rd (P : Program) (w : World) (n : Nat) (t : TypeId) (cs : List Value) (ds : List DV) : Prop := Has P n t ds ∧ All2 (IRep (oldF w) w) ds cs

theorem cells_old {a : Addr} {n : Nat} {cs : List Value} (h : w.cells? 0 a n = some cs) (hn : 0 < n) : a.spot = none ∧ a.block < w.heap.size ∧ cs.length = n ∧ ∀ i v, cs[i]? = some v → w.cell? ⟨a.block, a.off + i, none⟩ = some v := by
  obtain ⟨_, hl, hc⟩ := World.cells?_some h
  have h0 := hc 0 hn
  rw [List.getElem?_eq_getElem (by omega)] at h0
  have hs : a.spot = none := by simpa [Addr.add] using World.cell?_spot h0
  refine ⟨hs, World.cells?_block h hn, hl, fun i v hv => ?_⟩
  have hi : i < cs.length := (List.getElem?_eq_some_iff.1 hv).1
  have := hc i (by omega)
  rw [hv] at this
  rw [← this]
  congr 1
  obtain ⟨b, o, sp⟩ := a
  simp only at hs
  subst hs
  unfold Addr.add
  split <;> simp_all

theorem mem_weightsAll {e : TypeId} {x : Nat} : ∀ {l : List (DataW H)} {d : DataW H}, d ∈ l → x ∈ DataW.weights P e d → x ∈ DataW.weightsAll P e l
  | [], d, h, _ => by simp at h
  | a :: l, d, h, hx => by
    unfold DataW.weightsAll
    rcases List.mem_cons.1 h with rfl | h
    · exact List.mem_append.2 (.inl hx)
    · exact List.mem_append.2 (.inr (mem_weightsAll h hx))

theorem open_sliceN {t e : TypeId} {n : Nat} {cs : List Value} {x : DataW H × List MemPlace} (ht : P.underlying t = some (.slice e)) (h : DataW.trod enc P w 0 allSp true (n + 1) t cs = some x) :
    (cs = [.slice none 0 0] ∧ x = (.nil, [])) ∨
    ∃ (a : Addr) (len cap : Nat) (D : Nat → DataW H) (Pl : Nat → List MemPlace) (rest : List (DataW H × List MemPlace)) (ps : List MemPlace), cs = [.slice (some a) len cap] ∧ len ≤ cap ∧ cap ≤ maxLen ∧ rest.length = cap - len ∧
      x = (.slice ((List.range len).map D) (rest.map (·.1)), ps) ∧
      ∀ i, i < len → ∃ cs', w.cells? 0 (a.add (i * P.cellsOf e)) (P.cellsOf e) = some cs' ∧ DataW.trod enc P w 0 allSp true n e cs' = some (D i, Pl i) := by
  rcases DataW.trod_slice ht h with h0 | ⟨a, len, cap, elems, rest, m, hm, rfl, rfl, _, hl, hc, hlen, hel, hsp, _⟩
  · exact .inl h0
  have hm' : n = m := by omega
  subst hm'
  refine .inr ⟨a, len, cap, fun i => ((elems[i]?).getD (.nil, [])).1, fun i => ((elems[i]?).getD (.nil, [])).2, rest, _, rfl, hl, hc, (hsp rfl).1, Prod.ext ?_ rfl, fun i hi => ?_⟩
  · show DataW.slice (elems.map (·.1)) _ = _
    congr 1
    refine List.ext_getElem (by simp [hlen]) fun i h1 h2 => ?_
    have : i < elems.length := by simpa using h1
    simp [this]
  · have h1 := hel i hi
    have h2 : i < elems.length := by omega
    rw [List.getElem?_eq_getElem h2] at h1
    obtain ⟨cs', h3, h4⟩ := Option.bind_eq_some_iff.1 h1
    exact ⟨cs', h3, by rw [h4]; simp [h2]⟩
theorem trod_rep (hB : Bulk B BA) {Ls : List TypeId} (hL : Closed P Ls) : ∀ (n : Nat) (t : TypeId) (cs : List Value) (x : DataW H × List MemPlace), t ∈ Ls → DataW.trod enc P w 0 allSp true n t cs = some x →
    ∃ ds, Rd P w n t cs ds ∧ szL ds ≤ B x.1 ∧ Fits (lensL ds) (DataW.weights P t x.1)
  | 0, _, _, _, _, hx => by simp [DataW.trod] at hx
  | n + 1, t, cs, x, hin, hx => by
    have h := hL t hin
    unfold locOk at h
    split at h
    · rename_i k hk
      · unfold DataW.trod at hx
        rw [hk] at hx
        split at hx <;> simp_all
        rename_i i _
        obtain ⟨⟨e1, e2⟩, e3⟩ := hx
        subst e1; subst e3
        refine ⟨[.int _ i], ⟨by unfold Has; rw [hk]; exact ⟨i, rfl, e2⟩, .mk_cons (.int _ _) .mk_nil⟩, by simpa [szL, DV.sz] using hB.lit _, by simpa [lensL, DV.lens] using Fits.nil⟩
    · rename_i hk
      · unfold DataW.trod at hx
        rw [hk] at hx
        split at hx <;> simp_all
        rename_i b
        subst hx
        exact ⟨[.bool b], ⟨by unfold Has; rw [hk]; exact ⟨b, rfl⟩, .mk_cons (.bool _) .mk_nil⟩, by simpa [szL, DV.sz] using hB.lit _, by simpa [lensL, DV.lens] using Fits.nil⟩
    · rename_i hk
      · unfold DataW.trod at hx
        rw [hk] at hx
        split at hx <;> simp_all
        rename_i s
        obtain ⟨e1, e3⟩ := hx
        subst e3
        refine ⟨[.str s.data.toList], ⟨by unfold Has; rw [hk]; exact ⟨_, rfl, (by show s.data.toList.length ≤ maxLen; rw [Array.length_toList]; exact e1)⟩, .mk_cons ?_ .mk_nil⟩, by have := hB.str s.data.toList; simp only [szL, DV.sz]; omega, fun L hL => .inr ⟨L, by simpa [lensL, DV.lens, DataW.weights] using hL, Nat.le_refl _⟩⟩
        have := IRep.str (F := oldF w) (w := w) s.data.toList
        simpa using this
    · rename_i e hk
      simp only [Bool.and_eq_true, Bool.or_eq_true, decide_eq_true_eq] at h
      obtain ⟨⟨⟨h1q, he⟩, hby⟩, hb8⟩ := h
      replace he : e ∈ Ls := by simpa using he
      rcases open_sliceN hk hx with ⟨rfl, rfl⟩ | ⟨a, len, m, D, Pl, rest, ps, rfl, hl, hcm, hrest, rfl, hi⟩
      · refine ⟨[.sl []], ⟨by unfold Has; rw [hk]; exact ⟨[], rfl, by simp, by simp⟩, .mk_cons ?_ .mk_nil⟩, by simpa [szL, szLL, DV.sz] using hB.nil, fun L hL => .inl (by simpa [lensL, DV.lens, lensLL, lenW] using hL)⟩
        exact .sl [] none 0 0 ⟨0, 0, none⟩ 0 (fun _ _ => .nilFunc) rfl (Nat.le_refl _) (by simp) (by simp) (by simp [cellAt]) (by simp [cellAt])
      · have key : ∀ i : Nat, ∃ r : List Value × List DV, i < len → w.cells? 0 (a.add (i * P.cellsOf e)) (P.cellsOf e) = some r.1 ∧ Rd P w n e r.1 r.2 ∧ szL r.2 ≤ B (D i) ∧ Fits (lensL r.2) (DataW.weights P e (D i)) := by
          intro i
          by_cases hlt : i < len
          · obtain ⟨cs', h1, h2⟩ := hi i hlt
            obtain ⟨ds, h3, h4, h5⟩ := trod_rep hB hL n e _ _ he h2
            exact ⟨(cs', ds), fun _ => ⟨h1, h3, h4, h5⟩⟩
          · exact ⟨([], []), fun h => absurd h hlt⟩
        obtain ⟨r, hr⟩ := Classical.axiomOfChoice key
        let es : List (List DV) := (List.range len).map fun i => (r i).2
        have hes : ∀ i e, es[i]? = some e → i < len ∧ e = (r i).2 := by
          intro i e he
          simp only [es, List.getElem?_map, Option.map_eq_some_iff] at he
          obtain ⟨j, hj, rfl⟩ := he
          obtain ⟨hlt, hj⟩ := List.getElem?_eq_some_iff.1 hj
          simp at hlt hj
          exact ⟨hlt, by rw [← hj]⟩
        have hcell : ∀ i j d, cellAt es i j = some d → ∃ u, (r i).1[j]? = some u ∧ IRep (oldF w) w d u ∧ w.cell? ⟨a.block, a.off + (i * P.cellsOf e + j), none⟩ = some u ∧ d.one = true ∧ a.spot = none ∧ a.block < w.heap.size := by
          intro i j d hd
          obtain ⟨row, h1, h2⟩ := cellAt_row hd
          obtain ⟨hlt, rfl⟩ := hes i row h1
          obtain ⟨h3, ⟨h4, h5⟩, _⟩ := hr i hlt
          obtain ⟨u, hu, hrep⟩ := h5.2 j d h2
          obtain ⟨c1, c2, c3, c4⟩ := cells_old h3 h1q
          obtain ⟨hs, hblk⟩ : a.spot = none ∧ a.block < w.heap.size := by
            unfold Addr.add at c1 c2
            split at c1
            · rename_i h0
              simp only [h0] at c2
              exact ⟨c1, c2⟩
            · rename_i h0
              have hlen0 : 0 < m := by omega
              obtain ⟨_, g1, g2⟩ := hr 0 (by omega)
              obtain ⟨k1, k2, _⟩ := cells_old (hr 0 (by omega)).1 h1q
              simpa [Addr.add] using And.intro k1 k2
          refine ⟨u, hu, hrep, ?_, one_of_has n e _ h4 d (List.mem_of_getElem? h2), hs, hblk⟩
          have := c4 j u hu
          rw [← this]
          obtain ⟨ab, ao, asp⟩ := a
          simp only at hs
          subst hs
          unfold Addr.add
          split <;> simp_all [Nat.add_assoc]
        refine ⟨[.sl es], ⟨by
            unfold Has; rw [hk]
            refine ⟨es, rfl, by simp [es]; omega, fun y hy => ?_⟩
            obtain ⟨i, hi', rfl⟩ := List.mem_map.1 hy
            exact (hr i (by simpa using hi')).2.1.1, .mk_cons ?_ .mk_nil⟩, ?_, ?_⟩
        · refine .sl es (some a) len m a (P.cellsOf e) (fun i j => ((r i).1[j]?).getD .nilFunc) (by simp [es]) hl (fun hne => ?_) (fun i row hrow => ?_) (fun i j d hd => ?_) (fun i j d hd => ?_)
          · have hpos : 0 < len := by
              rcases Nat.eq_zero_or_pos len with h0 | h0
              · exfalso; apply hne; simp [es, h0]
              · exact h0
            have hg := (hr 0 hpos).1
            obtain ⟨k1, k2, _⟩ := cells_old hg h1q
            exact ⟨rfl, by simpa [Addr.add] using k1, by simpa [Addr.add] using k2⟩
          · obtain ⟨hlt, rfl⟩ := hes i row hrow
            obtain ⟨h3, ⟨_, h5⟩, _⟩ := hr i hlt
            rw [h5.1]
            exact (cells_old h3 h1q).2.2.1
          · obtain ⟨u, hu, _, hc, ho, _⟩ := hcell i j d hd
            exact ⟨by rw [hc, hu]; rfl, ho⟩
          · obtain ⟨u, hu, hrep, _⟩ := hcell i j d hd
            rw [hu]; exact hrep
        · have hsum : ∀ l : List Nat, (∀ i ∈ l, i < len) → szLL (l.map fun i => (r i).2) ≤ BA (l.map D) := by
            intro l
            induction l with
            | nil => intro _; simp [szLL]
            | cons i l ih =>
              intro hl'
              have h1 := (hr i (hl' i (by simp))).2.2.1
              have h2 := ih fun j hj => hl' j (by simp [hj])
              have h3 := hB.cons (D i) (l.map D)
              simp only [List.map_cons, szLL]
              omega
          have := hsum (List.range len) (by simp)
          have h2 := hB.slice ((List.range len).map D) (rest.map (·.1))
          simp only [szL, DV.sz, es]
          omega
        · intro L hL
          simp only [lensL, DV.lens, List.append_nil, List.mem_cons] at hL
          unfold DataW.weights
          simp only [hk]
          rcases hL with rfl | hL
          · refine .inr ⟨_, by simp only [List.mem_cons]; exact .inl rfl, ?_⟩
            simp only [List.length_map, List.length_range]
            have hel : es.length = len := by simp [es]
            have hle : lenW es ≤ len * P.bytesOf e := by
              rcases hb8 with h8 | h8
              · refine Nat.le_trans (lenW_le es) ?_
                rw [hel, Nat.mul_comm]
                exact Nat.mul_le_mul_left _ h8
              · rw [lenW_small, hel]
                · exact Nat.le_trans (by omega) (Nat.mul_le_mul_left _ hby)
                · intro r hr' n' e'
                  obtain ⟨i, hi', rfl⟩ := List.mem_map.1 hr'
                  have hh := (hr i (by simpa using hi')).2.1.1
                  rw [e'] at hh
                  cases n with
                  | zero => simp [Has] at hh
                  | succ n =>
                    unfold Has at hh
                    split at h8
                    · rename_i k' hk'
                      simp only [hk'] at hh
                      obtain ⟨j, hj, _⟩ := hh
                      injection hj with hj _
                      injection hj with hj _
                      subst hj
                      simp at h8
                    · rename_i hk'
                      simp only [hk'] at hh
                      obtain ⟨j, hj⟩ := hh
                      injection hj with hj _
                      cases hj
                    · cases h8
            exact Nat.le_trans hle (Nat.mul_le_mul_right _ (by omega))
          · obtain ⟨row, h1, h2⟩ := mem_lensLL hL
            obtain ⟨i, hi', rfl⟩ := List.mem_map.1 h1
            have hi2 : i < len := by simpa using hi'
            rcases (hr i hi2).2.2.2 L h2 with h3 | ⟨x, h3, h4⟩
            · exact .inl h3
            · refine .inr ⟨x, List.mem_cons_of_mem _ (List.mem_append.2 (.inl (mem_weightsAll (List.mem_map.2 ⟨i, hi', rfl⟩) h3))), h4⟩
    · rename_i e hk
      simp only [Bool.and_eq_true, decide_eq_true_eq] at h
      have he : e ∈ Ls := by simpa using h.2
      rcases DataW.trod_pointer hk hx with ⟨rfl, rfl⟩ | ⟨a, cs', y, m, hm', rfl, rfl, hc, hy⟩
      · exact ⟨[.nilp], ⟨by unfold Has; rw [hk]; exact .inl rfl, .mk_cons .nilp .mk_nil⟩, by simpa [szL, DV.sz] using hB.nil, by simpa [lensL, DV.lens] using Fits.nil⟩
      · have hm2 : n = m := by omega
        subst hm2
        obtain ⟨ds, ⟨h1, h2⟩, h3, h4⟩ := trod_rep hB hL _ e _ _ he hy
        obtain ⟨c1, c2, c3, c4⟩ := cells_old hc h.1
        refine ⟨[.ref ds], ⟨by unfold Has; rw [hk]; exact .inr ⟨ds, rfl, h1⟩, .mk_cons ?_ .mk_nil⟩, by have := hB.ptr y.1; simp only [szL, DV.sz]; omega, by unfold DataW.weights; simp only [hk, lensL, DV.lens, List.append_nil]; exact h4⟩
        refine .ref ds a (fun j => (cs'[j]?).getD .nilFunc) c1 c2 (fun j d hd => ?_) (fun j d hd => ?_)
        · obtain ⟨u, hu, hr⟩ := h2.2 j d hd
          exact ⟨by rw [c4 j u hu, hu]; rfl, one_of_has n e _ h1 d (List.mem_of_getElem? hd)⟩
        · obtain ⟨u, hu, hr⟩ := h2.2 j d hd
          rw [hu]; exact hr
    · rename_i k e hk
      simp only [Bool.and_eq_true, decide_eq_true_eq] at h
      have he : e ∈ Ls := by simpa using h.2
      obtain ⟨xs, m, hm', rfl, hcl, hxl, hf⟩ := DataW.trod_array hk hx
      have hm2 : n = m := by omega
      subst hm2
      have key : ∀ (j k : Nat) (ys : List (DataW H × List MemPlace)) (cs : List Value), ys.length = k → (j + k) * P.cellsOf e ≤ cs.length →
          (∀ (i : Nat), i < k → DataW.trod enc P w 0 allSp true n e ((cs.drop ((j + i) * P.cellsOf e)).take (P.cellsOf e)) = ys[i]?) →
          ∃ ds, HasN (Has P n e) k ds ∧ All2 (IRep (oldF w) w) ds ((cs.drop (j * P.cellsOf e)).take (k * P.cellsOf e)) ∧ szL ds ≤ BA (ys.map (·.1)) ∧ Fits (lensL ds) (DataW.weightsAll P e (ys.map (·.1))) := by
        intro j k
        induction k generalizing j with
        | zero => intro ys cs _ _ _; exact ⟨[], rfl, by simpa using All2.mk_nil, by simp [szL], by simpa [lensL] using Fits.nil⟩
        | succ k ih =>
          intro ys cs h3 h4 h5
          match ys, h3 with
          | y :: ys, h3 =>
            have g := h5 0 (by omega)
            simp only [List.getElem?_cons_zero, Nat.add_zero] at g
            obtain ⟨ds, ⟨r1, r2⟩, r3, r7⟩ := trod_rep hB hL _ e _ _ he g
            obtain ⟨ds', r4, r5, r6, r8⟩ := ih (j + 1) ys cs (by simpa using h3) (by rw [show j + 1 + k = j + (k + 1) by omega]; exact h4) (fun i hi => by
              have := h5 (i + 1) (by omega)
              rw [show j + 1 + i = j + (i + 1) by omega]
              simpa using this)
            refine ⟨ds ++ ds', ⟨ds, ds', rfl, r1, r4⟩, ?_, ?_, by
              rw [lensL_append]
              simp only [List.map_cons]
              unfold DataW.weightsAll
              exact Fits.append (r7.sub fun w hw => List.mem_append.2 (.inl hw)) (r8.sub fun w hw => List.mem_append.2 (.inr hw))⟩
            · have e : (cs.drop (j * P.cellsOf e)).take ((k + 1) * P.cellsOf e) = (cs.drop (j * P.cellsOf e)).take (P.cellsOf e) ++ (cs.drop ((j + 1) * P.cellsOf e)).take (k * P.cellsOf e) := by
                rw [show (k + 1) * P.cellsOf e = P.cellsOf e + k * P.cellsOf e by rw [Nat.succ_mul, Nat.add_comm], List.take_add, List.drop_drop, show j * P.cellsOf e + P.cellsOf e = (j + 1) * P.cellsOf e by rw [Nat.succ_mul]]
              rw [e]
              exact r2.append r5
            · have := hB.cons y.1 (ys.map (·.1))
              rw [szL_append]
              simp only [List.map_cons]
              omega
      obtain ⟨ds, r1, r2, r3, r9⟩ := key 0 k xs cs hxl (by rw [Nat.zero_add, hcl, h.1]; exact Nat.le_refl _) (fun i hi => by rw [Nat.zero_add]; exact hf i hi)
      refine ⟨ds, ⟨by unfold Has; rw [hk]; exact r1, ?_⟩, ?_, by unfold DataW.weights; simp only [hk]; exact r9⟩
      · rw [Nat.zero_mul, List.drop_zero, List.take_of_length_le (by rw [hcl, h.1]; exact Nat.le_refl _)] at r2
        exact r2
      · have := hB.agg (xs.map (·.1))
        simp only
        omega
    · rename_i fs hk
      simp only [Bool.and_eq_true, List.all_eq_true, beq_iff_eq] at h
      have hfs : ∀ f ∈ fs.toList, f.type ∈ Ls := fun f hf => by simpa using h.1.1 f hf
      obtain ⟨xs, m, hm', rfl, hcl, hxl, hf⟩ := DataW.trod_struct hk hx
      have hm2 : n = m := by omega
      subst hm2
      have key : ∀ (fl : List Field) (k : Nat) (ys : List (DataW H × List MemPlace)) (cs : List Value), (∀ f ∈ fl, f.type ∈ Ls) → laidFrom P k fl = true → ys.length = fl.length → k + cellsSum P fl ≤ cs.length →
          (∀ (i : Nat) (f : Field), fl[i]? = some f → DataW.trod enc P w 0 allSp true n f.type ((cs.drop f.offset).take (P.cellsOf f.type)) = ys[i]?) →
          ∃ ds, HasL (Has P n) fl ds ∧ All2 (IRep (oldF w) w) ds ((cs.drop k).take (cellsSum P fl)) ∧ szL ds ≤ BA (ys.map (·.1)) ∧ Fits (lensL ds) (DataW.weightsEach P (fl.map (·.type)) (ys.map (·.1))) := by
        intro fl
        induction fl with
        | nil => intro k ys cs _ _ _ _ _; exact ⟨[], rfl, by simpa [cellsSum] using All2.mk_nil, by simp [szL], by simpa [lensL] using Fits.nil⟩
        | cons f fl ih =>
          intro k ys cs h1 h2 h3 h4 h5
          match ys, h3 with
          | y :: ys, h3 =>
            simp only [laidFrom, Bool.and_eq_true, beq_iff_eq] at h2
            simp only [cellsSum] at h4
            have g := h5 0 f rfl
            simp only [List.getElem?_cons_zero] at g
            rw [h2.1] at g
            obtain ⟨ds, ⟨r1, r2⟩, r3, r7⟩ := trod_rep hB hL _ f.type _ _ (h1 f (by simp)) g
            obtain ⟨ds', r4, r5, r6, r8⟩ := ih (k + P.cellsOf f.type) ys cs (fun f' hf' => h1 f' (by simp [hf'])) h2.2 (by simpa using h3) (by omega) (fun i f' hf' => by simpa using h5 (i + 1) f' (by simpa using hf'))
            refine ⟨ds ++ ds', ⟨ds, ds', rfl, r1, r4⟩, ?_, ?_, by
              rw [lensL_append]
              simp only [List.map_cons]
              unfold DataW.weightsEach
              exact Fits.append (r7.sub fun w hw => List.mem_append.2 (.inl hw)) (r8.sub fun w hw => List.mem_append.2 (.inr hw))⟩
            · have e : (cs.drop k).take (cellsSum P (f :: fl)) = (cs.drop k).take (P.cellsOf f.type) ++ (cs.drop (k + P.cellsOf f.type)).take (cellsSum P fl) := by
                simp only [cellsSum]
                rw [List.take_add, List.drop_drop]
              rw [e]
              exact r2.append r5
            · have := hB.cons y.1 (ys.map (·.1))
              rw [szL_append]
              simp only [List.map_cons]
              omega
      obtain ⟨ds, r1, r2, r3, r9⟩ := key fs.toList 0 xs cs hfs h.1.2 (by simpa using hxl) (by omega) (fun i f hi => hf i f (by simpa using hi))
      refine ⟨ds, ⟨by unfold Has; rw [hk]; exact r1, ?_⟩, ?_, by unfold DataW.weights; simp only [hk]; exact r9⟩
      · rw [List.drop_zero, List.take_of_length_le (by omega)] at r2
        exact r2
      · have := hB.agg (xs.map (·.1))
        simp only
        omega
    · cases h
end
end Go.Nk
