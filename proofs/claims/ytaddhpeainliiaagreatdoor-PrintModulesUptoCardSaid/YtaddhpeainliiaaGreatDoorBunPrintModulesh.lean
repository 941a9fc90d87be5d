/- Texts of this repo, bundled: Bulk, OpenTree, OpenMod, ShelfNum, LibWhole, LibOk, LibBuild, LibBld2, LibBld3, LibBld4, LibBld5, LibFmt, PrH, PrI, PrJ, PrK, PrL, PrLb. -/
import Derived.Test.YtaddhpeainliiaaGreatDoorBunPrintModulesg
import Derived.Test.YtaddhpeainliiaaGreatDoorRows
import Derived.DataReads
import Derived.ChangeArms
import Derived.Shelf.Strconv.Itoa4
import Derived.Shelf.Strconv.ParseIntPublic10
import Derived.Test.YtaddhpeainliiaaGreatDoorProg
import Derived.Below
import Derived.Deep.Draws
import Derived.Deep.AppendLies
import Derived.Maps.AppendAt
import Derived.OwnWalk
import Derived.Laws.BytesArg
import Derived.Laws.MakeOwn
import Derived.Laws.OwnMore
import Derived.Deep.OwnRows
import Derived.Tactics
import Derived.Lib.ConvBytes
import Derived.Laws.Slices
import Derived.WalkKit
import Derived.KernelRfl
import Derived.RowKit3
import Derived.Deep.LoopGhost
import Derived.Deep.QuietTactic
import Derived.BigQuiet
import Derived.WideLaws
import Derived.Deep.DeepCutAuto
import Derived.Deep.CutBlock
import Derived.Deep.RegionHeld3
import Derived.Laws.Rows
import Derived.Lib.AppendStr
import Derived.ArgAppend
import Derived.Laws.IdiomCopy
import Derived.OrdersHeld
import Derived.Laws.BitsLemmas
import Derived.RowKit
import Derived.Lib.ParseIntB
import Derived.Lib.ItoaNum
import Derived.Lib.SmallJoins
import Derived.Lib.Strings
import Derived.Lib.Slices
import Derived.Lib.Walk
import Derived.Lib.Bytealg
import Derived.Lib.Builder
import Derived.Lib.UnsafeStr
import Derived.Lib.ItoaLen
/-! ## Bulk -/
namespace Go.Proofs.YtaddhpeainliiaaGreatDoor.bulks

theorem one_le {H : Type} (d : DataW H) : 1 ≤ Rows.uptoBulk d := by
  cases d with
  | lit l => cases l <;> simp [Rows.uptoBulk]
  | nil => simp [Rows.uptoBulk]
  | ptr d => simp [Rows.uptoBulk]
  | slice elems spare => simp [Rows.uptoBulk]
  | agg parts => simp [Rows.uptoBulk]
  | iface t d => simp [Rows.uptoBulk]
  | map entries => simp [Rows.uptoBulk]
  | held h => simp [Rows.uptoBulk]

/-- a part's bulk is at most the whole's -/
theorem part_le {H : Type} {d : DataW H} {l : List (DataW H)} (h : d ∈ l) : Rows.uptoBulk d ≤ Rows.uptoBulkAll l := by
  induction l with
  | nil => cases h
  | cons x r ih =>
    simp only [Rows.uptoBulkAll]
    cases List.mem_cons.1 h with
    | inl e => subst e; omega
    | inr e => have := ih e; omega

theorem append {H : Type} (l r : List (DataW H)) : Rows.uptoBulkAll (l ++ r) = Rows.uptoBulkAll l + Rows.uptoBulkAll r := by
  induction l with
  | nil => simp [Rows.uptoBulkAll]
  | cons x l ih => simp only [List.cons_append, Rows.uptoBulkAll, ih]; omega

/-- so many values at the most -/
theorem length_le {H : Type} (l : List (DataW H)) : l.length ≤ Rows.uptoBulkAll l := by
  induction l with
  | nil => simp [Rows.uptoBulkAll]
  | cons x r ih => have := one_le x; simp only [Rows.uptoBulkAll, List.length_cons]; omega

/-- a slice's places, and what they hold -/
theorem slice_le {H : Type} (elems spare : List (DataW H)) : elems.length + spare.length + 1 ≤ Rows.uptoBulk (.slice elems spare) := by
  have h1 := length_le elems
  have h2 := length_le spare
  simp only [Rows.uptoBulk]
  omega
theorem slice_elems {H : Type} (elems spare : List (DataW H)) : Rows.uptoBulkAll elems + 1 ≤ Rows.uptoBulk (.slice elems spare) := by
  simp only [Rows.uptoBulk]
  omega

/-- a string's letters -/
theorem string_eq {H : Type} (bytes : List UInt8) : Rows.uptoBulk (DataW.lit (H := H) (.string bytes)) = bytes.length + 1 := by
  simp [Rows.uptoBulk]

/-- THE BOUND, as the builder hands it over ('hk') -/
theorem bound {H : Type} {l : List (DataW H)} (hk : Rows.uptoSmall H l = true) : Rows.uptoBulkAll l ≤ 1048576 := by
  simpa [Rows.uptoSmall] using hk

/-- ROOM: a slice of n elements of b bytes, grown by append: below the 2^48 bytes that append, make and a Builder bear. Here n up to 2^21, b up to 4,096: put your own numbers. -/
theorem room {n b : Nat} (hn : n ≤ 2097152) (hb : b ≤ 4096) : (n + n / 4 + 192) * b ≤ 281474976710656 := by
  have h : (n + n / 4 + 192) * b ≤ 2621632 * 4096 := Nat.mul_le_mul (by omega) hb
  omega

end Go.Proofs.YtaddhpeainliiaaGreatDoor.bulks
/-! ## OpenTree -/
namespace Go.Proofs.YtaddhpeainliiaaGreatDoor.Id
open Go Go.ChangeShapes Go.WideShapes
set_option linter.unusedVariables false
set_option linter.unusedSimpArgs false
section
variable {H : Type} {enc : TypeId × Value → H} {w : World}
noncomputable abbrev TR (enc : TypeId × Value → H) (w : World) (n t : Nat) (cs : List Value) : Option (DataW H × List MemPlace) := DataW.trod enc Tryz.prog w 0 (fun _ => true) true n t cs
theorem seen_cell {a : Addr} {v : Value} (h : w.cell? a = some v) : (seen w).h a.block a.off = some v := by
  have hs := World.cell?_spot h
  have hl := World.block_lt_of_cell? w _ h
  obtain ⟨b, o, s⟩ := a
  simp only at hs
  subst hs
  simp only [seen]
  rw [if_pos hl]; exact h
theorem add_block (a : Addr) (n : Nat) : (a.add n).block = a.block := by unfold Addr.add; split <;> rfl
theorem add_off (a : Addr) (n : Nat) : (a.add n).off = a.off + n := by
  unfold Addr.add
  split
  · omega
  · rfl
theorem RepDs.len {h : Id.H} : ∀ {ds : List D} {cs : List Value}, RepDs h ds cs → ds.length = cs.length
  | [], cs, e => by cases e; rfl
  | x :: r, cs, ⟨v, vs, e, _, q⟩ => by subst e; simp [q.len]
/-- the elements of a row -/
theorem trod_row {α : Type} (F : α → List D) (B : α → Prop) {z t e : Nat} (hz : 0 < z) (ht : Tryz.prog.underlying t = some (.slice e)) (hc : Tryz.prog.cellsOf e = z) {fuel : Nat} {cs : List Value} {x : DataW H × List MemPlace}
    (hel : ∀ n, n < fuel → ∀ cs x, TR enc w n e cs = some x → Rows.uptoBulk x.1 ≤ 1048576 → ∃ a, RepDs (seen w).h (F a) cs ∧ B a)
    (h : TR enc w fuel t cs = some x) (hb : Rows.uptoBulk x.1 ≤ 1048576) : ∃ (l : List α) (v : Value), cs = [v] ∧ RepD (seen w).h v (.sl z (l.map F)) ∧ (∀ a ∈ l, B a) ∧ l.length ≤ 1048576 := by
  rcases DataW.trod_slice ht h with ⟨rfl, rfl⟩ | ⟨a, len, cap, elems, rest, n, hn, rfl, rfl, hba, hl, hm, hlen, hes, hsp, hns⟩
  · exact ⟨[], _, rfl, RepD.sl0 z, fun _ h => (by cases h), by simp⟩
  · have hbulk : ∀ y ∈ elems, Rows.uptoBulk y.1 ≤ 1048576 := fun y hy => by
      have h1 := bulks.part_le (List.mem_map_of_mem (f := fun (x : DataW H × List MemPlace) => x.1) hy)
      have h2 := bulks.slice_elems (elems.map (·.1)) (rest.map (·.1))
      simp only at hb; omega
    have hall : ∀ i, i < len → ∃ a0, B a0 ∧ ∃ cs, RepDs (seen w).h (F a0) cs ∧ cs.length = z ∧ ∀ q, q < z → w.cell? (a.add (i * z + q)) = cs[q]? := fun i hi => by
      have h1 := hes i hi
      rw [List.getElem?_eq_getElem (by omega), Option.bind_eq_some_iff] at h1
      obtain ⟨cs, h2, h3⟩ := h1
      obtain ⟨a0, h4, h5⟩ := hel n (by omega) cs _ h3 (hbulk _ (List.getElem_mem _))
      obtain ⟨_, h6, h7⟩ := World.cells?_some h2
      rw [hc] at h6 h7
      exact ⟨a0, h5, cs, h4, h6, fun q hq => by rw [← h7 q hq, Addr.add_add]⟩
    have hex : ∀ m, m ≤ len → ∃ l : List α, l.length = m ∧ (∀ a0 ∈ l, B a0) ∧ ∀ (j : Nat) a0, l[j]? = some a0 → ∃ cs, RepDs (seen w).h (F a0) cs ∧ cs.length = z ∧ ∀ q, q < z → w.cell? (a.add (j * z + q)) = cs[q]? := by
      intro m
      induction m with
      | zero => exact fun _ => ⟨[], rfl, fun _ h => (by cases h), fun j a0 h => (by simp at h)⟩
      | succ m ih =>
        intro hm
        obtain ⟨l, h1, h2, h3⟩ := ih (by omega)
        obtain ⟨a0, g1, cs, g2, g3, g4⟩ := hall m (by omega)
        refine ⟨l ++ [a0], by simp [h1], fun b hb => ?_, fun j b hj => ?_⟩
        · rcases List.mem_append.1 hb with h | h
          · exact h2 b h
          · rw [List.mem_singleton] at h; subst h; exact g1
        · rcases Nat.lt_or_ge j m with h | h
          · rw [List.getElem?_append_left (by omega)] at hj; exact h3 j b hj
          · rw [List.getElem?_append_right (by omega), h1] at hj
            have : j - m = 0 := by
              rcases Nat.eq_zero_or_pos (j - m) with h | h
              · exact h
              · rw [List.getElem?_eq_none (by simp; omega)] at hj; cases hj
            rw [this] at hj
            cases hj
            obtain rfl : j = m := by omega
            exact ⟨cs, g2, g3, g4⟩
    obtain ⟨l, h1, h2, h3⟩ := hex len (Nat.le_refl _)
    refine ⟨l, _, rfl, ?_, h2, ?_⟩
    · have hcell : ∀ (j : Nat) es (i : Nat) y, (l.map F)[j]? = some es → es[i]? = some y → ∃ v, w.cell? (a.add (j * z + i)) = some v ∧ RepD (seen w).h v y := fun j es i y hj hi => by
        rw [List.getElem?_map, Option.map_eq_some_iff] at hj
        obtain ⟨a0, hj, rfl⟩ := hj
        obtain ⟨cs, g1, g2, g3⟩ := h3 j a0 hj
        obtain ⟨v, g4, g5⟩ := g1.get hi
        have hiz : i < z := by
          have := (List.getElem?_eq_some_iff.1 g4).1; omega
        exact ⟨v, by rw [g3 i hiz]; exact g4, g5⟩
      have hlm : (l.map F).length = len := by simp [h1]
      rw [← hlm]
      refine RepD.sl a cap z (l.map F) (fun j i => (w.cell? (a.add (j * z + i))).getD Go.undef) (fun hne => ?_) (by omega) (fun j es hj => ?_) (fun j es i y hj hi => ?_) (fun j es i y hj hi => ?_)
      · have hlen0 : 0 < len := by
          rw [← hlm]; exact List.length_pos_iff.2 hne
        obtain ⟨a0, _, cs, _, g3, g4⟩ := hall 0 hlen0
        have g5 := g4 0 hz
        rw [List.getElem?_eq_getElem (by omega)] at g5
        have := World.cell?_spot g5
        simpa [Addr.add] using this
      · rw [List.getElem?_map, Option.map_eq_some_iff] at hj
        obtain ⟨a0, hj, rfl⟩ := hj
        obtain ⟨cs, g1, g2, _⟩ := h3 j a0 hj
        rw [g1.len, g2]
      · obtain ⟨v, g1, g2⟩ := hcell j es i y hj hi
        have := seen_cell g1
        rw [add_block, add_off] at this
        rw [g1]; exact this
      · obtain ⟨v, g1, g2⟩ := hcell j es i y hj hi
        simp only [g1, Option.getD_some]; exact g2
    · have h4 := bulks.slice_le (elems.map (·.1)) (rest.map (·.1))
      simp only [List.length_map] at h4
      simp only at hb; omega
theorem cells1 {t : Nat} (c : Tryz.prog.cellsOf t = 1) {l : List Value} {i : Nat} {v : Value} (h : (l.drop i).take (Tryz.prog.cellsOf t) = [v]) : l[i]? = some v := by
  rw [c] at h
  have h1 : ((l.drop i).take 1)[0]? = some v := by rw [h]; rfl
  simpa using h1
theorem list_eq {α : Type} : ∀ {l r : List α}, l.length = r.length → (∀ (i : Nat) v, r[i]? = some v → l[i]? = some v) → l = r
  | [], [], _, _ => rfl
  | [], _ :: _, h, _ => by simp at h
  | _ :: _, [], h, _ => by simp at h
  | a :: l, b :: r, h, g => by
    have h0 := g 0 b rfl
    have h1 := list_eq (l := l) (r := r) (by simpa using h) (fun i v hv => by simpa using g (i + 1) v (by simpa using hv))
    simp at h0
    rw [h0, h1]
set_option maxRecDepth 100000 in
theorem trod_value {n : Nat} {cs : List Value} {x : DataW H × List MemPlace} (h : TR enc w n 30 cs = some x) : ∃ v : TVal, cs = [.int .i64 v.t, .int .i64 v.i, .bool v.b, .string v.s] ∧ v.s.size ≤ Rows.uptoBulk x.1 := by
  obtain ⟨xs, n', rfl, rfl, hl, hx, hf⟩ := DataW.trod_struct Tryz.underlying30 h
  have hl4 : cs.length = 4 := by rw [hl]; kernel_rfl
  have hx4 : xs.length = 4 := hx
  obtain ⟨z0, e0, _⟩ := DataW.trod_int (k := .i64) (by kernel_rfl) ((hf 0 _ rfl).trans (List.getElem?_eq_getElem (by omega)))
  obtain ⟨z1, e1, _⟩ := DataW.trod_int (k := .i64) (by kernel_rfl) ((hf 1 _ rfl).trans (List.getElem?_eq_getElem (by omega)))
  obtain ⟨b2, e2, _⟩ := DataW.trod_bool (by kernel_rfl) ((hf 2 _ rfl).trans (List.getElem?_eq_getElem (by omega)))
  obtain ⟨s3, e3, g3, _⟩ := DataW.trod_string (by kernel_rfl) ((hf 3 _ rfl).trans (List.getElem?_eq_getElem (by omega)))
  have k0 := cells1 (by kernel_rfl) e0
  have k1 := cells1 (by kernel_rfl) e1
  have k2 := cells1 (by kernel_rfl) e2
  have k3 := cells1 (by kernel_rfl) e3
  refine ⟨⟨z0, z1, b2, s3⟩, list_eq hl4 (fun i v hv => ?_), ?_⟩
  · match i with
    | 0 => cases hv; exact k0
    | 1 => cases hv; exact k1
    | 2 => cases hv; exact k2
    | 3 => cases hv; exact k3
    | n + 4 => simp at hv
  · have h1 := bulks.part_le (List.mem_map_of_mem (f := fun (x : DataW H × List MemPlace) => x.1) (List.getElem_mem (l := xs) (n := 3) (by omega)))
    have h2 : Rows.uptoBulk (DataW.agg (xs.map (·.1))) = Rows.uptoBulkAll (xs.map (·.1)) + 1 := by rw [Rows.uptoBulk]
    rw [g3] at h1
    simp only [bulks.string_eq] at h1
    have h3 : s3.data.toList.length = s3.size := by rw [Array.length_toList]; rfl
    simp only at h1 ⊢; omega
theorem bulk_part {xs : List (DataW H × List MemPlace)} {i : Nat} (h : i < xs.length) : Rows.uptoBulk (xs[i]).1 + 1 ≤ Rows.uptoBulk (DataW.agg (xs.map (·.1))) := by
  have h1 := bulks.part_le (List.mem_map_of_mem (f := fun (x : DataW H × List MemPlace) => x.1) (List.getElem_mem h))
  have h2 : Rows.uptoBulk (DataW.agg (xs.map (·.1))) = Rows.uptoBulkAll (xs.map (·.1)) + 1 := by rw [Rows.uptoBulk]
  omega
theorem bulk_str' {x : DataW H × List MemPlace} {s : ByteArray} (h : x = (.lit (.string s.data.toList), [])) : s.size ≤ Rows.uptoBulk x.1 := by
  subst h
  simp only [bulks.string_eq]
  have h3 : s.data.toList.length = s.size := by rw [Array.length_toList]; rfl
  omega
theorem dsAll_map : ∀ l : List TExpr, dsAll l = l.map dsOf
  | [] => rfl
  | x :: r => by rw [dsAll, dsAll_map r]; rfl
theorem smEs_of : ∀ {l : List TExpr}, (∀ e ∈ l, smE e) → smEs l
  | [], _ => trivial
  | x :: r, h => ⟨h x (by simp), smEs_of fun e he => h e (by simp [he])⟩
set_option maxRecDepth 100000 in
theorem trod_expr : ∀ (n : Nat) (cs : List Value) (x : DataW H × List MemPlace), TR enc w n 34 cs = some x → Rows.uptoBulk x.1 ≤ 1048576 → ∃ e : TExpr, RepDs (seen w).h (dsOf e) cs ∧ smE e := by
  intro n
  induction n using Nat.strongRecOn with
  | ind n ih =>
  intro cs x h hb
  obtain ⟨xs, n', rfl, rfl, hl, hx, hf⟩ := DataW.trod_struct Tryz.underlying34 h
  have hl4 : cs.length = 10 := by rw [hl]; kernel_rfl
  have hx4 : xs.length = 7 := hx
  obtain ⟨z0, e0, _⟩ := DataW.trod_int (k := .i64) (by kernel_rfl) ((hf 0 _ rfl).trans (List.getElem?_eq_getElem (by omega)))
  obtain ⟨z1, e1, _⟩ := DataW.trod_int (k := .i64) (by kernel_rfl) ((hf 1 _ rfl).trans (List.getElem?_eq_getElem (by omega)))
  obtain ⟨s2, e2, g2, _⟩ := DataW.trod_string (by kernel_rfl) ((hf 2 _ rfl).trans (List.getElem?_eq_getElem (by omega)))
  obtain ⟨s3, e3, g3, _⟩ := DataW.trod_string (by kernel_rfl) ((hf 3 _ rfl).trans (List.getElem?_eq_getElem (by omega)))
  obtain ⟨v4, e4, g4⟩ := trod_value ((hf 4 _ rfl).trans (List.getElem?_eq_getElem (by omega)))
  obtain ⟨z5, e5, _⟩ := DataW.trod_int (k := .i64) (by kernel_rfl) ((hf 5 _ rfl).trans (List.getElem?_eq_getElem (by omega)))
  have b2 := bulk_part (xs := xs) (i := 2) (by omega)
  have b3 := bulk_part (xs := xs) (i := 3) (by omega)
  have b6 := bulk_part (xs := xs) (i := 6) (by omega)
  have c2 := bulk_str' g2
  have c3 := bulk_str' g3
  obtain ⟨l, v6, e6, r6, m6, k6⟩ := trod_row dsOf smE (z := 10) (e := 34) (by decide) (by kernel_rfl) (by kernel_rfl) (fun n hn cs x hx hb => ih n (by omega) cs x hx hb) ((hf 6 _ rfl).trans (List.getElem?_eq_getElem (by omega))) (by simp only at hb; omega)
  have k0 := cells1 (by kernel_rfl) e0
  have k1 := cells1 (by kernel_rfl) e1
  have k2 := cells1 (by kernel_rfl) e2
  have k3 := cells1 (by kernel_rfl) e3
  have k5 := cells1 (by kernel_rfl) e5
  have k6' := cells1 (by kernel_rfl) e6
  have k4 : ∀ i, i < 4 → cs[4 + i]? = [Value.int .i64 v4.t, .int .i64 v4.i, .bool v4.b, .string v4.s][i]? := fun i hi => by
    have e4' : (cs.drop 4).take (Tryz.prog.cellsOf 30) = _ := e4
    rw [show Tryz.prog.cellsOf 30 = 4 by kernel_rfl] at e4'
    rw [← e4', List.getElem?_take, if_pos hi, List.getElem?_drop]
  obtain rfl : cs = [.int .i64 z0, .int .i64 z1, .string s2, .string s3, .int .i64 v4.t, .int .i64 v4.i, .bool v4.b, .string v4.s, .int .i64 z5, v6] := list_eq hl4 (fun i v hv => by
    match i with
    | 0 => cases hv; exact k0
    | 1 => cases hv; exact k1
    | 2 => cases hv; exact k2
    | 3 => cases hv; exact k3
    | 4 => cases hv; exact k4 0 (by decide)
    | 5 => cases hv; exact k4 1 (by decide)
    | 6 => cases hv; exact k4 2 (by decide)
    | 7 => cases hv; exact k4 3 (by decide)
    | 8 => cases hv; exact k5
    | 9 => cases hv; exact k6'
    | n + 10 => simp at hv)
  refine ⟨.mk z0 z1 s2 s3 v4 z5 l, ?_, ?_⟩
  · refine ⟨_, _, rfl, .int _ _, _, _, rfl, .int _ _, _, _, rfl, .str _, _, _, rfl, .str _, _, _, rfl, .int _ _, _, _, rfl, .int _ _, _, _, rfl, .bool _, _, _, rfl, .str _, _, _, rfl, .int _ _, _, _, rfl, ?_, rfl⟩
    rw [dsAll_map]; exact r6
  · simp only at hb
    exact ⟨by omega, by omega, by omega, smEs_of m6⟩
theorem okWide_agg {P : Program} {r : Reach} {b0 t : Nat} {fs : Array Field} {v : Value} (ht : P.underlying t = some (.struct fs)) (h : Value.okWide P w r b0 t v) : ∃ cs : Array Value, v = .agg cs := by
  simp only [Value.okWide, ht] at h
  obtain ⟨cs, h1, _⟩ := h
  exact ⟨cs, h1⟩
/-- an argument that is a row of bytes -/
theorem trod_bytes {n t e : Nat} {cs : List Value} {x : DataW H × List MemPlace} (ht : Tryz.prog.underlying t = some (.slice e)) (he : Tryz.prog.underlying e = some (.int .u8)) (hc : Tryz.prog.cellsOf e = 1) (h : TR enc w n t cs = some x) (hb : Rows.uptoBulk x.1 ≤ 1048576) :
    ∃ (bs : List UInt8) (v : Value), cs = [v] ∧ RepD (seen w).h v (.sl 1 (bs.map byteD)) ∧ bs.length ≤ 1048576 := by
  obtain ⟨l, v, h1, h2, _, h4⟩ := trod_row byteD (fun _ => True) (by decide) ht hc (fun n _ cs x hx _ => by
    obtain ⟨z, rfl, _, hw⟩ := DataW.trod_int he hx
    simp only [Lit.wf, Bool.and_eq_true, decide_eq_true_eq] at hw
    have h0 : (0 : Int) ≤ z := hw.1
    have h1 : z ≤ 255 := hw.2
    refine ⟨UInt8.ofNat z.toNat, ⟨_, _, rfl, ?_, rfl⟩, trivial⟩
    have e : ((UInt8.ofNat z.toNat).toNat : Int) = z := by
      rw [UInt8.toNat_ofNat']; omega
    rw [e]; exact .int _ _) h hb
  exact ⟨l, v, h1, h2, h4⟩
end
end Go.Proofs.YtaddhpeainliiaaGreatDoor.Id
/-! ## OpenMod -/
namespace Go.Proofs.YtaddhpeainliiaaGreatDoor.Id
open Go Go.ChangeShapes Go.WideShapes
set_option linter.unusedVariables false
set_option linter.unusedSimpArgs false
section
variable {H : Type} {enc : TypeId × Value → H} {w : World}
theorem RepDs.app {h : Id.H} : ∀ {a b : List D} {x y : List Value}, RepDs h a x → RepDs h b y → RepDs h (a ++ b) (x ++ y)
  | [], b, x, y, e, g => by cases e; exact g
  | d :: a, b, x, y, ⟨v, vs, e, p, q⟩, g => by subst e; exact ⟨v, vs ++ y, rfl, p, q.app g⟩
theorem RepDs.cut {h : Id.H} {a b c : List D} {l : List Value} (i j : Nat) (ha : RepDs h a (l.take i)) (hb : RepDs h b ((l.drop i).take j)) (hc : RepDs h c (l.drop (i + j))) : RepDs h (a ++ (b ++ c)) l := by
  have h1 := ha.app (hb.app hc)
  rw [← List.drop_drop, List.take_append_drop, List.take_append_drop] at h1
  exact h1
theorem RepDs.mk1 {h : Id.H} {d : D} {v : Value} (p : RepD h v d) : RepDs h [d] [v] := ⟨_, _, rfl, p, rfl⟩
theorem ssAll_map : ∀ l : List TStmt, ssAll l = l.map (fun s => sD s)
  | [] => by rw [ssAll]; rfl
  | x :: r => by rw [ssAll_cons, ssAll_map r]; rfl
theorem smSs_of : ∀ {l : List TStmt}, (∀ e ∈ l, smS e) → smSs l
  | [], _ => trivial
  | x :: r, h => ⟨h x (by simp), smSs_of fun e he => h e (by simp [he])⟩
theorem take_eq {α : Type} {l r : List α} {n : Nat} (hl : n ≤ l.length) (hr : r.length = n) (h : ∀ (i : Nat) v, r[i]? = some v → l[i]? = some v) : l.take n = r :=
  list_eq (by rw [List.length_take]; omega) fun i v hv => by
    have : i < n := by rw [← hr]; exact (List.getElem?_eq_some_iff.1 hv).1
    rw [List.getElem?_take, if_pos this]; exact h i v hv
theorem drop_eq {α : Type} {l r : List α} {n : Nat} (hl : l.length = n + r.length) (h : ∀ (i : Nat) v, r[i]? = some v → l[n + i]? = some v) : l.drop n = r :=
  list_eq (by rw [List.length_drop]; omega) fun i v hv => by rw [List.getElem?_drop]; exact h i v hv
set_option maxRecDepth 100000 in
theorem trod_stmt : ∀ (n : Nat) (cs : List Value) (x : DataW H × List MemPlace), TR enc w n 87 cs = some x → Rows.uptoBulk x.1 ≤ 1048576 → ∃ s : TStmt, RepDs (seen w).h (sD s) cs ∧ smS s := by
  intro n
  induction n using Nat.strongRecOn with
  | ind n ih =>
  intro cs x h hb
  obtain ⟨xs, n', rfl, rfl, hl, hx, hf⟩ := DataW.trod_struct Tryz.underlying87 h
  have hl4 : cs.length = 16 := by rw [hl]; kernel_rfl
  have hx4 : xs.length = 7 := hx
  have b2 := bulk_part (xs := xs) (i := 2) (by omega)
  have b3 := bulk_part (xs := xs) (i := 3) (by omega)
  have b4 := bulk_part (xs := xs) (i := 4) (by omega)
  have b5 := bulk_part (xs := xs) (i := 5) (by omega)
  simp only at hb
  obtain ⟨z0, e0, _⟩ := DataW.trod_int (k := .i64) (by kernel_rfl) ((hf 0 _ rfl).trans (List.getElem?_eq_getElem (by omega)))
  obtain ⟨z1, e1, _⟩ := DataW.trod_int (k := .i64) (by kernel_rfl) ((hf 1 _ rfl).trans (List.getElem?_eq_getElem (by omega)))
  obtain ⟨s2, e2, g2, _⟩ := DataW.trod_string (by kernel_rfl) ((hf 2 _ rfl).trans (List.getElem?_eq_getElem (by omega)))
  obtain ⟨e3, r3, m3⟩ := trod_expr _ _ _ ((hf 3 _ rfl).trans (List.getElem?_eq_getElem (by omega))) (by omega)
  obtain ⟨l4, v4, e4, r4, m4, k4⟩ := trod_row (fun s => sD s) smS (z := 16) (e := 87) (by decide) (by kernel_rfl) (by kernel_rfl) (fun n hn cs x hx hb => ih n (by omega) cs x hx hb) ((hf 4 _ rfl).trans (List.getElem?_eq_getElem (by omega))) (by omega)
  obtain ⟨l5, v5, e5, r5, m5, k5⟩ := trod_row (fun s => sD s) smS (z := 16) (e := 87) (by decide) (by kernel_rfl) (by kernel_rfl) (fun n hn cs x hx hb => ih n (by omega) cs x hx hb) ((hf 5 _ rfl).trans (List.getElem?_eq_getElem (by omega))) (by omega)
  obtain ⟨z6, e6, _⟩ := DataW.trod_bool (by kernel_rfl) ((hf 6 _ rfl).trans (List.getElem?_eq_getElem (by omega)))
  have c2 := bulk_str' g2
  have k0 := cells1 (by kernel_rfl) e0
  have k1 := cells1 (by kernel_rfl) e1
  have k2 := cells1 (by kernel_rfl) e2
  have k4' := cells1 (by kernel_rfl) e4
  have k5' := cells1 (by kernel_rfl) e5
  have k6 := cells1 (by kernel_rfl) e6
  have r3' : RepDs (seen w).h (dsOf e3) ((cs.drop 3).take (Tryz.prog.cellsOf 34)) := r3
  rw [show Tryz.prog.cellsOf 34 = 10 by kernel_rfl, dsOf_eq] at r3'
  refine ⟨.mk z0 z1 s2 e3 l4 l5 z6, ?_, ?_⟩
  · refine RepDs.cut (a := [cZ z0, cZ z1, .str s2]) (b := eD e3) (c := [.sl 16 (ssAll l4), .sl 16 (ssAll l5), .bool z6]) 3 10 ?_ r3' ?_
    · rw [take_eq (n := 3) (r := [.int .i64 z0, .int .i64 z1, .string s2]) (by omega) rfl (fun i v hv => by
        match i with
        | 0 => cases hv; exact k0
        | 1 => cases hv; exact k1
        | 2 => cases hv; exact k2
        | n + 3 => simp at hv)]
      exact ⟨_, _, rfl, .int _ _, _, _, rfl, .int _ _, _, _, rfl, .str _, rfl⟩
    · rw [drop_eq (n := 13) (r := [v4, v5, .bool z6]) (by rw [hl4]; rfl) (fun i v hv => by
        match i with
        | 0 => cases hv; exact k4'
        | 1 => cases hv; exact k5'
        | 2 => cases hv; exact k6
        | n + 3 => simp at hv)]
      rw [ssAll_map, ssAll_map]
      exact ⟨_, _, rfl, r4, _, _, rfl, r5, _, _, rfl, .bool _, rfl⟩
  · exact ⟨by omega, m3, by omega, by omega, smSs_of m4, smSs_of m5⟩
set_option maxRecDepth 100000 in
theorem trod_param (n : Nat) (cs : List Value) (x : DataW H × List MemPlace) (h : TR enc w n 83 cs = some x) (hb : Rows.uptoBulk x.1 ≤ 1048576) : ∃ p : TParam, RepDs (seen w).h (pD p) cs ∧ p.nm.size ≤ 1048576 := by
  obtain ⟨xs, n', rfl, rfl, hl, hx, hf⟩ := DataW.trod_struct Tryz.underlying83 h
  have hl4 : cs.length = 2 := by rw [hl]; kernel_rfl
  have hx4 : xs.length = 2 := hx
  have b0 := bulk_part (xs := xs) (i := 0) (by omega)
  simp only at hb
  obtain ⟨s0, e0, g0, _⟩ := DataW.trod_string (by kernel_rfl) ((hf 0 _ rfl).trans (List.getElem?_eq_getElem (by omega)))
  obtain ⟨z1, e1, _⟩ := DataW.trod_int (k := .i64) (by kernel_rfl) ((hf 1 _ rfl).trans (List.getElem?_eq_getElem (by omega)))
  have c0 := bulk_str' g0
  have k0 := cells1 (by kernel_rfl) e0
  have k1 := cells1 (by kernel_rfl) e1
  obtain rfl : cs = [.string s0, .int .i64 z1] := list_eq hl4 (fun i v hv => by
    match i with
    | 0 => cases hv; exact k0
    | 1 => cases hv; exact k1
    | n + 2 => simp at hv)
  exact ⟨⟨s0, z1⟩, ⟨_, _, rfl, .str _, _, _, rfl, .int _ _, rfl⟩, by simp only; omega⟩
set_option maxRecDepth 100000 in
theorem trod_incl (n : Nat) (cs : List Value) (x : DataW H × List MemPlace) (h : TR enc w n 76 cs = some x) (hb : Rows.uptoBulk x.1 ≤ 1048576) : ∃ p : TIncl, RepDs (seen w).h (iD p) cs ∧ (p.nm.size ≤ 1048576 ∧ p.p.size ≤ 1048576) := by
  obtain ⟨xs, n', rfl, rfl, hl, hx, hf⟩ := DataW.trod_struct Tryz.underlying76 h
  have hl4 : cs.length = 3 := by rw [hl]; kernel_rfl
  have hx4 : xs.length = 3 := hx
  have b0 := bulk_part (xs := xs) (i := 0) (by omega)
  have b1 := bulk_part (xs := xs) (i := 1) (by omega)
  simp only at hb
  obtain ⟨s0, e0, g0, _⟩ := DataW.trod_string (by kernel_rfl) ((hf 0 _ rfl).trans (List.getElem?_eq_getElem (by omega)))
  obtain ⟨s1, e1, g1, _⟩ := DataW.trod_string (by kernel_rfl) ((hf 1 _ rfl).trans (List.getElem?_eq_getElem (by omega)))
  obtain ⟨z2, e2, _⟩ := DataW.trod_int (k := .i64) (by kernel_rfl) ((hf 2 _ rfl).trans (List.getElem?_eq_getElem (by omega)))
  have c0 := bulk_str' g0
  have c1 := bulk_str' g1
  have k0 := cells1 (by kernel_rfl) e0
  have k1 := cells1 (by kernel_rfl) e1
  have k2 := cells1 (by kernel_rfl) e2
  obtain rfl : cs = [.string s0, .string s1, .int .i64 z2] := list_eq hl4 (fun i v hv => by
    match i with
    | 0 => cases hv; exact k0
    | 1 => cases hv; exact k1
    | 2 => cases hv; exact k2
    | n + 3 => simp at hv)
  exact ⟨⟨s0, s1, z2⟩, ⟨_, _, rfl, .str _, _, _, rfl, .str _, _, _, rfl, .int _ _, rfl⟩, by simp only; omega, by simp only; omega⟩
set_option maxRecDepth 100000 in
theorem trod_const (n : Nat) (cs : List Value) (x : DataW H × List MemPlace) (h : TR enc w n 53 cs = some x) (hb : Rows.uptoBulk x.1 ≤ 1048576) : ∃ c : TCons, RepDs (seen w).h (cD c) cs ∧ (c.nm.size ≤ 1048576 ∧ smE c.e) := by
  obtain ⟨xs, n', rfl, rfl, hl, hx, hf⟩ := DataW.trod_struct Tryz.underlying53 h
  have hl4 : cs.length = 13 := by rw [hl]; kernel_rfl
  have hx4 : xs.length = 4 := hx
  have b0 := bulk_part (xs := xs) (i := 0) (by omega)
  have b3 := bulk_part (xs := xs) (i := 3) (by omega)
  simp only at hb
  obtain ⟨s0, e0, g0, _⟩ := DataW.trod_string (by kernel_rfl) ((hf 0 _ rfl).trans (List.getElem?_eq_getElem (by omega)))
  obtain ⟨z1, e1, _⟩ := DataW.trod_bool (by kernel_rfl) ((hf 1 _ rfl).trans (List.getElem?_eq_getElem (by omega)))
  obtain ⟨z2, e2, _⟩ := DataW.trod_int (k := .i64) (by kernel_rfl) ((hf 2 _ rfl).trans (List.getElem?_eq_getElem (by omega)))
  obtain ⟨e3, r3, m3⟩ := trod_expr _ _ _ ((hf 3 _ rfl).trans (List.getElem?_eq_getElem (by omega))) (by omega)
  have c0 := bulk_str' g0
  have k0 := cells1 (by kernel_rfl) e0
  have k1 := cells1 (by kernel_rfl) e1
  have k2 := cells1 (by kernel_rfl) e2
  have r3' : RepDs (seen w).h (dsOf e3) ((cs.drop 3).take (Tryz.prog.cellsOf 34)) := r3
  rw [show Tryz.prog.cellsOf 34 = 10 by kernel_rfl, dsOf_eq] at r3'
  refine ⟨⟨s0, z1, z2, e3⟩, ?_, by simp only; omega, m3⟩
  refine RepDs.cut (a := [.str s0, .bool z1, cZ z2]) (b := eD e3) (c := []) 3 10 ?_ r3' ?_
  · rw [take_eq (n := 3) (r := [.string s0, .bool z1, .int .i64 z2]) (by omega) rfl (fun i v hv => by
      match i with
      | 0 => cases hv; exact k0
      | 1 => cases hv; exact k1
      | 2 => cases hv; exact k2
      | n + 3 => simp at hv)]
    exact ⟨_, _, rfl, .str _, _, _, rfl, .bool _, _, _, rfl, .int _ _, rfl⟩
  · rw [drop_eq (n := 13) (r := []) (by rw [hl4]; rfl) (fun i v hv => by simp at hv)]
    rfl
set_option maxRecDepth 100000 in
theorem trod_func (n : Nat) (cs : List Value) (x : DataW H × List MemPlace) (h : TR enc w n 51 cs = some x) (hb : Rows.uptoBulk x.1 ≤ 1048576) : ∃ f : TFunc, RepDs (seen w).h (fD f) cs ∧ SmF f := by
  obtain ⟨xs, n', rfl, rfl, hl, hx, hf⟩ := DataW.trod_struct Tryz.underlying51 h
  have hl4 : cs.length = 6 := by rw [hl]; kernel_rfl
  have hx4 : xs.length = 6 := hx
  have b0 := bulk_part (xs := xs) (i := 0) (by omega)
  have b3 := bulk_part (xs := xs) (i := 3) (by omega)
  have b5 := bulk_part (xs := xs) (i := 5) (by omega)
  simp only at hb
  obtain ⟨s0, e0, g0, _⟩ := DataW.trod_string (by kernel_rfl) ((hf 0 _ rfl).trans (List.getElem?_eq_getElem (by omega)))
  obtain ⟨z1, e1, _⟩ := DataW.trod_bool (by kernel_rfl) ((hf 1 _ rfl).trans (List.getElem?_eq_getElem (by omega)))
  obtain ⟨z2, e2, _⟩ := DataW.trod_int (k := .i64) (by kernel_rfl) ((hf 2 _ rfl).trans (List.getElem?_eq_getElem (by omega)))
  obtain ⟨l3, v3, e3, r3, m3, n3⟩ := trod_row (fun p => pD p) (fun p : TParam => p.nm.size ≤ 1048576) (z := 2) (e := 83) (by decide) (by kernel_rfl) (by kernel_rfl) (fun n hn cs x hx hb => trod_param n cs x hx hb) ((hf 3 _ rfl).trans (List.getElem?_eq_getElem (by omega))) (by omega)
  obtain ⟨z4, e4, _⟩ := DataW.trod_int (k := .i64) (by kernel_rfl) ((hf 4 _ rfl).trans (List.getElem?_eq_getElem (by omega)))
  obtain ⟨l5, v5, e5, r5, m5, n5⟩ := trod_row (fun s => sD s) smS (z := 16) (e := 87) (by decide) (by kernel_rfl) (by kernel_rfl) (fun n hn cs x hx hb => trod_stmt n cs x hx hb) ((hf 5 _ rfl).trans (List.getElem?_eq_getElem (by omega))) (by omega)
  have c0 := bulk_str' g0
  have k0 := cells1 (by kernel_rfl) e0
  have k1 := cells1 (by kernel_rfl) e1
  have k2 := cells1 (by kernel_rfl) e2
  have k3 := cells1 (by kernel_rfl) e3
  have k4 := cells1 (by kernel_rfl) e4
  have k5 := cells1 (by kernel_rfl) e5
  obtain rfl : cs = [.string s0, .bool z1, .int .i64 z2, v3, .int .i64 z4, v5] := list_eq hl4 (fun i v hv => by
    match i with
    | 0 => cases hv; exact k0
    | 1 => cases hv; exact k1
    | 2 => cases hv; exact k2
    | 3 => cases hv; exact k3
    | 4 => cases hv; exact k4
    | 5 => cases hv; exact k5
    | n + 6 => simp at hv)
  rw [← ssAll_map] at r5
  exact ⟨⟨s0, z1, z2, l3, z4, l5⟩, ⟨_, _, rfl, .str _, _, _, rfl, .bool _, _, _, rfl, .int _ _, _, _, rfl, r3, _, _, rfl, .int _ _, _, _, rfl, r5, rfl⟩, ⟨by simp only; omega, by simp only; omega, m3, by simp only; omega, smSs_of m5⟩⟩
set_option maxRecDepth 100000 in
theorem trod_mod (n : Nat) (cs : List Value) (x : DataW H × List MemPlace) (h : TR enc w n 26 cs = some x) (hb : Rows.uptoBulk x.1 ≤ 1048576) : ∃ m : TMod, RepDs (seen w).h (mD m) cs ∧ (SmM m ∧ ∀ i ∈ m.is, i.p.size ≤ 1048576) := by
  obtain ⟨xs, n', rfl, rfl, hl, hx, hf⟩ := DataW.trod_struct Tryz.underlying26 h
  have hl4 : cs.length = 3 := by rw [hl]; kernel_rfl
  have hx4 : xs.length = 3 := hx
  have b0 := bulk_part (xs := xs) (i := 0) (by omega)
  have b1 := bulk_part (xs := xs) (i := 1) (by omega)
  have b2 := bulk_part (xs := xs) (i := 2) (by omega)
  simp only at hb
  obtain ⟨l0, v0, e0, r0, m0, n0⟩ := trod_row (fun p => iD p) (fun p : TIncl => p.nm.size ≤ 1048576 ∧ p.p.size ≤ 1048576) (z := 3) (e := 76) (by decide) (by kernel_rfl) (by kernel_rfl) (fun n hn cs x hx hb => trod_incl n cs x hx hb) ((hf 0 _ rfl).trans (List.getElem?_eq_getElem (by omega))) (by omega)
  obtain ⟨l1, v1, e1, r1, m1, n1⟩ := trod_row (fun p => cD p) (fun c : TCons => c.nm.size ≤ 1048576 ∧ smE c.e) (z := 13) (e := 53) (by decide) (by kernel_rfl) (by kernel_rfl) (fun n hn cs x hx hb => trod_const n cs x hx hb) ((hf 1 _ rfl).trans (List.getElem?_eq_getElem (by omega))) (by omega)
  obtain ⟨l2, v2, e2, r2, m2, n2⟩ := trod_row (fun p => fD p) SmF (z := 6) (e := 51) (by decide) (by kernel_rfl) (by kernel_rfl) (fun n hn cs x hx hb => trod_func n cs x hx hb) ((hf 2 _ rfl).trans (List.getElem?_eq_getElem (by omega))) (by omega)
  have k0 := cells1 (by kernel_rfl) e0
  have k1 := cells1 (by kernel_rfl) e1
  have k2 := cells1 (by kernel_rfl) e2
  obtain rfl : cs = [v0, v1, v2] := list_eq hl4 (fun i v hv => by
    match i with
    | 0 => cases hv; exact k0
    | 1 => cases hv; exact k1
    | 2 => cases hv; exact k2
    | n + 3 => simp at hv)
  exact ⟨⟨l0, l1, l2⟩, ⟨_, _, rfl, r0, _, _, rfl, r1, _, _, rfl, r2, rfl⟩, ⟨by simp only; omega, by simp only; omega, by simp only; omega, fun i hi => (m0 i hi).1, m1, m2⟩, fun i hi => (m0 i hi).2⟩
/-- an argument that is a row of rows of bytes -/
theorem trod_rows {n t e e2 : Nat} {cs : List Value} {x : DataW H × List MemPlace} (ht : Tryz.prog.underlying t = some (.slice e)) (he : Tryz.prog.underlying e = some (.slice e2)) (he2 : Tryz.prog.underlying e2 = some (.int .u8)) (hc : Tryz.prog.cellsOf e = 1) (hc2 : Tryz.prog.cellsOf e2 = 1) (h : TR enc w n t cs = some x) (hb : Rows.uptoBulk x.1 ≤ 1048576) :
    ∃ (l : List (List UInt8)) (v : Value), cs = [v] ∧ RepD (seen w).h v (.sl 1 (l.map fun g => [.sl 1 (g.map byteD)])) ∧ (∀ g ∈ l, g.length ≤ 1048576) ∧ l.length ≤ 1048576 :=
  trod_row (fun g => [.sl 1 (g.map byteD)]) (fun g : List UInt8 => g.length ≤ 1048576) (by decide) ht hc (fun n _ cs x hx hb => by
    obtain ⟨bs, v, rfl, r, hl⟩ := trod_bytes he he2 hc2 hx hb
    exact ⟨bs, ⟨_, _, rfl, r, rfl⟩, hl⟩) h hb
/-- an argument that is a row of texts -/
theorem trod_strs {n t e : Nat} {cs : List Value} {x : DataW H × List MemPlace} (ht : Tryz.prog.underlying t = some (.slice e)) (he : Tryz.prog.underlying e = some .string) (hc : Tryz.prog.cellsOf e = 1) (h : TR enc w n t cs = some x) (hb : Rows.uptoBulk x.1 ≤ 1048576) :
    ∃ (l : List ByteArray) (v : Value), cs = [v] ∧ RepD (seen w).h v (.sl 1 (l.map fun s => [.str s])) ∧ (∀ s ∈ l, s.size ≤ 1048576) ∧ l.length ≤ 1048576 :=
  trod_row (fun s => [.str s]) (fun s : ByteArray => s.size ≤ 1048576) (by decide) ht hc (fun n _ cs x hx hb => by
    obtain ⟨s, rfl, g, _⟩ := DataW.trod_string he hx
    have := bulk_str' g
    exact ⟨s, ⟨_, _, rfl, .str _, rfl⟩, by omega⟩) h hb
end
end Go.Proofs.YtaddhpeainliiaaGreatDoor.Id
/-! ## ShelfNum -/
namespace Go.Proofs
open Go.Shelf
def Tryz.laysM173_ren : Go.Shelf.Ren := ⟨fun | 173 => 82 | 246 => 115 | 283 => 154 | 284 => 155 | 285 => 156 | 286 => 157 | 129 => 182 | 317 => 181 | 318 => 183 | 319 => 184 | 320 => 185 | 337 => 202 | 338 => 203 | n => n, fun | 2 => 2 | 3 => 3 | 9 => 9 | 4 => 4 | 171 => 192 | 0 => 0 | 53 => 193 | 37 => 103 | 5 => 5 | 173 => 196 | 212 => 213 | 51 => 214 | 20 => 20 | 213 => 215 | 46 => 167 | 232 => 242 | 233 => 243 | n => n, fun | 17 => 0 | 18 => 2 | 19 => 3 | n => n⟩
theorem Tryz.laysM173 : Go.Proofs.LaysM.n173 Tryz.prog Tryz.laysM173_ren := {
  mixed := by kernel_rfl
  f129 := Tryz.func182.trans (congrArg some (by kernel_rfl))
  f173 := Tryz.func82.trans (congrArg some (by kernel_rfl))
  f246 := Tryz.func115.trans (congrArg some (by kernel_rfl))
  f283 := Tryz.func154.trans (congrArg some (by kernel_rfl))
  f284 := Tryz.func155.trans (congrArg some (by kernel_rfl))
  f285 := Tryz.func156.trans (congrArg some (by kernel_rfl))
  f286 := Tryz.func157.trans (congrArg some (by kernel_rfl))
  f317 := Tryz.func181.trans (congrArg some (by kernel_rfl))
  f318 := Tryz.func183.trans (congrArg some (by kernel_rfl))
  f319 := Tryz.func184.trans (congrArg some (by kernel_rfl))
  f320 := Tryz.func185.trans (congrArg some (by kernel_rfl))
  f337 := Tryz.func202.trans (congrArg some (by kernel_rfl))
  f338 := Tryz.func203.trans (congrArg some (by kernel_rfl))
  t0 := Tryz.underlying0
  a0 := Tryz.isAgg0
  z0 := Tryz.sizeOf0
  v0 := Tryz.zeroValue0
  t2 := Tryz.underlying2
  a2 := Tryz.isAgg2
  z2 := Tryz.sizeOf2
  v2 := Tryz.zeroValue2
  t3 := Tryz.underlying3
  a3 := Tryz.isAgg3
  z3 := Tryz.sizeOf3
  v3 := Tryz.zeroValue3
  t4 := Tryz.underlying4
  a4 := Tryz.isAgg4
  z4 := Tryz.sizeOf4
  v4 := Tryz.zeroValue4
  t5 := Tryz.underlying5
  a5 := Tryz.isAgg5
  z5 := Tryz.sizeOf5
  v5 := Tryz.zeroValue5
  t9 := Tryz.underlying9
  a9 := Tryz.isAgg9
  z9 := Tryz.sizeOf9
  v9 := Tryz.zeroValue9
  t20 := Tryz.underlying20
  a20 := Tryz.isAgg20
  z20 := Tryz.sizeOf20
  v20 := Tryz.zeroValue20
  t37 := Tryz.underlying103
  a37 := Tryz.isAgg103
  z37 := Tryz.sizeOf103
  v37 := Tryz.zeroValue103
  t46 := Tryz.underlying167
  a46 := Tryz.isAgg167
  z46 := Tryz.sizeOf167
  v46 := Tryz.zeroValue167
  t51 := Tryz.underlying214
  a51 := Tryz.isAgg214
  z51 := Tryz.sizeOf214
  v51 := Tryz.zeroValue214
  t53 := Tryz.underlying193
  a53 := Tryz.isAgg193
  z53 := Tryz.sizeOf193
  v53 := Tryz.zeroValue193
  t171 := Tryz.underlying192
  a171 := Tryz.isAgg192
  z171 := Tryz.sizeOf192
  v171 := Tryz.zeroValue192
  t173 := Tryz.underlying196
  a173 := Tryz.isAgg196
  z173 := Tryz.sizeOf196
  v173 := Tryz.zeroValue196
  t212 := Tryz.underlying213
  a212 := Tryz.isAgg213
  z212 := Tryz.sizeOf213
  v212 := Tryz.zeroValue213
  t213 := Tryz.underlying215
  a213 := Tryz.isAgg215
  z213 := Tryz.sizeOf215
  t232 := Tryz.underlying242
  a232 := Tryz.isAgg242
  z232 := Tryz.sizeOf242
  v232 := Tryz.zeroValue242
  t233 := Tryz.underlying243
  a233 := Tryz.isAgg243
  z233 := Tryz.sizeOf243
  v233 := Tryz.zeroValue243
  g17 := by kernel_rfl
  g18 := by kernel_rfl
  g19 := by kernel_rfl
  i0 := by kernel_rfl
  i2 := by kernel_rfl
  i3 := by kernel_rfl
  i4 := by kernel_rfl
  i5 := by kernel_rfl
  i9 := by kernel_rfl
  i20 := by kernel_rfl
  i37 := by kernel_rfl
  i46 := by kernel_rfl
  i51 := by kernel_rfl
  i53 := by kernel_rfl
  i171 := by kernel_rfl
  i173 := by kernel_rfl
  i212 := by kernel_rfl
  i232 := by kernel_rfl
  i233 := by kernel_rfl
  m17 := by kernel_rfl
  m18 := by kernel_rfl
  m19 := by kernel_rfl }
open Go.RowKit Go.Sort Go.Lib in
/-- strconv.FormatInt: "FormatInt returns the string representation of i in the given base": AT BASE 10: i's decimal numeral, for every int64. (LAID: no walk: one application.) -/
theorem Tryz.strconv_FormatInt_10 (n : Int) (h0 : -9223372036854775808 ≤ n) (h1 : n ≤ 9223372036854775807) (w : World) (htab : Lib.TabIs Tryz.prog w "internal/strconv.uint64pow10" .u64 Lib.pow10Tab) :
    Calls Tryz.prog 82 #[.int .i64 n, .int .i64 10] w fun e w' => e = .returned (.string ⟨(Lib.itoa n).toArray⟩) ∧ ∃ k os, w' = grow (w.drewN k) os := Any.strconv_FormatInt_10 Tryz.laysM173 n h0 h1 w htab
def Tryz.laysC174_ren : Go.Shelf.Ren := ⟨fun | 174 => 176 | 247 => 198 | 245 => 199 | 287 => 212 | 279 => 213 | 280 => 214 | 281 => 215 | 282 => 216 | 321 => 223 | 322 => 224 | 316 => 225 | 171 => 227 | 205 => 226 | 243 => 232 | 246 => 115 | 283 => 154 | 284 => 155 | 285 => 156 | 286 => 157 | 129 => 182 | 317 => 181 | 318 => 183 | 319 => 184 | 320 => 185 | 337 => 202 | 338 => 203 | n => n, fun | 9 => 9 | 3 => 3 | 2 => 2 | 75 => 163 | 85 => 204 | 4 => 4 | 167 => 234 | 5 => 5 | 53 => 193 | 175 => 235 | 46 => 167 | 168 => 237 | 37 => 103 | 0 => 0 | 210 => 248 | 21 => 21 | 127 => 130 | 145 => 256 | 143 => 254 | 171 => 192 | 173 => 196 | 212 => 213 | 51 => 214 | 20 => 20 | 213 => 215 | 232 => 242 | 233 => 243 | 80 => 110 | n => n, fun | 15 => 4 | 16 => 5 | 17 => 0 | 18 => 2 | 19 => 3 | n => n⟩
theorem Tryz.laysC174 : Go.Proofs.LaysC.n174 Tryz.prog Tryz.laysC174_ren := {
  mixed := by kernel_rfl
  f129 := Tryz.func182.trans (congrArg some (by kernel_rfl))
  f171 := Tryz.func227.trans (congrArg some (by kernel_rfl))
  f174 := Tryz.func176.trans (congrArg some (by kernel_rfl))
  f205 := Tryz.func226.trans (congrArg some (by kernel_rfl))
  f243 := Tryz.func232.trans (congrArg some (by kernel_rfl))
  f245 := Tryz.func199.trans (congrArg some (by kernel_rfl))
  f246 := Tryz.func115.trans (congrArg some (by kernel_rfl))
  f247 := Tryz.func198.trans (congrArg some (by kernel_rfl))
  f279 := Tryz.func213.trans (congrArg some (by kernel_rfl))
  f280 := Tryz.func214.trans (congrArg some (by kernel_rfl))
  f281 := Tryz.func215.trans (congrArg some (by kernel_rfl))
  f282 := Tryz.func216.trans (congrArg some (by kernel_rfl))
  f283 := Tryz.func154.trans (congrArg some (by kernel_rfl))
  f284 := Tryz.func155.trans (congrArg some (by kernel_rfl))
  f285 := Tryz.func156.trans (congrArg some (by kernel_rfl))
  f286 := Tryz.func157.trans (congrArg some (by kernel_rfl))
  f287 := Tryz.func212.trans (congrArg some (by kernel_rfl))
  f316 := Tryz.func225.trans (congrArg some (by kernel_rfl))
  f317 := Tryz.func181.trans (congrArg some (by kernel_rfl))
  f318 := Tryz.func183.trans (congrArg some (by kernel_rfl))
  f319 := Tryz.func184.trans (congrArg some (by kernel_rfl))
  f320 := Tryz.func185.trans (congrArg some (by kernel_rfl))
  f321 := Tryz.func223.trans (congrArg some (by kernel_rfl))
  f322 := Tryz.func224.trans (congrArg some (by kernel_rfl))
  f337 := Tryz.func202.trans (congrArg some (by kernel_rfl))
  f338 := Tryz.func203.trans (congrArg some (by kernel_rfl))
  t0 := Tryz.underlying0
  a0 := Tryz.isAgg0
  z0 := Tryz.sizeOf0
  v0 := Tryz.zeroValue0
  t2 := Tryz.underlying2
  a2 := Tryz.isAgg2
  z2 := Tryz.sizeOf2
  v2 := Tryz.zeroValue2
  t3 := Tryz.underlying3
  a3 := Tryz.isAgg3
  z3 := Tryz.sizeOf3
  v3 := Tryz.zeroValue3
  t4 := Tryz.underlying4
  a4 := Tryz.isAgg4
  z4 := Tryz.sizeOf4
  v4 := Tryz.zeroValue4
  t5 := Tryz.underlying5
  a5 := Tryz.isAgg5
  z5 := Tryz.sizeOf5
  v5 := Tryz.zeroValue5
  t9 := Tryz.underlying9
  a9 := Tryz.isAgg9
  z9 := Tryz.sizeOf9
  v9 := Tryz.zeroValue9
  t20 := Tryz.underlying20
  a20 := Tryz.isAgg20
  z20 := Tryz.sizeOf20
  v20 := Tryz.zeroValue20
  t21 := Tryz.underlying21
  a21 := Tryz.isAgg21
  z21 := Tryz.sizeOf21
  v21 := Tryz.zeroValue21
  t37 := Tryz.underlying103
  a37 := Tryz.isAgg103
  z37 := Tryz.sizeOf103
  v37 := Tryz.zeroValue103
  t46 := Tryz.underlying167
  a46 := Tryz.isAgg167
  z46 := Tryz.sizeOf167
  v46 := Tryz.zeroValue167
  t51 := Tryz.underlying214
  a51 := Tryz.isAgg214
  z51 := Tryz.sizeOf214
  v51 := Tryz.zeroValue214
  t53 := Tryz.underlying193
  a53 := Tryz.isAgg193
  z53 := Tryz.sizeOf193
  v53 := Tryz.zeroValue193
  t75 := Tryz.underlying163
  a75 := Tryz.isAgg163
  z75 := Tryz.sizeOf163
  v75 := Tryz.zeroValue163
  t85 := Tryz.underlying204
  a85 := Tryz.isAgg204
  z85 := Tryz.sizeOf204
  v85 := Tryz.zeroValue204
  t127 := Tryz.underlying130
  a127 := Tryz.isAgg130
  z127 := Tryz.sizeOf130
  v127 := Tryz.zeroValue130
  t143 := Tryz.underlying254
  a143 := Tryz.isAgg254
  z143 := Tryz.sizeOf254
  v143 := Tryz.zeroValue254
  t145 := Tryz.underlying256
  a145 := Tryz.isAgg256
  z145 := Tryz.sizeOf256
  v145 := Tryz.zeroValue256
  t167 := Tryz.underlying234
  a167 := Tryz.isAgg234
  z167 := Tryz.sizeOf234
  v167 := Tryz.zeroValue234
  t168 := Tryz.underlying237
  a168 := Tryz.isAgg237
  z168 := Tryz.sizeOf237
  v168 := Tryz.zeroValue237
  t171 := Tryz.underlying192
  a171 := Tryz.isAgg192
  z171 := Tryz.sizeOf192
  v171 := Tryz.zeroValue192
  t173 := Tryz.underlying196
  a173 := Tryz.isAgg196
  z173 := Tryz.sizeOf196
  v173 := Tryz.zeroValue196
  t175 := Tryz.underlying235
  a175 := Tryz.isAgg235
  z175 := Tryz.sizeOf235
  v175 := Tryz.zeroValue235
  t210 := Tryz.underlying248
  a210 := Tryz.isAgg248
  z210 := Tryz.sizeOf248
  v210 := Tryz.zeroValue248
  t212 := Tryz.underlying213
  a212 := Tryz.isAgg213
  z212 := Tryz.sizeOf213
  v212 := Tryz.zeroValue213
  t213 := Tryz.underlying215
  a213 := Tryz.isAgg215
  z213 := Tryz.sizeOf215
  t232 := Tryz.underlying242
  a232 := Tryz.isAgg242
  z232 := Tryz.sizeOf242
  v232 := Tryz.zeroValue242
  t233 := Tryz.underlying243
  a233 := Tryz.isAgg243
  z233 := Tryz.sizeOf243
  v233 := Tryz.zeroValue243
  g15 := by kernel_rfl
  g16 := by kernel_rfl
  g17 := by kernel_rfl
  g18 := by kernel_rfl
  g19 := by kernel_rfl
  t80 := Tryz.underlying110
  a80 := Tryz.isAgg110
  z80 := Tryz.sizeOf110
  v80 := Tryz.zeroValue110
  i0 := by kernel_rfl
  i2 := by kernel_rfl
  i3 := by kernel_rfl
  i4 := by kernel_rfl
  i5 := by kernel_rfl
  i9 := by kernel_rfl
  i20 := by kernel_rfl
  i21 := by kernel_rfl
  i37 := by kernel_rfl
  i46 := by kernel_rfl
  i51 := by kernel_rfl
  i53 := by kernel_rfl
  i75 := by kernel_rfl
  i80 := by kernel_rfl
  i85 := by kernel_rfl
  i127 := by kernel_rfl
  i143 := by kernel_rfl
  i145 := by kernel_rfl
  i167 := by kernel_rfl
  i168 := by kernel_rfl
  i171 := by kernel_rfl
  i173 := by kernel_rfl
  i175 := by kernel_rfl
  i210 := by kernel_rfl
  i212 := by kernel_rfl
  i232 := by kernel_rfl
  i233 := by kernel_rfl
  m15 := by kernel_rfl
  m16 := by kernel_rfl
  m17 := by kernel_rfl
  m18 := by kernel_rfl
  m19 := by kernel_rfl
  c0 := by kernel_rfl
  c2 := by kernel_rfl
  c3 := by kernel_rfl
  c4 := by kernel_rfl
  c5 := by kernel_rfl
  c9 := by kernel_rfl
  c20 := by kernel_rfl
  c21 := by kernel_rfl
  c37 := by kernel_rfl
  c46 := by kernel_rfl
  c51 := by kernel_rfl
  c53 := by kernel_rfl
  c75 := by kernel_rfl
  c80 := by kernel_rfl
  c85 := by kernel_rfl
  c127 := by kernel_rfl
  c143 := by kernel_rfl
  c145 := by kernel_rfl
  c167 := by kernel_rfl
  c168 := by kernel_rfl
  c171 := by kernel_rfl
  c173 := by kernel_rfl
  c175 := by kernel_rfl
  c210 := by kernel_rfl
  c212 := by kernel_rfl
  c213 := by kernel_rfl
  c232 := by kernel_rfl
  c233 := by kernel_rfl }
open Go.RowKit in
/-- strconv.ParseInt(s, 10, 0), AT EVERY STRING THAT SPELLS AN int64 ('Lib.parseIntB 64 s.data.toList = .ok v'): v, AND NO ERROR. (LAID: no walk: one application.) -/
theorem Tryz.strconv_ParseInt_10_at0_ok (s : ByteArray) (hmax : s.size ≤ 9223372036854775806) (v : Int) (h : Lib.parseIntB 64 s.data.toList = .ok v) (w : World) :
    Calls Tryz.prog 176 #[.string s, .int .i64 10, .int .i64 0] w fun e w' => e = .returned (.tuple #[.int .i64 v, .nilIface]) ∧ (w' = w ∨ ∃ t, w' = Lib.bytesWorld w 5 t) := Any.strconv_ParseInt_10_at0_ok Tryz.laysC174 s hmax v h w
open Go.RowKit in
/-- strconv.ParseInt(s, 10, 0), AT EVERY NUMERAL THAT NO int64 HOLDS: THE GREATEST OR THE LEAST int64, BY THE SIGN ('Lib.intSat 64'), AND AN ERROR THAT IS NOT nil: a *NumError in a new block N: {Func: "ParseInt", Num: s's bytes, Err: what the variable ErrRange holds}. Of what was there nothing has turned. (LAID: no walk: one application.) -/
theorem Tryz.strconv_ParseInt_10_at0_range (s : ByteArray) (hlim : s.size ≤ 281474976710656) (h : Lib.parseIntB 64 s.data.toList = .range) (ev : Value) (w : World) (hv : w.cell? ⟨5, 0, none⟩ = some ev) (hev : ev = .nilIface ∨ ∃ te pe, ev = .iface te pe) :
    Calls Tryz.prog 176 #[.string s, .int .i64 10, .int .i64 0] w fun e w' => ∃ N, e = .returned (.tuple #[.int .i64 (Lib.intSat 64 s.data.toList), .iface 237 (.pointer (some ⟨N, 0, none⟩))]) ∧ w.heap.size ≤ N ∧ w'.heap[N]? = some (.cells #[.string ⟨#[80, 97, 114, 115, 101, 73, 110, 116]⟩, .string s, ev] 248 (0, 0)) ∧ Below w.heap.size w w' := Any.strconv_ParseInt_10_at0_range Tryz.laysC174 s hlim h ev w hv hev
open Go.RowKit in
/-- strconv.ParseInt(s, 10, 64), AT EVERY STRING THAT SPELLS AN int64 ('Lib.parseIntB 64 s.data.toList = .ok v'): v, AND NO ERROR. (LAID: no walk: one application.) -/
theorem Tryz.strconv_ParseInt_10_at64_ok (s : ByteArray) (hmax : s.size ≤ 9223372036854775806) (v : Int) (h : Lib.parseIntB 64 s.data.toList = .ok v) (w : World) :
    Calls Tryz.prog 176 #[.string s, .int .i64 10, .int .i64 64] w fun e w' => e = .returned (.tuple #[.int .i64 v, .nilIface]) ∧ (w' = w ∨ ∃ t, w' = Lib.bytesWorld w 5 t) := Any.strconv_ParseInt_10_at64_ok Tryz.laysC174 s hmax v h w
open Go.RowKit in
/-- strconv.ParseInt(s, 10, 64), AT EVERY NUMERAL THAT NO int64 HOLDS: THE GREATEST OR THE LEAST int64, BY THE SIGN ('Lib.intSat 64'), AND AN ERROR THAT IS NOT nil: a *NumError in a new block N: {Func: "ParseInt", Num: s's bytes, Err: what the variable ErrRange holds}. Of what was there nothing has turned. (LAID: no walk: one application.) -/
theorem Tryz.strconv_ParseInt_10_at64_range (s : ByteArray) (hlim : s.size ≤ 281474976710656) (h : Lib.parseIntB 64 s.data.toList = .range) (ev : Value) (w : World) (hv : w.cell? ⟨5, 0, none⟩ = some ev) (hev : ev = .nilIface ∨ ∃ te pe, ev = .iface te pe) :
    Calls Tryz.prog 176 #[.string s, .int .i64 10, .int .i64 64] w fun e w' => ∃ N, e = .returned (.tuple #[.int .i64 (Lib.intSat 64 s.data.toList), .iface 237 (.pointer (some ⟨N, 0, none⟩))]) ∧ w.heap.size ≤ N ∧ w'.heap[N]? = some (.cells #[.string ⟨#[80, 97, 114, 115, 101, 73, 110, 116]⟩, .string s, ev] 248 (0, 0)) ∧ Below w.heap.size w w' := Any.strconv_ParseInt_10_at64_range Tryz.laysC174 s hlim h ev w hv hev
open Go.RowKit in
/-- strconv.ParseInt(s, 10, 32), AT EVERY STRING THAT SPELLS AN int32 ('Lib.parseIntB 32 s.data.toList = .ok v'): v, AND NO ERROR. (LAID: no walk: one application.) -/
theorem Tryz.strconv_ParseInt_10_at32_ok (s : ByteArray) (hmax : s.size ≤ 9223372036854775806) (v : Int) (h : Lib.parseIntB 32 s.data.toList = .ok v) (w : World) :
    Calls Tryz.prog 176 #[.string s, .int .i64 10, .int .i64 32] w fun e w' => e = .returned (.tuple #[.int .i64 v, .nilIface]) ∧ (w' = w ∨ ∃ t, w' = Lib.bytesWorld w 5 t) := Any.strconv_ParseInt_10_at32_ok Tryz.laysC174 s hmax v h w
open Go.RowKit in
/-- strconv.ParseInt(s, 10, 32), AT EVERY NUMERAL THAT NO int32 HOLDS: THE GREATEST OR THE LEAST int32, BY THE SIGN ('Lib.intSat 32'), AND AN ERROR THAT IS NOT nil: a *NumError in a new block N: {Func: "ParseInt", Num: s's bytes, Err: what the variable ErrRange holds}. Of what was there nothing has turned. (LAID: no walk: one application.) -/
theorem Tryz.strconv_ParseInt_10_at32_range (s : ByteArray) (hlim : s.size ≤ 281474976710656) (h : Lib.parseIntB 32 s.data.toList = .range) (ev : Value) (w : World) (hv : w.cell? ⟨5, 0, none⟩ = some ev) (hev : ev = .nilIface ∨ ∃ te pe, ev = .iface te pe) :
    Calls Tryz.prog 176 #[.string s, .int .i64 10, .int .i64 32] w fun e w' => ∃ N, e = .returned (.tuple #[.int .i64 (Lib.intSat 32 s.data.toList), .iface 237 (.pointer (some ⟨N, 0, none⟩))]) ∧ w.heap.size ≤ N ∧ w'.heap[N]? = some (.cells #[.string ⟨#[80, 97, 114, 115, 101, 73, 110, 116]⟩, .string s, ev] 248 (0, 0)) ∧ Below w.heap.size w w' := Any.strconv_ParseInt_10_at32_range Tryz.laysC174 s hlim h ev w hv hev
open Go.RowKit in
/-- strconv.ParseInt(s, 10, 16), AT EVERY STRING THAT SPELLS AN int16 ('Lib.parseIntB 16 s.data.toList = .ok v'): v, AND NO ERROR. (LAID: no walk: one application.) -/
theorem Tryz.strconv_ParseInt_10_at16_ok (s : ByteArray) (hmax : s.size ≤ 9223372036854775806) (v : Int) (h : Lib.parseIntB 16 s.data.toList = .ok v) (w : World) :
    Calls Tryz.prog 176 #[.string s, .int .i64 10, .int .i64 16] w fun e w' => e = .returned (.tuple #[.int .i64 v, .nilIface]) ∧ (w' = w ∨ ∃ t, w' = Lib.bytesWorld w 5 t) := Any.strconv_ParseInt_10_at16_ok Tryz.laysC174 s hmax v h w
open Go.RowKit in
/-- strconv.ParseInt(s, 10, 16), AT EVERY NUMERAL THAT NO int16 HOLDS: THE GREATEST OR THE LEAST int16, BY THE SIGN ('Lib.intSat 16'), AND AN ERROR THAT IS NOT nil: a *NumError in a new block N: {Func: "ParseInt", Num: s's bytes, Err: what the variable ErrRange holds}. Of what was there nothing has turned. (LAID: no walk: one application.) -/
theorem Tryz.strconv_ParseInt_10_at16_range (s : ByteArray) (hlim : s.size ≤ 281474976710656) (h : Lib.parseIntB 16 s.data.toList = .range) (ev : Value) (w : World) (hv : w.cell? ⟨5, 0, none⟩ = some ev) (hev : ev = .nilIface ∨ ∃ te pe, ev = .iface te pe) :
    Calls Tryz.prog 176 #[.string s, .int .i64 10, .int .i64 16] w fun e w' => ∃ N, e = .returned (.tuple #[.int .i64 (Lib.intSat 16 s.data.toList), .iface 237 (.pointer (some ⟨N, 0, none⟩))]) ∧ w.heap.size ≤ N ∧ w'.heap[N]? = some (.cells #[.string ⟨#[80, 97, 114, 115, 101, 73, 110, 116]⟩, .string s, ev] 248 (0, 0)) ∧ Below w.heap.size w w' := Any.strconv_ParseInt_10_at16_range Tryz.laysC174 s hlim h ev w hv hev
open Go.RowKit in
/-- strconv.ParseInt(s, 10, 8), AT EVERY STRING THAT SPELLS AN int8 ('Lib.parseIntB 8 s.data.toList = .ok v'): v, AND NO ERROR. (LAID: no walk: one application.) -/
theorem Tryz.strconv_ParseInt_10_at8_ok (s : ByteArray) (hmax : s.size ≤ 9223372036854775806) (v : Int) (h : Lib.parseIntB 8 s.data.toList = .ok v) (w : World) :
    Calls Tryz.prog 176 #[.string s, .int .i64 10, .int .i64 8] w fun e w' => e = .returned (.tuple #[.int .i64 v, .nilIface]) ∧ (w' = w ∨ ∃ t, w' = Lib.bytesWorld w 5 t) := Any.strconv_ParseInt_10_at8_ok Tryz.laysC174 s hmax v h w
open Go.RowKit in
/-- strconv.ParseInt(s, 10, 8), AT EVERY NUMERAL THAT NO int8 HOLDS: THE GREATEST OR THE LEAST int8, BY THE SIGN ('Lib.intSat 8'), AND AN ERROR THAT IS NOT nil: a *NumError in a new block N: {Func: "ParseInt", Num: s's bytes, Err: what the variable ErrRange holds}. Of what was there nothing has turned. (LAID: no walk: one application.) -/
theorem Tryz.strconv_ParseInt_10_at8_range (s : ByteArray) (hlim : s.size ≤ 281474976710656) (h : Lib.parseIntB 8 s.data.toList = .range) (ev : Value) (w : World) (hv : w.cell? ⟨5, 0, none⟩ = some ev) (hev : ev = .nilIface ∨ ∃ te pe, ev = .iface te pe) :
    Calls Tryz.prog 176 #[.string s, .int .i64 10, .int .i64 8] w fun e w' => ∃ N, e = .returned (.tuple #[.int .i64 (Lib.intSat 8 s.data.toList), .iface 237 (.pointer (some ⟨N, 0, none⟩))]) ∧ w.heap.size ≤ N ∧ w'.heap[N]? = some (.cells #[.string ⟨#[80, 97, 114, 115, 101, 73, 110, 116]⟩, .string s, ev] 248 (0, 0)) ∧ Below w.heap.size w w' := Any.strconv_ParseInt_10_at8_range Tryz.laysC174 s hlim h ev w hv hev
end Go.Proofs
/-! ## LibWhole -/
namespace Go.Proofs.YtaddhpeainliiaaGreatDoor.P
open Go.RowKit
set_option linter.unusedVariables false
set_option linter.unusedSimpArgs false
/-- a fact put aside, so that a walk does not look into it -/
structure Put (p : Prop) : Prop where mk :: (out : p)
def bt (s : ByteArray) (i : Int) : Int := if h : i.toNat < s.size then ((s[i.toNat]'h).toNat : Int) else 0
theorem bt_at (s : ByteArray) (i : Int) (h : i.toNat < s.size) : ((s[i.toNat]'h).toNat : Int) = bt s i := by unfold bt; rw [dif_pos h]
theorem below_drewN (w : World) (k : Nat) : Below w.heap.size w (w.drewN k) := ⟨rfl, rfl, rfl, Nat.le_refl _, fun _ _ => rfl⟩
def isDigit (c : Int) : Bool := decide (48 ≤ c) && decide (c ≤ 57)
/-- of a text that begins with a digit: the number, and whether it is one that may be -/
def lex_whole.f (a0 : ByteArray) : Option (Int × Bool) :=
  match a0.data.toList with
  | [] => none
  | c :: _ => if isDigit (c.toNat : Int) = true ∧ a0.size ≤ 1099511627776 then
      match Lib.parseIntB 64 a0.data.toList with
      | .ok v => some (v, decide (Lib.itoa v = a0.data.toList))
      | .range => some (9223372036854775807, false)
      | _ => none
    else none


theorem digit_calls' (c : Int) (w : World) : Calls Tryz.prog 140 #[.int .u8 c] w fun e w' => e = .returned (.bool (isDigit c)) ∧ w' = w := by
  unfold isDigit
  by_cases h : 48 ≤ c <;> by_cases h' : c ≤ 57
  all_goals
    first | have h1 : decide (48 ≤ c) = true := decide_eq_true h | have h1 : decide (48 ≤ c) = false := decide_eq_false h
    first | have h2 : decide (c ≤ 57) = true := decide_eq_true h' | have h2 : decide (c ≤ 57) = false := decide_eq_false h'
    rw [h1, h2]
    clear h h'
    go_enter Tryz.func140, Tryz.ntmps140
    go_wp2
    go_ret
    exact ⟨by first | rfl | simp, rfl⟩
theorem parse_ok (s : ByteArray) (v : Int) (hs : s.size ≤ 1099511627776) (h : Lib.parseIntB 64 s.data.toList = .ok v) (w : World) :
    Calls Tryz.prog 176 #[.string s, .int .i64 10, .int .i64 64] w fun e w' => e = .returned (.tuple #[.int .i64 v, .nilIface]) ∧ Below w.heap.size w w' :=
  (Tryz.strconv_ParseInt_10_at64_ok s (by omega) v h w).mono fun e w' ⟨he, hw⟩ => ⟨he, by
    rcases hw with rfl | ⟨t, rfl⟩
    · exact Below.refl _ _
    · exact ⟨rfl, rfl, rfl, by rw [Lib.bytesWorld_size]; omega, fun j hj => Lib.bytesWorld_at_old w _ t j hj⟩⟩
theorem parse_range (s : ByteArray) (hs : s.size ≤ 1099511627776) (h : Lib.parseIntB 64 s.data.toList = .range) (c : UInt8) (r : List UInt8) (hl : s.data.toList = c :: r) (hd : isDigit (c.toNat : Int) = true) (w : World) (hI : Inv w) :
    Calls Tryz.prog 176 #[.string s, .int .i64 10, .int .i64 64] w fun e w' => (∃ t p, e = .returned (.tuple #[.int .i64 9223372036854775807, .iface t (.pointer (some p))])) ∧ Below w.heap.size w w' := by
  obtain ⟨ev, h1, h2⟩ := hI.rng
  have e1 : Lib.intSat 64 s.data.toList = 9223372036854775807 := by
    rw [hl]
    unfold Lib.intSat
    rw [if_neg]
    · rfl
    · simp only [List.head?_cons, Option.map_some, Option.some.injEq]
      intro hc
      unfold isDigit at hd
      simp only [Bool.and_eq_true, decide_eq_true_eq] at hd
      omega
  refine (Tryz.strconv_ParseInt_10_at64_range s (by omega) h ev w h1 h2).mono fun e w' ⟨N, he, _, _, hb⟩ => ?_
  rw [e1] at he
  exact ⟨⟨_, _, he⟩, hb⟩
theorem format_ok (v : Int) (h0 : -9223372036854775808 ≤ v) (h1 : v ≤ 9223372036854775807) (w : World) (hI : Inv w) :
    Calls Tryz.prog 82 #[.int .i64 v, .int .i64 10] w fun e w' => e = .returned (.string ⟨(Lib.itoa v).toArray⟩) ∧ Below w.heap.size w w' :=
  (Tryz.strconv_FormatInt_10 v h0 h1 w hI.pow).mono fun e w' ⟨he, k, os, hw⟩ => ⟨he, by
    rw [hw]
    have h2 : Below w.heap.size w (w.drewN k) := below_drewN w k
    refine h2.trans ?_
    exact ⟨rfl, rfl, rfl, by show (w.drewN k).heap.size ≤ ((w.drewN k).heap ++ os).size; rw [Array.size_append]; omega, fun j hj => by show ((w.drewN k).heap ++ os)[j]? = _; exact Array.getElem?_append_left hj⟩⟩
theorem parseIntB_range {l : List UInt8} {v : Int} (h : Lib.parseIntB 64 l = .ok v) : -9223372036854775808 ≤ v ∧ v ≤ 9223372036854775807 := by
  unfold Lib.parseIntB at h
  cases l with
  | nil => cases h
  | cons c r =>
    simp only at h
    split at h
    · cases h
    · cases h
    · rename_i u hu
      repeat' split at h
      all_goals first | (cases h; omega) | (simp at h; omega) | cases h
set_option maxHeartbeats 4000000 in
set_option maxRecDepth 100000 in
theorem lex_whole.calls (a0 : ByteArray) (r1 : Int) (r2 : Bool) (w : World) (h : lex_whole.f a0 = some (r1, r2)) (hI : Inv w) :
    Calls Tryz.prog 142 #[.string a0] w fun e w' => e = .returned (.tuple #[.int .i64 r1, .bool r2]) ∧ Below w.heap.size w w' := by
  unfold lex_whole.f at h
  cases hl : a0.data.toList with
  | nil => rw [hl] at h; cases h
  | cons c r =>
    rw [hl] at h
    dsimp only at h
    split at h
    · rename_i hc
      obtain ⟨hd, hs⟩ := hc
      have HI := Put.mk hI
      clear hI
      have HB := Put.mk (Below.refl w.heap.size w)
      cases hp : Lib.parseIntB 64 (c :: r) with
      | range =>
        rw [hp] at h
        cases h
        have HP := Lib.hid (parse_range a0 hs (by rw [hl]; exact hp) c r hl hd)
        clear hl hp hd hs
        go_enter Tryz.func142, Tryz.ntmps142
        go_wp2_with (go_at_call 176; refine (HP.out _ HI.out).mono ?_; rintro e w' ⟨⟨t, p, rfl⟩, hb⟩; have HB2 := Put.mk hb; clear hb)
        go_ret2
        exact ⟨rfl, HB2.out⟩
      | ok v =>
        rw [hp] at h
        dsimp only at h
        obtain ⟨hv0, hv1⟩ := parseIntB_range hp
        have HP := Lib.hid (parse_ok a0 v hs (by rw [hl]; exact hp))
        have h0 : 0 < a0.size := by
          have : a0.data.toList.length = a0.size := by obtain ⟨⟨l⟩⟩ := a0; rfl
          rw [hl] at this; simp at this; omega
        have hb0 : bt a0 0 = (c.toNat : Int) := by
          obtain ⟨⟨l⟩⟩ := a0
          simp only at hl
          subst hl
          unfold bt
          rw [dif_pos (show Int.toNat 0 < (⟨⟨c :: r⟩⟩ : ByteArray).size from h0)]; rfl
        have HD := Lib.hid (show isDigit (bt a0 0) = true by rw [hb0]; exact hd)
        have HF := Lib.hid (format_ok v hv0 hv1)
        have hx3 : ∀ h : 0 < a0.size, ((a0[0]'h).toNat : Int) = bt a0 0 := bt_at a0 0
        have qi3 : (0 < (a0.size : Int)) = True := eq_true (by omega)
        replace h0 := eq_true h0
        obtain ⟨h, hr2⟩ : r1 = v ∧ r2 = decide (Lib.itoa v = c :: r) := by
          injection h with h; injection h with h h'; exact ⟨h.symm, h'.symm⟩
        subst h
        by_cases he : Lib.itoa r1 = c :: r
        · have e1 : (Lib.itoa r1 == a0.toList) = true := by
            rw [beq_iff_eq, ByteArray.toList_eq, hl]; exact he
          rw [decide_eq_true he] at hr2
          subst hr2
          clear hl hp hd hs hb0 he hv0 hv1
          go_enter Tryz.func142, Tryz.ntmps142
          go_wp2_with (first
            | (go_at_call 176; refine (HP.out _).mono ?_; rintro e w' ⟨rfl, hb⟩; have HB2 := Put.mk hb; clear hb)
            | (go_at_call 82; refine (HF.out _ (Inv.below HI.out HB2.out)).mono ?_; rintro e w2 ⟨rfl, hb⟩; have HB3 := Put.mk (HB2.out.trans (hb.mono HB2.out.size)); clear hb)
            | (go_at_call 140; refine (digit_calls' _ _).mono ?_; rintro e w' ⟨rfl, rfl⟩; rw [HD.out]))
          go_ret2
          exact ⟨rfl, HB3.out⟩
        · have e1 : (Lib.itoa r1 == a0.toList) = false := by
            rw [beq_eq_false_iff_ne, ByteArray.toList_eq, hl]
            exact he
          rw [decide_eq_false he] at hr2
          subst hr2
          clear hl hp hd hs hb0 he hv0 hv1
          go_enter Tryz.func142, Tryz.ntmps142
          go_wp2_with (first
            | (go_at_call 176; refine (HP.out _).mono ?_; rintro e w' ⟨rfl, hb⟩; have HB2 := Put.mk hb; clear hb)
            | (go_at_call 82; refine (HF.out _ (Inv.below HI.out HB2.out)).mono ?_; rintro e w2 ⟨rfl, hb⟩; have HB3 := Put.mk (HB2.out.trans (hb.mono HB2.out.size)); clear hb)
            | (go_at_call 140; refine (digit_calls' _ _).mono ?_; rintro e w' ⟨rfl, rfl⟩; rw [HD.out]))
          go_ret2
          exact ⟨rfl, HB3.out⟩
      | _ => rw [hp] at h; cases h
    · cases h


def stringslite_IndexByte.f (a0 : ByteArray) (a1 : Int) : Option (Int) := some (Lib.indexByte a0.data.toList a1.toNat.toUInt8)


set_option maxHeartbeats 1000000 in
set_option maxRecDepth 100000 in
theorem stringslite_IndexByte.calls (a0 : ByteArray) (a1 : Int) (r : Int) (w : World) (h : stringslite_IndexByte.f a0 a1 = some r) :
    Calls Tryz.prog 174 #[.string a0, .int .u8 a1] w fun e w' => e = .returned (.int .i64 r) ∧ w' = w := by
  obtain rfl := Option.some.inj h
  go_enter Tryz.func174, Tryz.ntmps174
  go_wp2
  rw [run_callFunc_extern Tryz.func197 (by kernel_rfl) (by kernel_rfl) (by kernel_rfl) (e := Extern.BytealgIndexByte.indexByte) (by kernel_rfl), Lib.run_indexByteString]
  simp only [Result.andThen]
  rw [Oper.upon_value]
  go_wp2
  go_ret
  exact ⟨rfl, rfl⟩


end Go.Proofs.YtaddhpeainliiaaGreatDoor.P
/-! ## LibOk -/
namespace Go.Proofs.YtaddhpeainliiaaGreatDoor.Id
open Go
set_option linter.unusedVariables false
set_option linter.unusedSimpArgs false
section
variable {I : World → Prop} {B0 : Nat} {M : Nat → Prop} {x : Aux} {w w' : World}
theorem WSim.below (S : WSim I B0 M x [] w) (hI : Stable I B0) (hb : Go.RowKit.Below w.heap.size w w') : WSim I B0 M x [] w' :=
  { inv := hI w w' (fun k hk => by
      rcases Nat.lt_or_ge k w.heap.size with h | h
      · exact hb.block k h
      · have := S.big k (S.top k h); omega) hb.size S.inv
    big := S.big
    top := fun k hk => S.top k (by have := hb.size; omega)
    agree := fun k o v h => by
      have h1 := S.agree k o v h
      rw [cell_of_block (w := w) (hb.block k (cell_lt h1))]; exact h1
    box := fun i cs h => by cases h
    inj := fun i j cs ds h => by cases h
    zone := fun t k s e h => by
      obtain ⟨h1, h2, h3, ws, ty, h4, h5⟩ := S.zone t k s e h
      exact ⟨h1, h2, h3, ws, ty, by rw [hb.block k (heap_lt h4)]; exact h4, h5⟩
    zinj := S.zinj
    zbox := fun t k s e i cs h1 h2 => by cases h2
    uu := fun k h => (let ⟨ws, f, h1⟩ := S.uu k h; ⟨ws, f, by rw [hb.block k (heap_lt h1)]; exact h1⟩)
    kt := fun i cs h => by cases h }
theorem Ext.below (S : WSim I B0 M x [] w) (hb : Go.RowKit.Below w.heap.size w w') : Ext M x w x w' :=
  ⟨hb.os, hb.tape, hb.output, hb.size, fun k hk => hb.block k (by
    rcases Nat.lt_or_ge k w.heap.size with h | h
    · exact h
    · exact absurd (S.top k h) hk), fun _ _ _ h => h, fun _ _ => rfl, fun _ _ => rfl, fun _ h => h⟩
end
theorem inv_stable {W : World} (hW : P.Inv W) : Stable P.Inv W.heap.size := fun w w' hk hs hw => by
  have hp : 0 < W.heap.size := by
    have h1 := hW.pow
    unfold Lib.TabIs World.var? at h1
    rw [P.gPow] at h1
    simp only [Option.bind_some] at h1
    rcases Nat.lt_or_ge 0 W.heap.size with h2 | h2
    · exact h2
    · rw [Array.getElem?_eq_none h2] at h1; cases h1
  have hr : 5 < W.heap.size := by
    obtain ⟨ev, h1, _⟩ := hW.rng
    exact World.block_lt_of_cell? W _ h1
  constructor
  · have h1 := hw.pow
    unfold Lib.TabIs World.var? at h1 ⊢
    rw [P.gPow] at h1 ⊢
    simp only [Option.bind_some] at h1 ⊢
    rw [hk _ hp]; exact h1
  · obtain ⟨ev, h1, h2⟩ := hw.rng
    exact ⟨ev, by rw [cell_of_block (w := w) (hk _ hr)]; exact h1, h2⟩
/-- what is given -/
def X0 : Given := fun f args bx o =>
  (f = 142 ∧ ∃ (s : ByteArray) (c : UInt8) (r : List UInt8), L s = c :: r ∧ (48 ≤ c.toNat ∧ c.toNat ≤ 57) ∧ s.size ≤ 1099511627776 ∧ Lib.parseIntB 64 (L s) ≠ Lib.NumEnd.syntax ∧ args = [vS s] ∧ bx = [] ∧ o = .ret (wholeV (L s)) []) ∨
  (f = 174 ∧ ∃ (s : ByteArray) (c : UInt8), args = [vS s, vC c] ∧ bx = [] ∧ o = .ret (vI (Lib.indexByte s.data.toList c)) [])
theorem x0_lib : LibX X0 := ⟨fun s c r h1 h2 h3 h4 => .inl ⟨rfl, s, c, r, h1, h2, h3, h4, rfl, rfl, rfl⟩, fun s c => .inr ⟨rfl, s, c, rfl, rfl, rfl⟩⟩
theorem rep_str {x : Aux} {s : ByteArray} {v : Value} (h : RepV x (vS s) v) : v = .string s := by
  have : RepD x.h v (.str s) := h
  cases this; rfl
theorem x0_ok {B0 : Nat} (hI : Stable P.Inv B0) : GivenOK Tryz.prog X0 P.Inv B0 := by
  rintro f args bx o (⟨rfl, s, c, r, h1, h2, h3, h4, rfl, rfl, rfl⟩ | ⟨rfl, s, c, rfl, rfl, rfl⟩)
  · refine ⟨⟨_, Tryz.func142, by kernel_rfl, rfl⟩, fun M x w vs hv S => ?_⟩
    obtain ⟨v, l, hl, hv, rfl⟩ := hv
    obtain rfl := rep_str hv
    obtain rfl : vs = #[.string s] := by cases vs; simp_all
    have key : ∃ r1 r2, P.lex_whole.f s = some (r1, r2) ∧ wholeV (L s) = .tuple [vI r1, vB r2] := by
      unfold P.lex_whole.f wholeV
      have h1' : s.data.toList = c :: r := h1
      rw [h1', h1]
      rw [h1] at h4
      simp only
      rw [if_pos ⟨by unfold P.isDigit; simp; omega, h3⟩]
      cases hp : Lib.parseIntB 64 (c :: r) with
      | ok v => exact ⟨_, _, rfl, rfl⟩
      | range => exact ⟨_, _, rfl, rfl⟩
      | _ => exact absurd hp h4
    obtain ⟨r1, r2, hf, hwv⟩ := key
    refine (P.lex_whole.calls s r1 r2 w hf S.inv).mono fun e w' ⟨he, hb⟩ => ?_
    refine ⟨x, Ext.below S hb, _, he, ?_, S.below hI hb⟩
    rw [hwv]
    exact ⟨#[.int .i64 r1, .bool r2], rfl, _, _, rfl, RepD.int _ _, _, _, rfl, RepD.bool _, rfl⟩
  · refine ⟨⟨_, Tryz.func174, by kernel_rfl, rfl⟩, fun M x w vs hv S => ?_⟩
    obtain ⟨v, l, hl, hv, v2, l2, rfl, hv2, rfl⟩ := hv
    obtain rfl := rep_str hv
    have e2 : v2 = .int .u8 (c.toNat : Int) := by
      have : RepD x.h v2 (.int .u8 (c.toNat : Int)) := hv2
      cases this; rfl
    subst e2
    obtain rfl : vs = #[.string s, .int .u8 (c.toNat : Int)] := by cases vs; simp_all
    refine (P.stringslite_IndexByte.calls s c.toNat (Lib.indexByte s.data.toList c) w (by unfold P.stringslite_IndexByte.f; simp)).mono fun e w' ⟨he, hb⟩ => ?_
    refine ⟨x, Ext.below S (hb ▸ Go.RowKit.Below.refl _ _), _, he, ?_, S.below hI (hb ▸ Go.RowKit.Below.refl _ _)⟩
    exact RepD.int _ _
theorem wf_i64 {a : Int} (h : (Lit.int .i64 a).wf = true) : -9223372036854775808 ≤ a ∧ a ≤ 9223372036854775807 := by
  simp only [Lit.wf, Bool.and_eq_true, decide_eq_true_eq] at h; exact h
theorem wf_u8 {a : Int} (h : (Lit.int .u8 a).wf = true) : 0 ≤ a ∧ a ≤ 255 := by
  simp only [Lit.wf, Bool.and_eq_true, decide_eq_true_eq] at h; exact h
theorem wf_u16 {a : Int} (h : (Lit.int .u16 a).wf = true) : 0 ≤ a ∧ a ≤ 65535 := by
  simp only [Lit.wf, Bool.and_eq_true, decide_eq_true_eq] at h; exact h
/-- a law that comes to true, as a row asks it -/
theorem row_does {w : World} (hI : P.Inv w) {f : FuncId} {args : List V} {vs : Array Value} (hargs : RepVs (seen w) args vs.toList) (h : Does (OrX X0) f args [] (.ret (vB true) [])) :
    Calls Tryz.prog f vs w fun e w' => e = .returned (.bool true) ∧ Go.RowKit.Below w.heap.size w w' := by
  have hS := inv_stable hI
  have hX := orX_ok mixed hS (x0_ok hS)
  obtain ⟨n, hn⟩ := h Out (fun o => .leaf o) (.ret (vB true) []) (Den.leaf _)
  obtain ⟨o, _, hC, hl⟩ := den_call hX (below_all mixed tt_ok hS hX n) hn
  obtain rfl : o = .ret (vB true) [] := by cases hl; rfl
  refine (hC _ (seen w) w vs hargs (seen_wsim hI)).mono fun e w' ⟨x', hE, rv, he, hr, _⟩ => ?_
  refine ⟨?_, ⟨hE.os, hE.tape, hE.output, hE.size, fun k hk => hE.blk k (by omega)⟩⟩
  rw [he]
  have : RepD x'.h rv (.bool true) := hr
  cases this
  rfl
end Go.Proofs.YtaddhpeainliiaaGreatDoor.Id
/-! ## LibBuild -/
namespace Go.Proofs.YtaddhpeainliiaaGreatDoor.P
open Go.RowKit
set_option linter.unusedVariables false
set_option linter.unusedSimpArgs false
theorem bld_info : ∃ j, Tryz.prog.info? 105 = some j ∧ j.size = 2 := by
  have h : (Tryz.prog.info? 105).map (·.size) = some 2 := by kernel_rfl
  obtain ⟨j, hj, hs⟩ := Option.map_eq_some_iff.1 h
  exact ⟨j, hj, hs⟩
set_option maxHeartbeats 1000000 in
set_option maxRecDepth 100000 in
theorem cc_used (b : Nat) (w : World) (h0 : w.cell? ⟨b, 0, none⟩ = some (.pointer (some ⟨b, 0, none⟩))) :
    Calls Tryz.prog 153 #[.pointer (some ⟨b, 0, none⟩)] w fun e w' => e = .returned (.tuple #[]) ∧ w' = w := by
  obtain ⟨j, hj, _⟩ := bld_info
  have key := Lib.run_neq_ptr_same (P := Tryz.prog) w (⟨b, 0, none⟩ : Addr) Tryz.underlying102 hj
  go_enter Tryz.func153, Tryz.ntmps153
  go_wp2
  go_end0
  exact ⟨rfl, rfl⟩
set_option maxHeartbeats 1000000 in
set_option maxRecDepth 100000 in
/-- at a builder that begins a block of cells of a type that begins with a builder -/
theorem cc_fresh (b : Nat) {e : TypeId} {n : Nat} (w : World) (h0 : w.cell? ⟨b, 0, none⟩ = some (.pointer none)) (hsh : w.shape? b = some (e, n)) (hn : 0 < n) (hl : liesAt Tryz.prog Tryz.prog.depth e (n / Tryz.prog.cellsOf e) 0 105 1 = true) (hfz : w.frozen? ⟨b, 0, none⟩ = false) :
    Calls Tryz.prog 153 #[.pointer (some ⟨b, 0, none⟩)] w fun e w' => e = .returned (.tuple #[]) ∧ w' = w.setCell ⟨b, 0, none⟩ (.pointer (some ⟨b, 0, none⟩)) := by
  obtain ⟨j, hj, hjs⟩ := bld_info
  have k1 := Lib.run_to_unsafe (P := Tryz.prog) w (⟨b, 0, none⟩ : Addr) Tryz.underlying102 Tryz.underlying209 hj (by rw [hjs]; decide) hsh hn
  have k2 := Lib.run_from_unsafe (P := Tryz.prog) w (⟨b, 0, none⟩ : Addr) Tryz.underlying209 Tryz.underlying102 hj hsh hl
  go_enter Tryz.func153, Tryz.ntmps153
  go_wp2
  rw [run_callFunc_extern Tryz.func180 (by kernel_rfl) (by kernel_rfl) (by kernel_rfl) (e := Extern.AbiNoEscape.same) (by kernel_rfl), Lib.run_noEscape]
  simp only [Result.andThen]
  rw [Oper.upon_value]
  go_wp2
  go_end0
  exact ⟨rfl, rfl⟩
end Go.Proofs.YtaddhpeainliiaaGreatDoor.P
/-! ## LibBld2 -/
namespace Go.Proofs.YtaddhpeainliiaaGreatDoor.Id
open Go
set_option linter.unusedVariables false
set_option linter.unusedSimpArgs false
theorem setCell_row {w : World} {b : Nat} {ws : Array Value} {t : TypeId} {f : Nat × Nat} (v : Value) (h : w.heap[b]? = some (.cells ws t f)) : w.setCell ⟨b, 0, none⟩ v = w.setRow b (ws.setIfInBounds 0 v) := by
  unfold World.setCell World.setRow
  congr 1
  refine Array.ext_getElem? fun k => ?_
  rw [Array.getElem?_modify, Array.getElem?_modify]
  by_cases e : b = k
  · subst e
    rw [if_pos rfl, if_pos rfl, h]
    simp
  · rw [if_neg e, if_neg e]
/-- a type that begins with a builder, so many cells of it -/
def BldAt (n : Nat) : Prop := ∀ t, kn n t = true → liesAt Tryz.prog Tryz.prog.depth t (n / Tryz.prog.cellsOf t) 0 105 1 = true
section
variable {I : World → Prop} {B0 : Nat} {M : Nat → Prop} {x : Aux} {w w' : World}
theorem getB_one {cs : List V} {i : Nat} {c : List V} (h : getB (number base [cs] 0) i = some c) : i = base ∧ c = cs := by
  have h : getB [(base + 0, cs)] i = some c := h
  simp only [getB] at h
  split at h
  · rename_i e; cases h; exact ⟨(Nat.eq_of_beq_eq_true e).symm, rfl⟩
  · cases h
/-- a cell of the one box is written -/
theorem one_store {cs : List V} (S : WSim I B0 M x (number base [cs] 0) w) (hI : Stable I B0) {cs' : List V} {ws ws' : Array Value} {t : TypeId} (hg : w.heap[x.ρ base]? = some (.cells ws t (0, 0))) (hsz : ws'.size = ws.size) (hr : RepVs x cs' ws'.toList) (hpw : pw ws'.toList = true → pw ws.toList = true ∨ knAny ws.size = true) :
    Ext M x w x (w.setRow (x.ρ base) ws') ∧ WSim I B0 M x (number base [cs'] 0) (w.setRow (x.ρ base) ws') := by
  have S0 : Sim I B0 M 0 x [] (number base [cs] 0) ⟨#[], []⟩ w := ⟨fun i => trivial, rfl, rfl, S⟩
  have hb : getB (number base [cs] 0) base = some cs := rfl
  have hE := EffOK.store S0 hI (i := base) (cs := cs) hb hg (x' := x) (scr := []) (cs' := cs') (ws' := ws') id rfl rfl rfl (fun _ _ => rfl) (fun _ _ h => h) (fun _ _ _ _ h => h) hsz hr hpw
  refine ⟨hE.ext, (hE.ws (cleanB [] [] (number base [cs] 0)) (fun i => getB_clean _ _ _ _)).weak fun i c hc => ?_⟩
  obtain ⟨rfl, rfl⟩ := getB_one hc
  exact ⟨c, rfl, fun _ h => h⟩
end
/-- copyCheck, at a box that begins with a builder -/
def CcX (X : Given) : Given := fun f args bx o => X f args bx o ∨
  (f = 153 ∧ ∃ (c0 : V) (rest : List V), BldAt (rest.length + 1) ∧ (c0 = .nilp ∨ c0 = .box base 0) ∧ args = [.box base 0] ∧ bx = [c0 :: rest] ∧ o = .ret (.tuple []) [.box base 0 :: rest])
theorem ccX_ok {X : Given} {I : World → Prop} {B0 : Nat} (hI : Stable I B0) (hX : GivenOK Tryz.prog X I B0) : GivenOK Tryz.prog (CcX X) I B0 := by
  rintro f args bx o (h | ⟨rfl, c0, rest, hB, hc, rfl, rfl, rfl⟩)
  · exact hX f args bx o h
  · refine ⟨⟨_, Tryz.func153, by kernel_rfl, rfl⟩, fun M x w vs hv S => ?_⟩
    obtain ⟨v, l1, hl1, hv1, rfl⟩ := hv
    have hv1 : v = .pointer (some ⟨x.ρ base, 0, none⟩) := hv1
    subst hv1
    obtain rfl : vs = #[.pointer (some ⟨x.ρ base, 0, none⟩)] := by cases vs; simp_all
    obtain ⟨hm, hn, ws, t, hg, hr⟩ := S.box base (c0 :: rest) rfl
    have hkt := S.kt base (c0 :: rest) rfl _ _ _ hg
    obtain ⟨v0, vs0, hws, hr0, hrr⟩ := hr
    have hsize : ws.size = rest.length + 1 := by rw [← Array.length_toList, hws, List.length_cons, hrr.length]
    have hcell : w.cell? ⟨x.ρ base, 0, none⟩ = some v0 := by
      unfold World.cell?
      rw [hg]
      simp only [Option.isSome_none, Bool.false_eq_true, if_false]
      rw [← Array.getElem?_toList, hws]; rfl
    have hret : RepN x (.tuple []) (.tuple #[]) := ⟨#[], rfl, rfl⟩
    rcases hc with rfl | rfl
    · have hv0 : v0 = .pointer none := hr0
      subst hv0
      have hsh : w.shape? (x.ρ base) = some (t, ws.size) := by unfold World.shape?; rw [hg]
      have hfz : w.frozen? ⟨x.ρ base, 0, none⟩ = false := by unfold World.frozen?; rw [hg]; rfl
      refine (P.cc_fresh (x.ρ base) w hcell hsh (by omega) (by rw [hsize]; exact hB t (by rw [← hsize]; exact hkt (by rw [hws]; rfl))) hfz).mono fun e w' ⟨he, hw⟩ => ?_
      rw [setCell_row _ hg] at hw
      subst hw
      have hr' : RepVs x (.box base 0 :: rest) (ws.setIfInBounds 0 (.pointer (some ⟨x.ρ base, 0, none⟩))).toList := by
        rw [Array.toList_setIfInBounds, hws]
        exact ⟨_, _, rfl, rfl, hrr⟩
      obtain ⟨h1, h2⟩ := one_store (cs' := .box base 0 :: rest) S hI hg (by simp) hr' (fun _ => .inl (by rw [hws]; rfl))
      exact ⟨x, h1, _, he, hret, h2⟩
    · have hv0 : v0 = .pointer (some ⟨x.ρ base, 0, none⟩) := hr0
      subst hv0
      refine (P.cc_used (x.ρ base) w hcell).mono fun e w' ⟨he, hw⟩ => ?_
      subst hw
      exact ⟨x, Ext.refl _ _, _, he, hret, S⟩
end Go.Proofs.YtaddhpeainliiaaGreatDoor.Id
/-! ## LibBld3 -/
namespace Go.Proofs.YtaddhpeainliiaaGreatDoor.P
open Go.RowKit
set_option linter.unusedVariables false
set_option linter.unusedSimpArgs false
set_option maxHeartbeats 2000000 in
set_option maxRecDepth 100000 in
theorem bs_nil (b : Nat) (w : World) (h : w.cell? ⟨b, 1, none⟩ = some (.slice none 0 0)) :
    Calls Tryz.prog 52 #[.pointer (some ⟨b, 0, none⟩)] w fun e w' => e = .returned (.string .empty) ∧ w' = w.drew := by
  have c1 : w.drew.cell? ⟨b, 1, none⟩ = some (.slice none 0 0) := h
  have hSD : (Builtin.unsafeSliceData_ #[103] 130 #[.slice none 0 0]).run Tryz.prog w.drew = .ok (.pointer none) w.drew := rfl
  have hUS : (Builtin.unsafeString_ #[130, 3] 9 #[.pointer none, .int .i64 0]).run Tryz.prog w.drew = .ok (.string .empty) w.drew := Lib.run_unsafeString_none w.drew _ _ _ none
  have mixed : Tryz.prog.follows .mixedOrders = true := by kernel_rfl
  go_enter Tryz.func52, Tryz.ntmps52
  go_wp2
  go_region_o
  all_goals (go_wp2; go_ret; exact ⟨rfl, rfl⟩)
set_option maxHeartbeats 4000000 in
set_option maxRecDepth 100000 in
/-- of a builder that holds bytes -/
theorem bs_row (b g cap : Nat) (w : World) (l : List UInt8) (h0 : l ≠ []) (h : w.cell? ⟨b, 1, none⟩ = some (.slice (some ⟨g, 0, none⟩) l.length cap)) (hc : l.length ≤ cap) {e : TypeId} {cells : Nat} (hsh : w.shape? g = some (e, cells)) (hn : l.length ≤ cells) (hmax : l.length ≤ 9223372036854775807)
    (hcell : ∀ j x, l[j]? = some x → w.cell? ⟨g, j, none⟩ = some (.int .u8 x.toNat)) (hte : e = 5) :
    Calls Tryz.prog 52 #[.pointer (some ⟨b, 0, none⟩)] w fun e w' => e = .returned (.string ⟨l.toArray⟩) ∧ w' = w.drew.freeze ⟨g, 0, none⟩ l.length := by
  subst hte
  have hl0 : 0 < l.length := List.length_pos_iff.2 h0
  have c1 : w.drew.cell? ⟨b, 1, none⟩ = some (.slice (some ⟨g, 0, none⟩) l.length cap) := h
  have hSD : (Builtin.unsafeSliceData_ #[103] 130 #[.slice (some ⟨g, 0, none⟩) l.length cap]).run Tryz.prog w.drew = .ok (.pointer (some ⟨g, 0, none⟩)) w.drew := Lib.run_unsafeSliceData_row _ _ _ _ _ _ (by omega)
  have hUS : (Builtin.unsafeString_ #[130, 3] 9 #[.pointer (some ⟨g, 0, none⟩), .int .i64 l.length]).run Tryz.prog w.drew = .ok (.string ⟨l.toArray⟩) (w.drew.freeze ⟨g, 0, none⟩ l.length) := by
    refine Lib.run_unsafeString_row w.drew 130 3 9 5 Tryz.underlying130 (by kernel_rfl) g cells hsh l h0 hn hmax fun j x hx => ?_
    have := hcell j x hx
    have e : ((⟨g, 0, none⟩ : Addr).add j) = ⟨g, j, none⟩ := by
      unfold Addr.add
      split
      · rename_i e0; obtain rfl : j = 0 := by simpa using e0
        rfl
      · simp
    rw [e]; exact this
  have mixed : Tryz.prog.follows .mixedOrders = true := by kernel_rfl
  go_enter Tryz.func52, Tryz.ntmps52
  go_wp2
  go_region_o
  all_goals (go_wp2; go_ret; exact ⟨rfl, rfl⟩)
end Go.Proofs.YtaddhpeainliiaaGreatDoor.P
/-! ## LibBld4 -/
namespace Go.Proofs.YtaddhpeainliiaaGreatDoor.Id
open Go
set_option linter.unusedVariables false
set_option linter.unusedSimpArgs false
theorem freeze_other (w : World) (g n q : Nat) (h : q ≠ g) : (w.freeze ⟨g, 0, none⟩ n).heap[q]? = w.heap[q]? := by
  unfold World.freeze
  split
  · rfl
  · simp only [Array.getElem?_modify]; rw [if_neg (fun e => h e.symm)]
theorem freeze_same (w : World) (g n : Nat) {ws : Array Value} {t : TypeId} {f : Nat × Nat} (h : w.heap[g]? = some (.cells ws t f)) : ∃ f', (w.freeze ⟨g, 0, none⟩ n).heap[g]? = some (.cells ws t f') := by
  unfold World.freeze
  split
  · exact ⟨f, h⟩
  · obtain ⟨lo, hi⟩ := f
    simp only [Array.getElem?_modify, if_pos, h, Option.map_some]
    exact ⟨_, rfl⟩
theorem freeze_size (w : World) (g n : Nat) : (w.freeze ⟨g, 0, none⟩ n).heap.size = w.heap.size := by
  unfold World.freeze; split <;> simp
theorem freeze_cell (w : World) (g n : Nat) (p : Addr) {v : Value} (h : w.cell? p = some v) : (w.freeze ⟨g, 0, none⟩ n).cell? p = some v := by
  unfold World.cell? at h ⊢
  by_cases e : p.block = g
  · cases hc : w.heap[p.block]? with
    | none => rw [hc] at h; cases h
    | some o =>
      cases o with
      | cells ws t f =>
        rw [hc] at h
        rw [e] at hc ⊢
        obtain ⟨f', h'⟩ := freeze_same w g n hc
        rw [h']; exact h
      | _ => rw [hc] at h; cases h
  · rw [freeze_other w g n _ e]; exact h
theorem sl_cells {h : Id.H} {g n cap : Nat} {es : List (List D)} (hD : RepD h (.slice (some ⟨g, 0, none⟩) n cap) (.sl 1 es)) (j : Nat) (d : D) (hj : es[j]? = some [d]) : ∃ v, h g j = some v ∧ RepD h v d := by
  cases hD with
  | sl a cap2 n _ vv ha hc hnn hh hrr =>
    have h2 := hh j _ 0 _ hj rfl
    simp only [Nat.zero_add, Nat.mul_one, Nat.add_zero] at h2
    exact ⟨_, h2, hrr j _ 0 _ hj rfl⟩
/-- String, at a box that begins with a builder: of what it holds; it writes no more -/
def StrX (X : Given) : Given := fun f args bx o => X f args bx o ∨
  (f = 52 ∧ ∃ (c0 buf : V) (rest : List V) (bs : List UInt8), bs.length ≤ 9223372036854775807 ∧ ((buf = .d (.nil 1) ∧ bs = []) ∨ ∃ k, buf = .own k 1 (bs.map byteD) ∧ bs ≠ [] ∧ cleanV [k] [] c0 = c0 ∧ cleanVs [k] [] rest = rest) ∧ args = [.box base 0] ∧ bx = [c0 :: buf :: rest] ∧ o = .ret (vS (mkB bs)) [c0 :: .undef :: rest])
theorem strX_ok {X : Given} {I : World → Prop} {B0 : Nat} (hI : Stable I B0) (hX : GivenOK Tryz.prog X I B0) : GivenOK Tryz.prog (StrX X) I B0 := by
  rintro f args bx o (h | ⟨rfl, c0, buf, rest, bs, hmax, hb, rfl, rfl, rfl⟩)
  · exact hX f args bx o h
  · refine ⟨⟨_, Tryz.func52, by kernel_rfl, rfl⟩, fun M x w vs hv S => ?_⟩
    obtain ⟨v, l1, hl1, hv1, rfl⟩ := hv
    have hv1 : v = .pointer (some ⟨x.ρ base, 0, none⟩) := hv1
    subst hv1
    obtain rfl : vs = #[.pointer (some ⟨x.ρ base, 0, none⟩)] := by cases vs; simp_all
    obtain ⟨hm, hn, ws, t, hg, hr⟩ := S.box base (c0 :: buf :: rest) rfl
    have hkt := S.kt base (c0 :: buf :: rest) rfl
    obtain ⟨v0, vs0, hws, hr0, hrr⟩ := hr
    obtain ⟨v1, vs1, hws1, hr1, hr2⟩ := hrr
    subst hws1
    have hcell : w.cell? ⟨x.ρ base, 1, none⟩ = some v1 := by
      unfold World.cell?
      rw [hg]
      simp only [Option.isSome_none, Bool.false_eq_true, if_false]
      rw [← Array.getElem?_toList, hws]; rfl
    rcases hb with ⟨rfl, rfl⟩ | ⟨k, rfl, hne, hk0, hk1⟩
    · have hv1 : v1 = .slice none 0 0 := by cases (RepV.d hr1); rfl
      subst hv1
      refine (P.bs_nil (x.ρ base) w hcell).mono fun e w' ⟨he, hw⟩ => ?_
      subst hw
      refine ⟨x, Ext.drew rfl rfl rfl rfl, _, he, RepD.str _, (WSim.drew (w' := w.drew) S hI rfl).weak fun i c hc => ?_⟩
      obtain ⟨rfl, rfl⟩ := getB_one hc
      exact ⟨_, rfl, fun l ⟨a, b, e1, p, c, d, e2, q, r⟩ => ⟨a, b, e1, p, c, d, e2, trivial, r⟩⟩
    · rcases (show RepOwn x k 1 (bs.map byteD) v1 from hr1) with ⟨_, h2, _⟩ | ⟨g, cap, hv1, hz, hD, h8, _⟩
      · exact absurd (by simpa using h2) hne
      subst hv1
      obtain ⟨hMg, hle, hnone, ws2, ty, hg2, hsz⟩ := S.zone k g _ _ hz
      have hug : x.u g := h8 (by
        cases bs with
        | nil => exact absurd rfl hne
        | cons c r => exact ⟨_, r.map byteD, rfl⟩)
      obtain ⟨ws3, f3, hg3⟩ := S.uu g hug
      rw [hg2] at hg3
      have hty : ty = u8t := by injection hg3 with h; injection h
      subst hty
      have hcap : bs.length ≤ cap := by
        have : (bs.map byteD).length * 1 ≤ cap * 1 := hle
        simpa using this
      have hcells : ∀ j c, bs[j]? = some c → w.cell? ⟨g, j, none⟩ = some (.int .u8 c.toNat) := fun j c hj => by
        obtain ⟨z, h2, h3⟩ := sl_cells hD j (.int .u8 (c.toNat : Int)) (by rw [List.getElem?_map, hj]; rfl)
        rw [S.agree _ _ _ h2]
        cases h3; rfl
      have hcell' : w.cell? ⟨x.ρ base, 1, none⟩ = some (.slice (some ⟨g, 0, none⟩) bs.length cap) := by rw [hcell, List.length_map]
      refine (P.bs_row (x.ρ base) g cap w bs hne hcell' hcap (e := u8t) (cells := cap) (by unfold World.shape?; rw [hg2]; simp only; rw [hsz, Nat.mul_one]) hcap hmax hcells rfl).mono fun e w' ⟨he, hw⟩ => ?_
      have hwb : ∀ q, q ≠ g → w'.heap[q]? = w.heap[q]? := fun q hq => by rw [hw]; exact freeze_other w.drew g _ q hq
      have hsize : w'.heap.size = w.heap.size := by rw [hw]; exact freeze_size w.drew g _
      have hcl : ∀ p v, w.cell? p = some v → w'.cell? p = some v := fun p v h => by rw [hw]; exact freeze_cell w.drew g _ p h
      have hgt : ∃ f', w'.heap[g]? = some (.cells ws2 u8t f') := by rw [hw]; exact freeze_same w.drew g _ hg2
      have hio : w'.os = w.os ∧ w'.tape = w.tape ∧ w'.output = w.output := by
        rw [hw]; unfold World.freeze; split <;> exact ⟨rfl, rfl, rfl⟩
      have hbg : x.ρ base ≠ g := S.zbox k g _ _ base _ hz rfl
      have hgB : ∀ q, ¬ M q → q ≠ g := fun q hq e => hq (e ▸ hMg)
      refine ⟨{ x with z := fun t' => if t' = k then none else x.z t' }, ⟨hio.1, hio.2.1, hio.2.2, by rw [hsize]; exact Nat.le_refl _, fun q hq => hwb q (hgB q hq), fun _ _ _ h => h, fun _ _ => rfl, fun _ _ => rfl, fun _ h => h⟩, _, he, ?_, ?_⟩
      · exact RepD.str _
      · have hzz : ∀ t' q s e', (if t' = k then none else x.z t') = some (q, s, e') → t' ≠ k ∧ x.z t' = some (q, s, e') := fun t' q s e' h => by
          split at h
          · cases h
          · exact ⟨by assumption, h⟩
        refine ⟨hI w w' (fun q hq => hwb q (fun e' => ?_)) (by rw [hsize]; exact Nat.le_refl _) S.inv, S.big, fun q hq => S.top q (by rw [← hsize]; exact hq), fun q o v hv => hcl _ _ (S.agree q o v hv), fun i c hc => ?_, fun i j c d hc hd _ => ?_, fun t' q s e' h => ?_, fun t' t'' q s e1 s' e2 h1 h2 => S.zinj _ _ _ _ _ _ _ (hzz _ _ _ _ h1).2 (hzz _ _ _ _ h2).2, fun t' q s e' i c h1 hc => ?_, fun q hq => ?_, fun i c hc => ?_⟩
        · have := S.big g hMg; omega
        · obtain ⟨rfl, rfl⟩ := getB_one hc
          have hzc : ∀ t', t' ∉ [k] → (if t' = k then none else x.z t') = x.z t' := fun t' ht => if_neg (by simpa using ht)
          refine ⟨hm, hn, ws, t, by rw [hwb _ hbg]; exact hg, ?_⟩
          rw [hws]
          refine ⟨v0, _, rfl, ?_, _, _, rfl, trivial, ?_⟩
          · have := RepV.clean (x := x) (x' := { x with z := fun t' => if t' = k then none else x.z t' }) (scr := [k]) (drp := []) (fun _ _ _ h => h) (fun _ _ => rfl) hzc (fun _ h => h) hr0
            rw [hk0] at this; exact this
          · have := RepVs.clean (x := x) (x' := { x with z := fun t' => if t' = k then none else x.z t' }) (scr := [k]) (drp := []) (fun _ _ _ h => h) (fun _ _ => rfl) hzc (fun _ h => h) hr2
            rw [hk1] at this; exact this
        · obtain ⟨rfl, _⟩ := getB_one hc
          obtain ⟨rfl, _⟩ := getB_one hd
          rfl
        · obtain ⟨h1, h2⟩ := hzz _ _ _ _ h
          obtain ⟨q1, q2, q3, wz, tz, q4, q5⟩ := S.zone _ q s e' h2
          have hq : q ≠ g := fun e'' => by subst e''; exact h1 (S.zinj _ _ _ _ _ _ _ h2 hz)
          exact ⟨q1, q2, q3, wz, tz, by rw [hwb q hq]; exact q4, q5⟩
        · obtain ⟨rfl, _⟩ := getB_one hc
          exact S.zbox _ q s e' base _ (hzz _ _ _ _ h1).2 rfl
        · by_cases e' : q = g
          · obtain ⟨f', h'⟩ := hgt
            exact ⟨ws2, f', by rw [e']; exact h'⟩
          · obtain ⟨w4, f4, h4⟩ := S.uu q hq
            exact ⟨w4, f4, by rw [hwb q e']; exact h4⟩
        · obtain ⟨rfl, _⟩ := getB_one hc
          intro ws5 t5 f5 h5
          have h5 : w'.heap[x.ρ base]? = some (.cells ws5 t5 f5) := h5
          rw [hwb _ hbg] at h5
          exact hkt ws5 t5 f5 h5
end Go.Proofs.YtaddhpeainliiaaGreatDoor.Id
/-! ## LibBld5 -/
namespace Go.Proofs.YtaddhpeainliiaaGreatDoor.Id
open Go
set_option linter.unusedVariables false
set_option linter.unusedSimpArgs false
set_option maxRecDepth 100000
theorem cc_does {X : Given} (c0 : V) (rest : List V) (hB : BldAt (rest.length + 1)) (hc : c0 = .nilp ∨ c0 = .box base 0) : Does (CcX X) 153 [.box base 0] [c0 :: rest] (.ret (.tuple []) [.box base 0 :: rest]) :=
  Does.ext (.inr ⟨rfl, c0, rest, hB, hc, rfl, rfl, rfl⟩)
theorem write_does {X : Given} (s : ByteArray) (bs : List UInt8) (hB : BldAt 2) (hn : bs.length + s.size ≤ 140737488355328) : Does (CcX X) 114 [.box base 0, vS s] [[.box base 0, .own (base, 1) 1 (bs.map byteD)]] (.ret (.tuple [vI s.size, .undef]) [[.box base 0, .own (base, 1) 1 ((bs ++ L s).map byteD)]]) := by
  refine DoesQ.eq (DoesQ.of Tryz.func114 (by kernel_rfl) ?_)
  refine WP.use1 (cc_does (.box base 0) _ hB (.inr rfl)) ?_
  refine WP.asrt (show ((bs.map byteD).length + (byteEs s).length) * 1 ≤ 140737488355328 by rw [List.length_map, byteEs_len]; omega) ?_
  refine WP.leaf ?_
  rw [List.map_append]
  rfl
/-- the first bytes -/
theorem write_does0 {X : Given} (s : ByteArray) (hB : BldAt 2) (hn : s.size ≤ 140737488355328) : Does (CcX X) 114 [.box base 0, vS s] [[.nilp, .d (.nil 1)]] (.ret (.tuple [vI s.size, .undef]) [[.box base 0, .own (base, 1) 1 ((L s).map byteD)]]) := by
  refine DoesQ.eq (DoesQ.of Tryz.func114 (by kernel_rfl) ?_)
  refine WP.use1 (cc_does .nilp _ hB (.inl rfl)) ?_
  refine WP.asrt (show (byteEs s).length * 1 ≤ 140737488355328 by rw [byteEs_len]; omega) ?_
  exact WP.leaf rfl
end Go.Proofs.YtaddhpeainliiaaGreatDoor.Id
/-! ## LibFmt -/
namespace Go.Proofs.YtaddhpeainliiaaGreatDoor.Id
open Go
set_option linter.unusedVariables false
set_option linter.unusedSimpArgs false
def FmtX (X : Given) : Given := fun f args bx o => X f args bx o ∨
  (f = 82 ∧ ∃ v : Int, -9223372036854775808 ≤ v ∧ v ≤ 9223372036854775807 ∧ args = [vI v, vI 10] ∧ bx = [] ∧ o = .ret (vS (mkB (Lib.itoa v))) [])
theorem FmtX.lib {X : Given} (h : LibX X) : LibX (FmtX X) := ⟨fun s c r h1 h2 h3 h4 => .inl (h.wh s c r h1 h2 h3 h4), fun s c => .inl (h.ib s c)⟩
theorem rep_i64 {x : Aux} {n : Int} {v : Value} (h : RepV x (vI n) v) : v = .int .i64 n := by
  have : RepD x.h v (.int .i64 n) := h
  cases this; rfl
theorem fmtX_ok {X : Given} {B0 : Nat} (hI : Stable P.Inv B0) (hX : GivenOK Tryz.prog X P.Inv B0) : GivenOK Tryz.prog (FmtX X) P.Inv B0 := by
  rintro f args bx o (h | ⟨rfl, n, h0, h1, rfl, rfl, rfl⟩)
  · exact hX f args bx o h
  · refine ⟨⟨_, Tryz.func82, by kernel_rfl, rfl⟩, fun M x w vs hv S => ?_⟩
    obtain ⟨v, l1, hl1, hv1, v2, l2, rfl, hv2, rfl⟩ := hv
    obtain rfl := rep_i64 hv1
    obtain rfl := rep_i64 hv2
    obtain rfl : vs = #[.int .i64 n, .int .i64 10] := by cases vs; simp_all
    refine (P.format_ok n h0 h1 w S.inv).mono fun e w' ⟨he, hb⟩ => ?_
    exact ⟨x, Ext.below S hb, _, he, RepD.str _, S.below hI hb⟩
end Go.Proofs.YtaddhpeainliiaaGreatDoor.Id
/-! ## PrH -/
namespace Go.Proofs.YtaddhpeainliiaaGreatDoor.Id
open Go
set_option linter.unusedVariables false
set_option linter.unusedSimpArgs false
set_option maxRecDepth 100000
/-- what the print asks of the library -/
structure LibP (X : Given) : Prop where
  lib : LibX X
  cc : ∀ (c0 : V) (rest : List V), rest.length = 6 → (c0 = .nilp ∨ c0 = .box base 0) → X 153 [.box base 0] [c0 :: rest] (.ret (.tuple []) [.box base 0 :: rest])
  str : ∀ (c0 buf : V) (rest : List V) (bs : List UInt8), bs.length ≤ 9223372036854775807 → ((buf = .d (.nil 1) ∧ bs = []) ∨ ∃ k, buf = .own k 1 (bs.map byteD) ∧ bs ≠ [] ∧ cleanV [k] [] c0 = c0 ∧ cleanVs [k] [] rest = rest) → X 52 [.box base 0] [c0 :: buf :: rest] (.ret (vS (mkB bs)) [c0 :: .undef :: rest])
  fmt : ∀ v : Int, -9223372036854775808 ≤ v → v ≤ 9223372036854775807 → X 82 [vI v, vI 10] [] (.ret (vS (mkB (Lib.itoa v))) [])
  rep : ∀ n : Nat, n ≤ 140737488355328 → X 200 [vS (mkB [9]), vI n] [] (.ret (vS (mkB (List.replicate n 9))) [])
/-- the printer's cells behind the builder's -/
abbrev pT (p : PSt) : List V := [vB p.tight, vC p.last, vI p.tabs, vI p.lv, vI p.most]
/-- the printer's cells -/
abbrev pW (p : PSt) : List V := .box base 0 :: .own (base, 1) 1 (p.out.map byteD) :: pT p
/-- a printer's that wrote nothing yet -/
abbrev pN (p : PSt) : List V := .nilp :: .d (.nil 1) :: pT p
def pV : Bool → PSt → List V
  | true, p => pN p
  | false, p => pW p
section
variable {X : Given}
/-- the printer's cells, told apart -/
abbrev pR (o : List UInt8) (t : Bool) (z i v m : Int) : List V := .box base 0 :: .own (base, 1) 1 (o.map byteD) :: [vB t, .d (.int .u8 z), vI i, vI v, vI m]
theorem ws_raw (hP : LibP X) (s : ByteArray) (o : List UInt8) (t : Bool) (z i v m : Int) (hn : o.length + (L s).length ≤ 140737488355328) : Does X 114 [.box base 0, vS s] [pR o t z i v m] (.ret (.tuple [vI s.size, .undef]) [pR (o ++ L s) t z i v m]) := by
  refine DoesQ.eq (DoesQ.of Tryz.func114 (by kernel_rfl) ?_)
  refine WP.use1 (Does.ext (hP.cc _ _ rfl (.inr rfl))) ?_
  refine WP.asrt (show ((o.map byteD).length + (byteEs s).length) * 1 ≤ 140737488355328 by rw [List.length_map, byteEs_len]; rw [L_length] at hn; omega) ?_
  refine WP.leaf ?_
  show Out.ret _ [.box base 0 :: .own (base, 1) 1 (o.map byteD ++ byteEs s) :: _] = Out.ret _ [.box base 0 :: .own (base, 1) 1 ((o ++ L s).map byteD) :: _]
  rw [List.map_append]
  rfl
theorem ws_does (hP : LibP X) (s : ByteArray) (p : PSt) (hn : p.out.length + (L s).length ≤ 140737488355328) : Does X 114 [.box base 0, vS s] [pW p] (.ret (.tuple [vI s.size, .undef]) [pW { p with out := p.out ++ L s }]) := ws_raw hP s p.out p.tight _ _ _ _ hn
/-- the first text -/
theorem ws_raw0 (hP : LibP X) (s : ByteArray) (t : Bool) (z i v m : Int) (hn : (L s).length ≤ 140737488355328) : Does X 114 [.box base 0, vS s] [.nilp :: .d (.nil 1) :: [vB t, .d (.int .u8 z), vI i, vI v, vI m]] (.ret (.tuple [vI s.size, .undef]) [pR (L s) t z i v m]) := by
  refine DoesQ.eq (DoesQ.of Tryz.func114 (by kernel_rfl) ?_)
  refine WP.use1 (Does.ext (hP.cc _ _ rfl (.inl rfl))) ?_
  refine WP.asrt (show (byteEs s).length * 1 ≤ 140737488355328 by rw [byteEs_len]; rw [L_length] at hn; omega) ?_
  exact WP.leaf rfl
theorem wb_does (hP : LibP X) (c : UInt8) (p : PSt) (hn : p.out.length + 1 ≤ 140737488355328) : Does X 113 [.box base 0, vC c] [pW p] (.ret .undef [pW { p with out := p.out ++ [c] }]) := by
  refine DoesQ.eq (DoesQ.of Tryz.func113 (by kernel_rfl) ?_)
  refine WP.use1 (Does.ext (hP.cc _ _ rfl (.inr rfl))) ?_
  refine WP.asrt (show ((p.out.map byteD).length + 1) * 1 ≤ 140737488355328 by rw [List.length_map]; omega) ?_
  refine WP.leaf ?_
  show Out.ret _ [.box base 0 :: .own (base, 1) 1 (p.out.map byteD ++ [byteD c]) :: pT p] = Out.ret _ [.box base 0 :: .own (base, 1) 1 ((p.out ++ [c]).map byteD) :: pT p]
  rw [List.map_append]
  rfl
theorem gap_does (hP : LibP X) (s : ByteArray) (p : PSt) (hB : Bd (pgap (L s) p)) : Does X 73 [.box base 0, vS s] [pW p] (.ret (.tuple []) [pW (pgap (L s) p)]) := by
  refine DoesQ.eq (DoesQ.of Tryz.func73 (by kernel_rfl) ?_)
  obtain ⟨o, t, l, i, v, m⟩ := p
  cases t with
  | true =>
    refine WP.iteF rfl ?_
    exact WP.leaf rfl
  | false =>
    refine WP.iteT rfl ?_
    refine WP.use1 (ws_does hP s ⟨o, false, l, i, v, m⟩ (by have := hB.1; unfold pgap at this; simpa using this)) ?_
    exact WP.leaf rfl
theorem open_does (p : PSt) (h0 : -1152921504606846976 ≤ p.lv) (hB : Bd (popen p)) : Does X 75 [.box base 0] [pW p] (.ret (.tuple []) [pW (popen p)]) := by
  have h1 : max p.most (p.lv + 1) ≤ 1152921504606846976 := hB.2
  refine DoesQ.eq (DoesQ.of Tryz.func75 (by kernel_rfl) ?_)
  obtain ⟨o, t, l, i, v, m⟩ := p
  dsimp only at h0 h1
  repeat refine WP.asrt (by kernel_rfl) ?_
  refine WP.leaf ?_
  have e : IntKind.i64.wrap (v + 1) = v + 1 := wrapI (by omega) (by omega)
  show Out.ret _ [.box base 0 :: .own (base, 1) 1 (o.map byteD) :: [vB t, vC l, vI i, vI (IntKind.i64.wrap (v + 1)), vI (if m < IntKind.i64.wrap (v + 1) then IntKind.i64.wrap (v + 1) else m)]] = Out.ret _ [.box base 0 :: .own (base, 1) 1 (o.map byteD) :: [vB t, vC l, vI i, vI (v + 1), vI (max m (v + 1))]]
  rw [e]
  have e2 : (if m < v + 1 then v + 1 else m) = max m (v + 1) := by split <;> omega
  rw [e2]
theorem isW_eq (c : UInt8) : isW c = (decide ((c.toNat : Int) = 95) || (decide (48 ≤ (c.toNat : Int)) && decide ((c.toNat : Int) ≤ 57) || (decide (97 ≤ (c.toNat : Int)) && decide ((c.toNat : Int) ≤ 122) || decide (65 ≤ (c.toNat : Int)) && decide ((c.toNat : Int) ≤ 90)))) := by
  have := byte_all' (p := fun c => isW c == (decide ((c.toNat : Int) = 95) || (decide (48 ≤ (c.toNat : Int)) && decide ((c.toNat : Int) ≤ 57) || (decide (97 ≤ (c.toNat : Int)) && decide ((c.toNat : Int) ≤ 122) || decide (65 ≤ (c.toNat : Int)) && decide ((c.toNat : Int) ≤ 90))))) (by decide +kernel) c
  exact eq_of_beq this
theorem last_nz {c : UInt8} (h : c ≠ 0) : (c.toNat : Int) ≠ 0 := fun e => h (UInt8.toNat_inj.1 (by simpa using e))
set_option maxHeartbeats 4000000 in
theorem tok_w (hP : LibP X) (p : PSt) (s : ByteArray) (c : UInt8) (r : List UInt8) (hs : L s = c :: r) (hw : isW c = true) (hB : Bd (ptok (L s) p)) : Does X 71 [.box base 0, vS s] [pW p] (.ret (.tuple []) [pW (ptok (L s) p)]) := by
  obtain ⟨hb0, hi0⟩ := bt_drop (i := 0) (s := s) (c := c) (r := r) (by simpa using hs)
  have hb0 : bt s 0 = (c.toNat : Int) := hb0
  have hn := isW_eq c
  rw [hw] at hn
  have hcls : (c.toNat : Int) = 95 ∨ (48 ≤ (c.toNat : Int) ∧ (c.toNat : Int) ≤ 57) ∨ (97 ≤ (c.toNat : Int) ∧ (c.toNat : Int) ≤ 122) ∨ (65 ≤ (c.toNat : Int) ∧ (c.toNat : Int) ≤ 90) := by
    simpa using hn.symm
  have hbr : ∀ d : UInt8, isW d = false → s ≠ mkB [d] := fun d hd e => by
    rw [e, L_mkB] at hs; cases hs; rw [hd] at hw; cases hw
  have h1 := hbr 123 (by decide)
  have h2 := hbr 40 (by decide)
  have h3 := hbr 125 (by decide)
  have h4 := hbr 41 (by decide)
  have hp : ptok (L s) p = pput (L s) p := by
    unfold ptok
    rw [if_neg (fun h => h.elim (fun e => h1 (by rw [← e, mkB_L])) (fun e => h2 (by rw [← e, mkB_L]))), if_neg (fun h => h.elim (fun e => h3 (by rw [← e, mkB_L])) (fun e => h4 (by rw [← e, mkB_L])))]
  have hlt : lt (L s) = c := by rw [hs]; show (match isW c with | true => c | false => 0) = c; rw [hw]
  have hsep : sepL p.last (L s) = if p.last = 0 then [] else [32] := by
    unfold sepL
    rw [hs, show hdW (c :: r) = true from hw]
    by_cases hl : p.last = 0
    · simp [hl]
    · simp [hl]
  rw [hp] at hB ⊢
  have hB1 : p.out.length + ((sepL p.last (L s)).length + (L s).length) ≤ 140737488355328 := by have := hB.1; unfold pput at this; simpa using this
  have he : ∀ o, o = p.out ++ sepL p.last (L s) → Out.ret (.tuple []) [pR (o ++ L s) p.tight (bt s 0) p.tabs p.lv p.most] = Out.ret (.tuple []) [pW (pput (L s) p)] := fun o ho => by
    unfold pput
    rw [hb0, hlt, ho, List.append_assoc]
  by_cases hl : p.last = 0
  · have hz : sepL p.last (L s) = [] := by rw [hsep, if_pos hl]
    rw [hz] at hB1
    rcases hcls with h | h | h | h
    all_goals
      refine DoesQ.eq (DoesQ.of Tryz.func71 (by kernel_rfl) ?_)
      refine WP.asrt (by omega) ?_
      repeat first | refine WP.iteT (decide_eq_true (by omega)) ?_ | refine WP.iteF (decide_eq_false (by omega)) ?_ | refine WP.asrt (by omega) ?_
      refine WP.iteF (by rw [hl]; rfl) ?_
      repeat first | refine WP.iteT (decide_eq_true (by omega)) ?_ | refine WP.asrt (by omega) ?_
      refine WP.use1 (ws_raw hP s p.out p.tight (bt s 0) p.tabs p.lv p.most (by simpa using hB1)) ?_
      refine WP.iteF (decide_eq_false h1) ?_
      refine WP.iteF (decide_eq_false h2) ?_
      refine WP.iteF (decide_eq_false h3) ?_
      refine WP.iteF (decide_eq_false h4) ?_
      exact WP.leaf (he _ (by rw [hz, List.append_nil]))
  · have hz : sepL p.last (L s) = [32] := by rw [hsep, if_neg hl]
    rw [hz] at hB1
    have hl' := last_nz hl
    rcases hcls with h | h | h | h
    all_goals
      refine DoesQ.eq (DoesQ.of Tryz.func71 (by kernel_rfl) ?_)
      refine WP.asrt (by omega) ?_
      repeat first | refine WP.iteT (decide_eq_true (by omega)) ?_ | refine WP.iteF (decide_eq_false (by omega)) ?_ | refine WP.asrt (by omega) ?_
      refine WP.iteT (by rw [decide_eq_false hl']; rfl) ?_
      refine WP.use1 (wb_does hP 32 p (by simp at hB1; omega)) ?_
      repeat first | refine WP.iteT (decide_eq_true (by omega)) ?_ | refine WP.asrt (by omega) ?_
      refine WP.use1 (ws_raw hP s (p.out ++ [32]) p.tight (bt s 0) p.tabs p.lv p.most (by simp at hB1 ⊢; omega)) ?_
      refine WP.iteF (decide_eq_false h1) ?_
      refine WP.iteF (decide_eq_false h2) ?_
      refine WP.iteF (decide_eq_false h3) ?_
      refine WP.iteF (decide_eq_false h4) ?_
      exact WP.leaf (he _ (by rw [hz]))
end
end Go.Proofs.YtaddhpeainliiaaGreatDoor.Id
/-! ## PrI -/
namespace Go.Proofs.YtaddhpeainliiaaGreatDoor.Id
open Go
set_option linter.unusedVariables false
set_option linter.unusedSimpArgs false
set_option maxRecDepth 100000
section
variable {X : Given}
theorem not_w {c : UInt8} (hw : isW c = false) : (c.toNat : Int) ≠ 95 ∧ ((c.toNat : Int) < 48 ∨ (57 < (c.toNat : Int) ∧ (c.toNat : Int) < 65) ∨ (90 < (c.toNat : Int) ∧ (c.toNat : Int) < 97) ∨ 122 < (c.toNat : Int)) := by
  have hn := isW_eq c
  rw [hw] at hn
  generalize (c.toNat : Int) = n at hn
  have hn := hn.symm
  simp only [Bool.or_eq_false_iff, Bool.and_eq_false_iff, decide_eq_false_iff_not] at hn
  omega
/-- no bracket -/
structure NoBr (s : ByteArray) : Prop where
  a : s ≠ mkB [123]
  b : s ≠ mkB [40]
  c : s ≠ mkB [125]
  d : s ≠ mkB [41]
theorem NoBr.put {s : ByteArray} (h : NoBr s) (p : PSt) : ptok (L s) p = pput (L s) p := by
  unfold ptok
  rw [if_neg (fun e => e.elim (fun e => h.a (by rw [← e, mkB_L])) (fun e => h.b (by rw [← e, mkB_L]))), if_neg (fun e => e.elim (fun e => h.c (by rw [← e, mkB_L])) (fun e => h.d (by rw [← e, mkB_L])))]
theorem put_n {s : ByteArray} {c : UInt8} {r : List UInt8} (hs : L s = c :: r) (hw : isW c = false) (p : PSt) : pput (L s) p = ⟨p.out ++ L s, p.tight, 0, p.tabs, p.lv, p.most⟩ := by
  have hlt : lt (L s) = 0 := by rw [hs]; show (match isW c with | true => c | false => 0) = 0; rw [hw]
  have hsep : sepL p.last (L s) = [] := sepN (by rw [hs]; exact hw)
  unfold pput
  rw [hlt, hsep]; rfl
set_option maxHeartbeats 4000000 in
theorem tok_n (hP : LibP X) (p : PSt) (s : ByteArray) (c : UInt8) (r : List UInt8) (hs : L s = c :: r) (hw : isW c = false) (hbr : NoBr s) (hB : Bd (ptok (L s) p)) : Does X 71 [.box base 0, vS s] [pW p] (.ret (.tuple []) [pW (ptok (L s) p)]) := by
  obtain ⟨hb0, hi0⟩ := bt_drop (i := 0) (s := s) (c := c) (r := r) (by simpa using hs)
  have hb0 : bt s 0 = (c.toNat : Int) := hb0
  obtain ⟨h95, hcls⟩ := not_w hw
  rw [hbr.put, put_n hs hw] at hB ⊢
  have hB1 : p.out.length + (L s).length ≤ 140737488355328 := by simpa using hB.1
  rcases hcls with h | h | h | h
  all_goals
    refine DoesQ.eq (DoesQ.of Tryz.func71 (by kernel_rfl) ?_)
    refine WP.asrt (by omega) ?_
    repeat first | refine WP.iteT (decide_eq_true (by omega)) ?_ | refine WP.iteF (decide_eq_false (by omega)) ?_ | refine WP.asrt (by omega) ?_
    refine WP.use1 (ws_raw hP s p.out p.tight 0 p.tabs p.lv p.most hB1) ?_
    refine WP.iteF (decide_eq_false hbr.a) ?_
    refine WP.iteF (decide_eq_false hbr.b) ?_
    refine WP.iteF (decide_eq_false hbr.c) ?_
    refine WP.iteF (decide_eq_false hbr.d) ?_
    exact WP.leaf rfl
set_option maxHeartbeats 4000000 in
theorem tok_n0 (hP : LibP X) (p : PSt) (h0 : p.out = []) (s : ByteArray) (c : UInt8) (r : List UInt8) (hs : L s = c :: r) (hw : isW c = false) (hbr : NoBr s) (hB : Bd (ptok (L s) p)) : Does X 71 [.box base 0, vS s] [pN p] (.ret (.tuple []) [pW (ptok (L s) p)]) := by
  obtain ⟨hb0, hi0⟩ := bt_drop (i := 0) (s := s) (c := c) (r := r) (by simpa using hs)
  have hb0 : bt s 0 = (c.toNat : Int) := hb0
  obtain ⟨h95, hcls⟩ := not_w hw
  rw [hbr.put, put_n hs hw] at hB ⊢
  have hB1 : (L s).length ≤ 140737488355328 := by
    have h2 : (p.out ++ L s).length ≤ 140737488355328 := hB.1
    rw [List.length_append] at h2; omega
  rcases hcls with h | h | h | h
  all_goals
    refine DoesQ.eq (DoesQ.of Tryz.func71 (by kernel_rfl) ?_)
    refine WP.asrt (by omega) ?_
    repeat first | refine WP.iteT (decide_eq_true (by omega)) ?_ | refine WP.iteF (decide_eq_false (by omega)) ?_ | refine WP.asrt (by omega) ?_
    refine WP.use1 (ws_raw0 hP s p.tight 0 p.tabs p.lv p.most hB1) ?_
    refine WP.iteF (decide_eq_false hbr.a) ?_
    refine WP.iteF (decide_eq_false hbr.b) ?_
    refine WP.iteF (decide_eq_false hbr.c) ?_
    refine WP.iteF (decide_eq_false hbr.d) ?_
    exact WP.leaf (by rw [h0]; rfl)
set_option maxHeartbeats 4000000 in
theorem tok_w0 (hP : LibP X) (p : PSt) (h0 : p.out = []) (hl : p.last = 0) (s : ByteArray) (c : UInt8) (r : List UInt8) (hs : L s = c :: r) (hw : isW c = true) (hB : Bd (ptok (L s) p)) : Does X 71 [.box base 0, vS s] [pN p] (.ret (.tuple []) [pW (ptok (L s) p)]) := by
  obtain ⟨hb0, hi0⟩ := bt_drop (i := 0) (s := s) (c := c) (r := r) (by simpa using hs)
  have hb0 : bt s 0 = (c.toNat : Int) := hb0
  have hn := isW_eq c
  rw [hw] at hn
  have hcls : (c.toNat : Int) = 95 ∨ (48 ≤ (c.toNat : Int) ∧ (c.toNat : Int) ≤ 57) ∨ (97 ≤ (c.toNat : Int) ∧ (c.toNat : Int) ≤ 122) ∨ (65 ≤ (c.toNat : Int) ∧ (c.toNat : Int) ≤ 90) := by
    simpa using hn.symm
  have hbd : ∀ d : UInt8, isW d = false → s ≠ mkB [d] := fun d hd e => by
    rw [e, L_mkB] at hs; cases hs; rw [hd] at hw; cases hw
  have hbr : NoBr s := ⟨hbd 123 (by decide), hbd 40 (by decide), hbd 125 (by decide), hbd 41 (by decide)⟩
  have hlt : lt (L s) = c := by rw [hs]; show (match isW c with | true => c | false => 0) = c; rw [hw]
  have hp : pput (L s) p = ⟨L s, p.tight, c, p.tabs, p.lv, p.most⟩ := by unfold pput; rw [hlt, hl, sep0, h0]; rfl
  rw [hbr.put, hp] at hB ⊢
  have hB1 : (L s).length ≤ 140737488355328 := hB.1
  rcases hcls with h | h | h | h
  all_goals
    refine DoesQ.eq (DoesQ.of Tryz.func71 (by kernel_rfl) ?_)
    refine WP.asrt (by omega) ?_
    repeat first | refine WP.iteT (decide_eq_true (by omega)) ?_ | refine WP.iteF (decide_eq_false (by omega)) ?_ | refine WP.asrt (by omega) ?_
    refine WP.iteF (by rw [hl]; rfl) ?_
    repeat first | refine WP.iteT (decide_eq_true (by omega)) ?_ | refine WP.asrt (by omega) ?_
    refine WP.use1 (ws_raw0 hP s p.tight (bt s 0) p.tabs p.lv p.most hB1) ?_
    refine WP.iteF (decide_eq_false hbr.a) ?_
    refine WP.iteF (decide_eq_false hbr.b) ?_
    refine WP.iteF (decide_eq_false hbr.c) ?_
    refine WP.iteF (decide_eq_false hbr.d) ?_
    exact WP.leaf (by rw [hb0]; rfl)
end
end Go.Proofs.YtaddhpeainliiaaGreatDoor.Id
/-! ## PrJ -/
namespace Go.Proofs.YtaddhpeainliiaaGreatDoor.Id
open Go
set_option linter.unusedVariables false
set_option linter.unusedSimpArgs false
set_option maxRecDepth 100000
section
variable {X : Given}
theorem bt_one (d : UInt8) : bt (mkB [d]) 0 = (d.toNat : Int) := (bt_drop (i := 0) (s := mkB [d]) (c := d) (r := []) rfl).1
set_option maxHeartbeats 4000000 in
theorem tok_open (hP : LibP X) (p : PSt) (d : UInt8) (hd : d = 123 ∨ d = 40) (hl : -1152921504606846976 ≤ p.lv) (hB : Bd (ptok [d] p)) : Does X 71 [.box base 0, vS (mkB [d])] [pW p] (.ret (.tuple []) [pW (ptok [d] p)]) := by
  have hp : ptok [d] p = popen ⟨p.out ++ [d], p.tight, 0, p.tabs, p.lv, p.most⟩ := by
    unfold ptok
    rw [if_pos (by rcases hd with rfl | rfl <;> simp)]
    unfold pput
    rw [sepN (by rcases hd with rfl | rfl <;> decide), show lt [d] = 0 by rcases hd with rfl | rfl <;> decide]; rfl
  rw [hp] at hB ⊢
  have hB1 : p.out.length + (L (mkB [d])).length ≤ 140737488355328 := by have := hB.1; unfold popen at this; rw [L_mkB]; simpa using this
  have hb := bt_one d
  rcases hd with rfl | rfl
  · refine DoesQ.eq (DoesQ.of Tryz.func71 (by kernel_rfl) ?_)
    refine WP.asrt (by decide) ?_
    repeat first | refine WP.iteT (decide_eq_true (by rw [hb]; decide)) ?_ | refine WP.iteF (decide_eq_false (by rw [hb]; decide)) ?_ | refine WP.asrt (by decide) ?_
    refine WP.use1 (ws_raw hP (mkB [123]) p.out p.tight 0 p.tabs p.lv p.most hB1) ?_
    refine WP.iteT (decide_eq_true rfl) ?_
    refine WP.iteT (decide_eq_true rfl) ?_
    refine WP.use1 (open_does ⟨p.out ++ [123], p.tight, 0, p.tabs, p.lv, p.most⟩ hl hB) ?_
    exact WP.leaf rfl
  · refine DoesQ.eq (DoesQ.of Tryz.func71 (by kernel_rfl) ?_)
    refine WP.asrt (by decide) ?_
    repeat first | refine WP.iteT (decide_eq_true (by rw [hb]; decide)) ?_ | refine WP.iteF (decide_eq_false (by rw [hb]; decide)) ?_ | refine WP.asrt (by decide) ?_
    refine WP.use1 (ws_raw hP (mkB [40]) p.out p.tight 0 p.tabs p.lv p.most hB1) ?_
    refine WP.iteF (decide_eq_false (by decide)) ?_
    refine WP.iteT (decide_eq_true rfl) ?_
    refine WP.use1 (open_does ⟨p.out ++ [40], p.tight, 0, p.tabs, p.lv, p.most⟩ hl hB) ?_
    exact WP.leaf rfl
set_option maxHeartbeats 4000000 in
theorem tok_open0 (hP : LibP X) (p : PSt) (h0 : p.out = []) (hl : -1152921504606846976 ≤ p.lv) (hB : Bd (ptok [40] p)) : Does X 71 [.box base 0, vS (mkB [40])] [pN p] (.ret (.tuple []) [pW (ptok [40] p)]) := by
  have hp : ptok [40] p = popen ⟨[40], p.tight, 0, p.tabs, p.lv, p.most⟩ := by
    unfold ptok
    rw [if_pos (by simp)]
    unfold pput
    rw [sepN (by decide), show lt [40] = 0 by decide, h0]; rfl
  rw [hp] at hB ⊢
  have hb := bt_one 40
  refine DoesQ.eq (DoesQ.of Tryz.func71 (by kernel_rfl) ?_)
  refine WP.asrt (by decide) ?_
  repeat first | refine WP.iteT (decide_eq_true (by rw [hb]; decide)) ?_ | refine WP.iteF (decide_eq_false (by rw [hb]; decide)) ?_ | refine WP.asrt (by decide) ?_
  refine WP.use1 (ws_raw0 hP (mkB [40]) p.tight 0 p.tabs p.lv p.most (by decide)) ?_
  refine WP.iteF (decide_eq_false (by decide)) ?_
  refine WP.iteT (decide_eq_true rfl) ?_
  refine WP.use1 (open_does ⟨[40], p.tight, 0, p.tabs, p.lv, p.most⟩ hl hB) ?_
  exact WP.leaf rfl
set_option maxHeartbeats 4000000 in
theorem tok_shut (hP : LibP X) (p : PSt) (d : UInt8) (hd : d = 125 ∨ d = 41) (hl : -1152921504606846976 ≤ p.lv) (hl1 : p.lv ≤ 1152921504606846976) (hB : Bd (ptok [d] p)) : Does X 71 [.box base 0, vS (mkB [d])] [pW p] (.ret (.tuple []) [pW (ptok [d] p)]) := by
  have hp : ptok [d] p = ⟨p.out ++ [d], p.tight, 0, p.tabs, p.lv - 1, p.most⟩ := by
    unfold ptok
    rw [if_neg (by rcases hd with rfl | rfl <;> simp), if_pos (by rcases hd with rfl | rfl <;> simp)]
    unfold pput
    rw [sepN (by rcases hd with rfl | rfl <;> decide), show lt [d] = 0 by rcases hd with rfl | rfl <;> decide]; rfl
  rw [hp] at hB ⊢
  have hB1 : p.out.length + (L (mkB [d])).length ≤ 140737488355328 := by have := hB.1; rw [L_mkB]; simpa using this
  have hb := bt_one d
  have e : IntKind.i64.wrap (p.lv - 1) = p.lv - 1 := wrapI (by omega) (by omega)
  have hend : Out.ret (.tuple []) [pR (p.out ++ [d]) p.tight 0 p.tabs (IntKind.i64.wrap (p.lv - 1)) p.most] = Out.ret (.tuple []) [pW ⟨p.out ++ [d], p.tight, 0, p.tabs, p.lv - 1, p.most⟩] := by rw [e]; rfl
  rcases hd with rfl | rfl
  · refine DoesQ.eq (DoesQ.of Tryz.func71 (by kernel_rfl) ?_)
    refine WP.asrt (by decide) ?_
    repeat first | refine WP.iteT (decide_eq_true (by rw [hb]; decide)) ?_ | refine WP.iteF (decide_eq_false (by rw [hb]; decide)) ?_ | refine WP.asrt (by decide) ?_
    refine WP.use1 (ws_raw hP (mkB [125]) p.out p.tight 0 p.tabs p.lv p.most hB1) ?_
    refine WP.iteF (decide_eq_false (by decide)) ?_
    refine WP.iteF (decide_eq_false (by decide)) ?_
    refine WP.iteT (decide_eq_true rfl) ?_
    refine WP.iteT (decide_eq_true rfl) ?_
    exact WP.leaf hend
  · refine DoesQ.eq (DoesQ.of Tryz.func71 (by kernel_rfl) ?_)
    refine WP.asrt (by decide) ?_
    repeat first | refine WP.iteT (decide_eq_true (by rw [hb]; decide)) ?_ | refine WP.iteF (decide_eq_false (by rw [hb]; decide)) ?_ | refine WP.asrt (by decide) ?_
    refine WP.use1 (ws_raw hP (mkB [41]) p.out p.tight 0 p.tabs p.lv p.most hB1) ?_
    refine WP.iteF (decide_eq_false (by decide)) ?_
    refine WP.iteF (decide_eq_false (by decide)) ?_
    refine WP.iteF (decide_eq_false (by decide)) ?_
    refine WP.iteT (decide_eq_true rfl) ?_
    exact WP.leaf hend
end
end Go.Proofs.YtaddhpeainliiaaGreatDoor.Id
/-! ## PrK -/
namespace Go.Proofs.YtaddhpeainliiaaGreatDoor.Id
open Go
set_option linter.unusedVariables false
set_option linter.unusedSimpArgs false
set_option maxRecDepth 100000
section
variable {X : Given}
/-- what a printer holds that wrote nothing -/
def Fr (b : Bool) (p : PSt) : Prop := b = true → p.out = [] ∧ p.last = 0
theorem Fr.no (p : PSt) : Fr false p := fun h => by cases h
theorem mkB_one {s : ByteArray} {l : List UInt8} (h : L s = l) : s = mkB l := by rw [← h, mkB_L]
theorem tok_any (hP : LibP X) (b : Bool) (p : PSt) (h0 : Fr b p) (hg : Pg p) (s : ByteArray) (hs : L s ≠ []) (hbb : b = true → L s ≠ [123] ∧ L s ≠ [125] ∧ L s ≠ [41]) (hB : Bd (ptok (L s) p)) : Does X 71 [.box base 0, vS s] [pV b p] (.ret (.tuple []) [pW (ptok (L s) p)]) := by
  have h1 := hg.lv
  have h2 := hg.most
  cases hl : L s with
  | nil => exact absurd hl hs
  | cons c r =>
    rw [← hl]
    by_cases hw : isW c = true
    · cases b with
      | false => exact tok_w hP p s c r hl hw hB
      | true => exact tok_w0 hP p (h0 rfl).1 (h0 rfl).2 s c r hl hw hB
    · have hw : isW c = false := by simpa using hw
      by_cases e1 : L s = [123]
      · obtain rfl := mkB_one e1
        cases b with
        | false =>
          rw [e1] at hB ⊢
          exact tok_open hP p 123 (.inl rfl) (by omega) hB
        | true => exact absurd e1 (hbb rfl).1
      by_cases e2 : L s = [40]
      · obtain rfl := mkB_one e2
        rw [e2] at hB ⊢
        cases b with
        | false => exact tok_open hP p 40 (.inr rfl) (by omega) hB
        | true => exact tok_open0 hP p (h0 rfl).1 (by omega) hB
      by_cases e3 : L s = [125]
      · obtain rfl := mkB_one e3
        cases b with
        | false =>
          rw [e3] at hB ⊢
          have : p.most ≤ 1152921504606846976 := hB.2
          exact tok_shut hP p 125 (.inl rfl) (by omega) (by omega) hB
        | true => exact absurd e3 (hbb rfl).2.1
      by_cases e4 : L s = [41]
      · obtain rfl := mkB_one e4
        cases b with
        | false =>
          rw [e4] at hB ⊢
          have : p.most ≤ 1152921504606846976 := hB.2
          exact tok_shut hP p 41 (.inr rfl) (by omega) (by omega) hB
        | true => exact absurd e4 (hbb rfl).2.2
      have hbr : NoBr s := ⟨fun e => e1 (by rw [e, L_mkB]), fun e => e2 (by rw [e, L_mkB]), fun e => e3 (by rw [e, L_mkB]), fun e => e4 (by rw [e, L_mkB])⟩
      cases b with
      | false => exact tok_n hP p s c r hl hw hbr hB
      | true => exact tok_n0 hP p (h0 rfl).1 s c r hl hw hbr hB
/-- a token behind something -/
theorem tok_does (hP : LibP X) (p : PSt) (hg : Pg p) (s : ByteArray) (hs : L s ≠ []) (hB : Bd (ptok (L s) p)) : Does X 71 [.box base 0, vS s] [pW p] (.ret (.tuple []) [pW (ptok (L s) p)]) := tok_any hP false p (Fr.no p) hg s hs (fun h => by cases h) hB
/-- a token of these bytes -/
theorem tok_lit (hP : LibP X) (p : PSt) (hg : Pg p) (l : List UInt8) (hs : l ≠ []) (hB : Bd (ptok l p)) : Does X 71 [.box base 0, vS (mkB l)] [pW p] (.ret (.tuple []) [pW (ptok l p)]) := by
  have := tok_does hP p hg (mkB l) (by rw [L_mkB]; exact hs) (by rw [L_mkB]; exact hB)
  rw [L_mkB] at this; exact this
theorem gap_lit (hP : LibP X) (l : List UInt8) (p : PSt) (hB : Bd (pgap l p)) : Does X 73 [.box base 0, vS (mkB l)] [pW p] (.ret (.tuple []) [pW (pgap l p)]) := by
  have := gap_does hP (mkB l) p (by rw [L_mkB]; exact hB)
  rw [L_mkB] at this; exact this
theorem Pg.open {p : PSt} (h : Pg p) {s : List UInt8} (hs : s = [123] ∨ s = [40]) : Pg (ptok s p) := by
  unfold ptok
  rw [if_pos hs]
  have h1 := h.lv
  exact ⟨by show 0 ≤ p.lv + 1; omega, by show p.lv + 1 ≤ max p.most (p.lv + 1); omega, h.tabs⟩
theorem Pg.any {p : PSt} (h : Pg p) {s : List UInt8} (h3 : s ≠ [125]) (h4 : s ≠ [41]) : Pg (ptok s p) := by
  by_cases e : s = [123] ∨ s = [40]
  · exact h.open e
  · exact h.tok (fun h => e (.inl h)) (fun h => e (.inr h)) h3 h4
theorem typ_does (t : Int) : Does X 146 [vI t] [] (.ret (vS (mkB (yTyp t))) []) := by
  refine DoesQ.eq (DoesQ.of Tryz.func146 (by kernel_rfl) ?_)
  unfold yTyp
  refine WP.dec (fun h => ?_) (fun h => ?_)
  · rw [if_pos h]; exact WP.leaf rfl
  rw [if_neg h]
  refine WP.dec (fun h => ?_) (fun h => ?_)
  · rw [if_pos h]; exact WP.leaf rfl
  · rw [if_neg h]; exact WP.leaf rfl
set_option maxHeartbeats 4000000 in
theorem sign_does (op : Int) : Does X 74 [vI op] [] (.ret (.tuple [vS (mkB (sgnT op)), vI (sgnN op)]) []) := by
  refine DoesQ.eq (DoesQ.of Tryz.func74 (by kernel_rfl) ?_)
  repeat' first | refine WP.dec (fun h => ?_) (fun h => ?_) | refine WP.leaf ?_
  all_goals
    refine congrArg (fun z : List UInt8 × Int => Out.ret (.tuple [vS (mkB z.1), vI z.2]) []) (a₁ := (_, _)) (a₂ := (sgnT op, sgnN op)) ?_
    unfold sgnT sgnN
    simp_all
theorem binds_does (e : TExpr) : Does X 77 [.agg (eD e)] [] (.ret (vI (bnd e.k e.op)) []) := by
  refine DoesQ.eq (DoesQ.of Tryz.func77 (by kernel_rfl) ?_)
  by_cases h : e.k = 5
  · refine WP.iteF (by simp [h]) ?_
    refine WP.use1 (sign_does e.op) ?_
    refine WP.leaf ?_
    unfold bnd; rw [if_pos h]
  · refine WP.iteT (by simp [h]) ?_
    refine WP.leaf ?_
    unfold bnd; rw [if_neg h]
/-- a literal's text -/
def litP (v : TVal) : List UInt8 :=
  if v.t = 1 then (if 0 ≤ v.i ∧ v.i ≤ 9223372036854775807 then Lib.itoa v.i else [48])
  else if v.t = 2 then (if v.b = true then [116, 114, 117, 101] else [102, 97, 108, 115, 101])
  else qtP v.s
/-- a number that a cell may hold -/
def rgV (v : TVal) : Prop := v.i ≤ 9223372036854775807
theorem bool_does (b : Bool) : Does X 83 [vB b] [] (.ret (vS (mkB (if b = true then [116, 114, 117, 101] else [102, 97, 108, 115, 101]))) []) := by
  refine DoesQ.eq (DoesQ.of Tryz.func83 (by kernel_rfl) ?_)
  have h : Does X 116 [vB b] [] (.ret (vS (mkB (if b = true then [116, 114, 117, 101] else [102, 97, 108, 115, 101]))) []) := by
    refine DoesQ.eq (DoesQ.of Tryz.func116 (by kernel_rfl) ?_)
    cases b with
    | true => exact WP.iteT rfl (WP.leaf rfl)
    | false => exact WP.iteF rfl (WP.leaf rfl)
  refine WP.use1 h ?_
  exact WP.leaf rfl
theorem lit_num {v : TVal} (h : litOk v = true) (hr : rgV v) (h1 : v.t = 1) : litP v = Lib.itoa v.i ∧ 0 ≤ v.i := by
  unfold litOk at h
  rw [if_pos h1] at h
  simp only [Bool.and_eq_true, decide_eq_true_eq] at h
  unfold litP
  rw [if_pos h1, if_pos ⟨h.1, hr⟩]
  exact ⟨rfl, h.1⟩
theorem lit_txt {v : TVal} (h : litOk v = true) (h1 : v.t ≠ 1) (h2 : v.t ≠ 2) : litP v = qtP v.s ∧ v.s.size ≤ 4096 := by
  unfold litOk at h
  rw [if_neg h1, if_neg h2] at h
  split at h
  · simp only [Bool.and_eq_true, decide_eq_true_eq] at h
    unfold litP
    rw [if_neg h1, if_neg h2]
    exact ⟨rfl, h.2.2⟩
  · cases h
theorem plit_does (hP : LibP X) (v : TVal) (h : litOk v = true) (hr : rgV v) : Does X 55 [.agg (vD v)] [] (.ret (vS (mkB (litP v))) []) := by
  refine DoesQ.eq (DoesQ.of Tryz.func55 (by kernel_rfl) ?_)
  refine WP.dec (fun h1 => ?_) (fun h1 => ?_)
  · obtain ⟨e, h2⟩ := lit_num h hr h1
    refine WP.use1 (Does.ext (hP.fmt v.i (by omega) hr)) ?_
    rw [e]; exact WP.leaf rfl
  refine WP.dec (fun h2 => ?_) (fun h2 => ?_)
  · refine WP.use1 (bool_does v.b) ?_
    unfold litP
    rw [if_neg h1, if_pos h2]; exact WP.leaf rfl
  · obtain ⟨e, h3⟩ := lit_txt h h1 h2
    refine WP.use1 (lquote v.s h3) ?_
    rw [e]; exact WP.leaf rfl
theorem rlit_does (hP : LibP X) (v : TVal) (h : litOk v = true) (hr : rgV v) : Does X 56 [.agg (vD v)] [] (.ret (vS (mkB (litP v))) []) := by
  refine DoesQ.eq (DoesQ.of Tryz.func56 (by kernel_rfl) ?_)
  refine WP.dec (fun h1 => ?_) (fun h1 => ?_)
  · obtain ⟨e, h2⟩ := lit_num h hr h1
    refine WP.use1 (Does.ext (hP.fmt v.i (by omega) hr)) ?_
    rw [e]; exact WP.leaf rfl
  refine WP.dec (fun h2 => ?_) (fun h2 => ?_)
  · have e : litP v = if v.b = true then [116, 114, 117, 101] else [102, 97, 108, 115, 101] := by
      unfold litP; rw [if_neg h1, if_pos h2]
    rw [e]
    refine WP.ite (fun h3 => ?_) (fun h3 => ?_)
    · rw [if_pos h3]; exact WP.leaf rfl
    · rw [if_neg (by rw [h3]; simp)]; exact WP.leaf rfl
  · obtain ⟨e, h3⟩ := lit_txt h h1 h2
    refine WP.use1 (rquote v.s h3) ?_
    rw [e]; exact WP.leaf rfl
/-! ### what is asked of literals' texts -/
theorem qtP_len (s : ByteArray) : (qtP s).length ≤ 2 + 4 * s.size := by
  have := enc_flat (L s)
  have hz := L_length s
  unfold qtP
  simp only [List.length_cons, List.length_append, List.length_nil]; omega
theorem qt_facts : QtFacts qtP := fun s _ => ⟨_, rfl⟩
theorem qt_len : QtLen qtP := fun s => qtP_len s
end
end Go.Proofs.YtaddhpeainliiaaGreatDoor.Id
/-! ## PrL -/
namespace Go.Proofs.YtaddhpeainliiaaGreatDoor.Id
open Go
set_option linter.unusedVariables false
set_option linter.unusedSimpArgs false
set_option maxRecDepth 100000
theorem dg_d : ∀ n : Fin 10, isD (UInt8.ofNat (48 + n.val)) = true := by decide
theorem dec_isD (u : Nat) : ∀ c ∈ Lib.decDigits u, isD c = true := by
  induction u using Nat.strongRecOn with
  | _ u ih =>
    intro c hc
    rw [Lib.decDigits] at hc
    split at hc
    · rename_i h
      rw [List.mem_singleton] at hc; subst hc
      exact dg_d ⟨u, h⟩
    · rename_i h
      rcases List.mem_append.1 hc with hc | hc
      · exact ih (u / 10) (by omega) c hc
      · rw [List.mem_singleton] at hc; subst hc
        exact dg_d ⟨u % 10, by omega⟩
theorem dec_ne (u : Nat) : Lib.decDigits u ≠ [] := fun h => by
  have h1 := Lib.decDigits_length u
  have h2 := Lib.nDigits_pos u
  rw [h] at h1; simp at h1; omega
theorem itoa_w {n : Int} (h : 0 ≤ n) : Wordy (Lib.itoa n) := by
  have e : Lib.itoa n = Lib.decDigits n.toNat := by unfold Lib.itoa; rw [if_neg (by omega)]
  rw [e]
  cases hd : Lib.decDigits n.toNat with
  | nil => exact absurd hd (dec_ne _)
  | cons c r =>
    have := dec_isD n.toNat c (by rw [hd]; simp)
    show isW c = true
    unfold isW; rw [this, Bool.or_true]
theorem lit_facts : LitFacts litP := fun v h => by
  have hw : ∀ s, Wordy s → s ≠ [] ∧ s ≠ [123] ∧ s ≠ [40] ∧ s ≠ [125] ∧ s ≠ [41] := fun s h => ⟨h.ne, h.br⟩
  unfold litP
  split
  · split
    · rename_i h; exact hw _ (itoa_w h.1)
    · decide
  · split
    · split <;> decide
    · unfold qtP; simp
theorem lit_len : LitLen litP := fun v => by
  unfold litP
  split
  · split
    · rename_i h
      have := Lib.itoa_length_le v.i (by omega) h.2
      omega
    · simp; omega
  · split
    · split <;> (simp; omega)
    · have := qtP_len v.s; omega
mutual
def rgE : TExpr → Prop
  | .mk k a of nm v op kids => rgV v ∧ rgEs kids
def rgEs : List TExpr → Prop
  | [] => True
  | x :: r => rgE x ∧ rgEs r
end
theorem rgEs_mem : ∀ {l : List TExpr} {e : TExpr}, rgEs l → e ∈ l → rgE e
  | x :: r, e, h, he => by
    rw [rgEs] at h
    rcases List.mem_cons.1 he with rfl | he
    · exact h.1
    · exact rgEs_mem h.2 he
section
variable {X : Given}
/-- an expression is written by the program -/
def ExprOK (X : Given) (e : TExpr) : Prop := ∀ (b : Bool) (p : PSt), Fr b p → Pg p → Bd (wE litP e p) → Does X 50 [.box base 0, .agg (eD e)] [pV b p] (.ret (.tuple []) [pW (wE litP e p)])
theorem isWord_ne {s : ByteArray} (h : isWord s = true) : L s ≠ [] := (word_hd h).ne
theorem isWord_br {s : ByteArray} (h : isWord s = true) : L s ≠ [123] ∧ L s ≠ [125] ∧ L s ≠ [41] := let ⟨a, _, c, d⟩ := (word_hd h).br; ⟨a, c, d⟩
theorem Pg.word {p : PSt} (h : Pg p) {s : ByteArray} (hw : isWord s = true) : Pg (ptok (L s) p) := let ⟨_, c, d⟩ := isWord_br hw; h.any c d
theorem name_w (hP : LibP X) (e : TExpr) (h : namedOk e.of e.nm = true) (b : Bool) (p : PSt) (h0 : Fr b p) (hg : Pg p) (hB : Bd (wName (L e.of) (L e.nm) p)) : Does X 72 [.box base 0, .agg (eD e)] [pV b p] (.ret (.tuple []) [pW (wName (L e.of) (L e.nm) p)]) := by
  unfold namedOk at h
  simp only [Bool.and_eq_true, Bool.or_eq_true, decide_eq_true_eq] at h
  obtain ⟨hn, ho⟩ := h
  unfold wName at hB ⊢
  by_cases h1 : e.of = .empty
  · have e1 : L e.of = [] := by rw [h1]; rfl
    rw [if_pos e1] at hB ⊢
    have ht := tok_any hP b p h0 hg e.nm (isWord_ne hn) (fun _ => isWord_br hn) hB
    cases b
    all_goals
      refine DoesQ.eq (DoesQ.of Tryz.func72 (by kernel_rfl) ?_)
      refine WP.iteF (by rw [bytes_empty, decide_eq_true h1]; rfl) ?_
      refine WP.use1 ht ?_
      exact WP.leaf rfl
  · have ho := ho.resolve_left h1
    have e1 : ¬ L e.of = [] := isWord_ne ho
    rw [if_neg e1] at hB ⊢
    have b2 := hB.of (gw_tok (L e.nm) _)
    have b1 := b2.of (gw_tok [46] _)
    have ht := tok_any hP b p h0 hg e.of (isWord_ne ho) (fun _ => isWord_br ho) b1
    have hg1 := hg.word ho
    have ht2 := tok_lit hP _ hg1 [46] (by simp) b2
    have ht3 := tok_does hP _ (hg1.any (s := [46]) (by simp) (by simp)) e.nm (isWord_ne hn) hB
    cases b
    all_goals
      refine DoesQ.eq (DoesQ.of Tryz.func72 (by kernel_rfl) ?_)
      refine WP.iteT (by rw [bytes_empty, decide_eq_false h1]; rfl) ?_
      refine WP.use1 ht ?_
      refine WP.use1 ht2 ?_
      refine WP.use1 ht3 ?_
      exact WP.leaf rfl
theorem within_w (hP : LibP X) (e : TExpr) (hE : ExprOK X e) (hp : ∀ q, Pg q → Pg (wE litP e q)) (br : Bool) (b : Bool) (p : PSt) (h0 : Fr b p) (hg : Pg p) (hB : Bd (wIn br (wE litP e) p)) : Does X 76 [.box base 0, .agg (eD e), vB br] [pV b p] (.ret (.tuple []) [pW (wIn br (wE litP e) p)]) := by
  cases br with
  | true =>
    have b2 : Bd (wE litP e (ptok [40] p)) := Bd.of hB (gw_tok [41] _)
    have b1 := b2.of (gw_e e _)
    have ht := tok_any hP b p h0 hg (mkB [40]) (by rw [L_mkB]; simp) (fun _ => by rw [L_mkB]; decide) (by rw [L_mkB]; exact b1)
    rw [L_mkB] at ht
    have hg1 := hg.open (s := [40]) (.inr rfl)
    have hx := hE false _ (Fr.no _) hg1 b2
    have ht2 := tok_lit hP _ (hp _ hg1) [41] (by simp) hB
    cases b
    all_goals
      refine DoesQ.eq (DoesQ.of Tryz.func76 (by kernel_rfl) ?_)
      refine WP.iteT rfl ?_
      refine WP.use1 ht ?_
      refine WP.use1 hx ?_
      refine WP.iteT rfl ?_
      refine WP.use1 ht2 ?_
      exact WP.leaf rfl
  | false =>
    have hx := hE b p h0 hg hB
    cases b
    all_goals
      refine DoesQ.eq (DoesQ.of Tryz.func76 (by kernel_rfl) ?_)
      refine WP.iteF rfl ?_
      refine WP.use1 hx ?_
      refine WP.iteF rfl ?_
      exact WP.leaf rfl
theorem Pg.gapC {p : PSt} (h : Pg p) : Pg (pgap [32] (ptok [44] p)) := (h.any (s := [44]) (by simp) (by simp)).gap _
set_option maxHeartbeats 4000000 in
theorem args_w (hP : LibP X) (e : TExpr) (hk : e.kids.length ≤ 1000000000) (hE : ∀ x ∈ e.kids, ExprOK X x ∧ ∀ q, Pg q → Pg (wE litP x q)) (p9 : PSt) (hB9 : Bd p9) (K : Ex → St → Id.T Out) (Q : Out → Prop)
    (hK : Pg p9 → WP X (K (.exit 1) ⟨[(0, .box base 0)], [(base, pW p9)]⟩) Q) :
    ∀ (r p : List TExpr) (q : PSt), e.kids = p ++ r → wSeq (wEs litP r) (decide (p.length = 0)) q = p9 → Pg q → ∀ σ : St, getT σ.t 0 = .box base 0 → getT σ.t 33 = .d (.sl 10 (dsAll e.kids)) → getT σ.t 34 = vI (dsAll e.kids).length → getT σ.t 35 = vI p.length → getB σ.b base = some (pW q) → WP X (.loop (lp Tryz.f50 0) σ K) Q
  | r, p, q, h, hq, hg, σ, g0, g33, g34, g35, gb => by
    refine WP.round ⟨[(0, .box base 0), (33, .d (.sl 10 (dsAll e.kids))), (34, vI (dsAll e.kids).length), (35, vI p.length)], [(base, pW q)]⟩ ⟨⟨.inl g0.symm, .inl g33.symm, .inl g34.symm, .inl g35.symm, trivial⟩, ⟨WkB.box gb, trivial⟩⟩ ?_
    have hlen : e.kids.length = p.length + r.length := by rw [h]; simp
    cases r with
    | nil =>
      refine WP.iteF (by rw [dsAll_len]; simp at hlen; simp; omega) ?_
      rw [wEs, wSeq] at hq
      subst hq
      exact WP.leaf ⟨⟨[(0, .box base 0)], [(base, pW q)]⟩, ⟨⟨.inl rfl, trivial⟩, ⟨WkB.box rfl, trivial⟩⟩, hK hg⟩
    | cons y r =>
      simp only [List.length_cons] at hlen
      obtain ⟨hy, hyp⟩ := hE y (by rw [h]; simp)
      rw [wEs, wSeq] at hq
      have hnext : ∀ (q1 : PSt) (σ : St), Pg q1 → wSeq (wEs litP r) false (wE litP y q1) = p9 → getT σ.t 0 = .box base 0 → getT σ.t 33 = .d (.sl 10 (dsAll e.kids)) → getT σ.t 34 = vI (dsAll e.kids).length → getT σ.t 35 = vI (IntKind.i64.wrap ((p.length : Int) + 1)) → getB σ.b base = some (pW (wE litP y q1)) → WP X (.loop (lp Tryz.f50 0) σ K) Q := fun q1 σ hg1 hq1 g0 g33 g34 g35 gb => by
        refine args_w hP e hk hE p9 hB9 K Q hK r (p ++ [y]) _ (by rw [h]; simp) ?_ (hyp _ hg1) σ g0 g33 g34 ?_ gb
        · rw [decide_eq_false (by simp)]; exact hq1
        · rw [g35, wrapI (by omega) (by omega)]; simp
      have hgw : ∀ b z, Le z (wSeq (wEs litP r) b z) := fun b z => gw_seq _ (fun f hf => by
        rw [wEs_map] at hf
        obtain ⟨x, _, rfl⟩ := List.mem_map.1 hf
        exact gw_e x) b z
      refine WP.iteT (by rw [dsAll_len]; simp; omega) ?_
      refine WP.idx _ (by omega) (dsAll_get h) ?_
      by_cases hp : p.length = 0
      · rw [decide_eq_true hp, if_pos rfl] at hq
        refine WP.iteF (decide_eq_false (by omega)) ?_
        refine WP.use1 (hy false q (Fr.no q) hg ((hq ▸ hB9 : Bd _).of (hgw _ _))) ?_
        exact WP.leaf (hnext q _ hg hq rfl rfl rfl rfl rfl)
      · rw [decide_eq_false hp, if_neg (by simp)] at hq
        have b3 : Bd (wE litP y (pgap [32] (ptok [44] q))) := (hq ▸ hB9 : Bd _).of (hgw _ _)
        have b2 := b3.of (gw_e y _)
        have b1 := b2.of (gw_gap [32] _)
        refine WP.iteT (decide_eq_true (by omega)) ?_
        refine WP.use1 (tok_lit hP q hg [44] (by simp) b1) ?_
        refine WP.use1 (gap_lit hP [32] _ b2) ?_
        refine WP.use1 (hy false _ (Fr.no _) hg.gapC b3) ?_
        exact WP.leaf (hnext _ _ hg.gapC hq rfl rfl rfl rfl rfl)
theorem sgn_tok (op : Int) : sgnT op ≠ [] ∧ sgnT op ≠ [125] ∧ sgnT op ≠ [41] := let ⟨_, _, c, d⟩ := sgnT_br op; ⟨sgnT_ne op, c, d⟩
theorem sub_lv {v : Int} (h0 : 0 ≤ v) (h : v ≤ 1152921504606846976) : IntKind.i64.wrap (v - 1) = v - 1 := wrapI (by omega) (by omega)
end
end Go.Proofs.YtaddhpeainliiaaGreatDoor.Id
/-! ## PrLb -/
namespace Go.Proofs.YtaddhpeainliiaaGreatDoor.Id
open Go
set_option linter.unusedVariables false
set_option linter.unusedSimpArgs false
set_option maxRecDepth 100000
section
variable {X : Given}
set_option maxHeartbeats 8000000 in
theorem expr_w (hP : LibP X) : ∀ (n : Nat) (e : TExpr), SizeOf.sizeOf e < n → rightE e = true → smE e → rgE e → ExprOK X e
  | 0, e, h, _, _, _ => absurd h (Nat.not_lt_zero _)
  | n + 1, .mk k a of nm v op kids, hn, hr, hs, hv => fun b p h0 hg hB => by
    have hpg : ∀ x ∈ kids, ∀ q, Pg q → Pg (wE litP x q) := fun x hx q hq => by
      rw [rightE, Bool.and_eq_true] at hr
      obtain ⟨_, hi⟩ := expr_is lit_facts _ x (Nat.lt_succ_self _) (rightEs_mem hr.1 hx)
      exact hq.is hi
    have hkid : ∀ x ∈ kids, ExprOK X x := fun x hx => by
      rw [rightE, Bool.and_eq_true] at hr
      rw [smE] at hs
      rw [rgE] at hv
      exact expr_w hP n x (by have := List.sizeOf_lt_of_mem hx; simp at hn; omega) (rightEs_mem hr.1 hx) (smEs_mem hs.2.2.2 hx) (rgEs_mem hv.2 hx)
    rw [rightE, Bool.and_eq_true] at hr
    rw [smE] at hs
    rw [rgE] at hv
    obtain ⟨hrk, hr⟩ := hr
    rw [wE] at hB ⊢
    unfold rightN at hr
    unfold wNode at hB ⊢
    by_cases k1 : k = 1
    · subst k1
      rw [if_pos rfl] at hr hB ⊢
      simp only [Bool.and_eq_true] at hr
      obtain ⟨f0, f1, f2, f3, f4⟩ := lit_facts v hr.1
      have ht := tok_any hP b p h0 hg (mkB (litP v)) (by rw [L_mkB]; exact f0) (fun _ => by rw [L_mkB]; exact ⟨f1, f3, f4⟩) (by rw [L_mkB]; exact hB)
      rw [L_mkB] at ht
      cases b
      all_goals
        refine DoesQ.eq (DoesQ.of Tryz.func50 (by kernel_rfl) ?_)
        refine WP.iteT rfl ?_
        refine WP.use1 (plit_does hP v hr.1 hv.1) ?_
        refine WP.use1 ht ?_
        exact WP.leaf rfl
    by_cases k2 : k = 2
    · subst k2
      rw [if_neg (by decide), if_pos rfl] at hr hB ⊢
      simp only [Bool.and_eq_true] at hr
      have ht := name_w hP (.mk 2 a of nm v op kids) hr.1 b p h0 hg hB
      cases b
      all_goals
        refine DoesQ.eq (DoesQ.of Tryz.func50 (by kernel_rfl) ?_)
        refine WP.iteF rfl ?_
        refine WP.iteT rfl ?_
        refine WP.use1 ht ?_
        exact WP.leaf rfl
    by_cases k3 : k = 3
    · subst k3
      rw [if_neg (by decide), if_neg (by decide), if_pos rfl] at hr hB ⊢
      simp only [Bool.and_eq_true] at hr
      have hname : Is (wName (L of) (L nm)) (fun _ => rName (L of) (L nm)) (lt (L nm)) 0 := by
        have h := hr.1
        unfold namedOk at h
        simp only [Bool.and_eq_true, Bool.or_eq_true, decide_eq_true_eq] at h
        exact name_is (h.2.imp (fun e => by rw [e]; rfl) word_hd) (word_hd h.1)
      have b3 : Bd (wSeq (wEs litP kids) true (ptok [40] (wName (L of) (L nm) p))) := Bd.of hB (gw_tok [41] _)
      have b2 : Bd (ptok [40] (wName (L of) (L nm) p)) := b3.of (gw_seq _ (fun f hf => by
        rw [wEs_map] at hf
        obtain ⟨x, _, rfl⟩ := List.mem_map.1 hf
        exact gw_e x) _ _)
      have b1 := b2.of (gw_tok [40] _)
      have ht := name_w hP (.mk 3 a of nm v op kids) hr.1 b p h0 hg b1
      have hg1 : Pg (wName (L of) (L nm) p) := hg.is hname
      have ht2 := tok_lit hP _ hg1 [40] (by simp) b2
      have hg2 := hg1.open (s := [40]) (.inr rfl)
      cases b
      all_goals
        refine DoesQ.eq (DoesQ.of Tryz.func50 (by kernel_rfl) ?_)
        refine WP.iteF rfl ?_
        refine WP.iteF rfl ?_
        refine WP.iteT rfl ?_
        refine WP.use1 ht ?_
        refine WP.use1 ht2 ?_
        refine args_w hP (.mk 3 a of nm v op kids) hs.2.2.1 (fun x hx => ⟨hkid x hx, hpg x hx⟩) _ b3 _ _ (fun hg3 => ?_) kids [] _ rfl rfl hg2 _ rfl rfl rfl rfl rfl
        refine WP.use1 (tok_lit hP _ hg3 [41] (by simp) hB) ?_
        exact WP.leaf rfl
    by_cases k4 : k = 4
    · subst k4
      rw [if_neg (by decide), if_neg (by decide), if_neg (by decide), if_pos rfl] at hr hB ⊢
      simp only [Bool.and_eq_true, decide_eq_true_eq] at hr
      obtain ⟨_, _, _, _, h1⟩ := hr
      match kids, h1, hkid, hpg, hB with
      | [x], _, hkid, hpg, hB =>
        have hx := hkid x (by simp)
        have hxp := hpg x (by simp)
        obtain ⟨s0, s1, s2⟩ := sgn_tok op
        rw [wEs, wEs] at hB ⊢
        have hB : Bd (pshut (wIn (decide (x.k = 5)) (wE litP x) (popen (ptok (sgnT op) p)))) := hB
        have b3 : Bd (wIn (decide (x.k = 5)) (wE litP x) (popen (ptok (sgnT op) p))) := hB
        have b2 : Bd (popen (ptok (sgnT op) p)) := b3.of (gw_in (gw_e x) _ _)
        have b1 : Bd (ptok (sgnT op) p) := b2.of ⟨Nat.le_refl _, by show (ptok (sgnT op) p).most ≤ max (ptok (sgnT op) p).most ((ptok (sgnT op) p).lv + 1); omega⟩
        have ht := tok_any hP b p h0 hg (mkB (sgnT op)) (by rw [L_mkB]; exact s0) (fun _ => by rw [L_mkB]; exact ⟨(sgnT_br op).1, s1, s2⟩) (by rw [L_mkB]; exact b1)
        rw [L_mkB] at ht
        have hg1 : Pg (ptok (sgnT op) p) := hg.any s1 s2
        have ho := open_does (X := X) (ptok (sgnT op) p) (by have := hg1.lv; omega) b2
        have hg2 : Pg (popen (ptok (sgnT op) p)) := ⟨by show 0 ≤ (ptok (sgnT op) p).lv + 1; have := hg1.lv; omega, by show (ptok (sgnT op) p).lv + 1 ≤ max (ptok (sgnT op) p).most ((ptok (sgnT op) p).lv + 1); omega, hg1.tabs⟩
        have hw := within_w hP x hx hxp (decide (x.k = 5)) false _ (Fr.no _) hg2 b3
        have hg3 : Pg (wIn (decide (x.k = 5)) (wE litP x) (popen (ptok (sgnT op) p))) := by
          obtain ⟨_, hi⟩ := expr_is lit_facts _ x (Nat.lt_succ_self _) (rightEs_mem hrk (by simp))
          exact hg2.is (hi.br _)
        have hlv : (wIn (decide (x.k = 5)) (wE litP x) (popen (ptok (sgnT op) p))).lv ≤ 1152921504606846976 := Int.le_trans hg3.most b3.2
        have hsub := sub_lv hg3.lv hlv
        cases b
        all_goals
          refine DoesQ.eq (DoesQ.of Tryz.func50 (by kernel_rfl) ?_)
          refine WP.iteF rfl ?_
          refine WP.iteF rfl ?_
          refine WP.iteF rfl ?_
          refine WP.iteT rfl ?_
          refine WP.use1 (sign_does op) ?_
          refine WP.use1 ht ?_
          refine WP.use1 ho ?_
          refine WP.asrt (by kernel_rfl) ?_
          refine WP.idx (eD x) (by decide) (by show (dsAll [x])[Int.toNat 0]? = some (eD x); rw [dsAll1]; rfl) ?_
          refine WP.idx (eD x) (by decide) (by show (dsAll [x])[Int.toNat 0]? = some (eD x); rw [dsAll1]; rfl) ?_
          refine WP.use1 hw ?_
          repeat refine WP.asrt (by kernel_rfl) ?_
          refine WP.leaf ?_
          show Out.ret _ [pR _ _ _ _ (IntKind.i64.wrap ((wIn (decide (x.k = 5)) (wE litP x) (popen (ptok (sgnT op) p))).lv - 1)) _] = _
          rw [hsub]; rfl
    by_cases k5 : k = 5
    · subst k5
      rw [if_neg (by decide), if_neg (by decide), if_neg (by decide), if_neg (by decide), if_pos rfl] at hr hB ⊢
      simp only [Bool.and_eq_true, decide_eq_true_eq] at hr
      obtain ⟨_, _, _, _, h1⟩ := hr
      match kids, h1, hkid, hpg, hB with
      | [x, y], _, hkid, hpg, hB =>
        have hx := hkid x (by simp)
        have hxp := hpg x (by simp)
        have hy := hkid y (by simp)
        have hyp := hpg y (by simp)
        obtain ⟨s0, s1, s2⟩ := sgn_tok op
        rw [wEs, wEs, wEs] at hB ⊢
        have hpx : ∀ b q, Pg q → Pg (wIn b (wE litP x) q) := fun b q hq => by
          obtain ⟨_, hi⟩ := expr_is lit_facts _ x (Nat.lt_succ_self _) (rightEs_mem hrk (by simp))
          exact hq.is (hi.br _)
        have hmain : ∀ B1 : Bool, (decide (bnd x.k x.op < sgnN op) || (decide (sgnN op = 3) && decide (bnd x.k x.op = sgnN op))) = B1 → Bd (wIn (decide (bnd y.k y.op ≤ sgnN op)) (wE litP y) (pgap [32] (ptok (sgnT op) (pgap [32] (wIn B1 (wE litP x) p))))) →
            Does X 50 [.box base 0, .agg (eD (.mk 5 a of nm v op [x, y]))] [pV b p] (.ret (.tuple []) [pW (wIn (decide (bnd y.k y.op ≤ sgnN op)) (wE litP y) (pgap [32] (ptok (sgnT op) (pgap [32] (wIn B1 (wE litP x) p)))))]) := fun B1 hB1 hB => by
          have b4 : Bd (pgap [32] (ptok (sgnT op) (pgap [32] (wIn B1 (wE litP x) p)))) := hB.of (gw_in (gw_e y) _ _)
          have b3 := b4.of (gw_gap [32] _)
          have b2 := b3.of (gw_tok _ _)
          have b1 := b2.of (gw_gap [32] _)
          have w1 := within_w hP x hx hxp B1 b p h0 hg b1
          have hg1 := hpx B1 p hg
          have t2 := gap_lit hP [32] _ b2
          have t3 := tok_lit hP _ (hg1.gap [32]) (sgnT op) s0 b3
          have t4 := gap_lit hP [32] _ b4
          have hg4 := ((hg1.gap [32]).any (s := sgnT op) s1 s2).gap [32]
          have w5 := within_w hP y hy hyp (decide (bnd y.k y.op ≤ sgnN op)) false _ (Fr.no _) hg4 hB
          cases b
          all_goals
            refine DoesQ.eq (DoesQ.of Tryz.func50 (by kernel_rfl) ?_)
            refine WP.iteF rfl ?_
            refine WP.iteF rfl ?_
            refine WP.iteF rfl ?_
            refine WP.iteF rfl ?_
            refine WP.iteT rfl ?_
            refine WP.use1 (sign_does op) ?_
            refine WP.idx (eD x) (by decide) (by show (dsAll [x, y])[Int.toNat 0]? = some (eD x); rw [dsAll2]; rfl) ?_
            refine WP.use1 (binds_does x) ?_
            refine WP.idx (eD x) (by decide) (by show (dsAll [x, y])[Int.toNat 0]? = some (eD x); rw [dsAll2]; rfl) ?_
            by_cases c1 : bnd x.k x.op < sgnN op
            · rw [decide_eq_true c1, Bool.true_or] at hB1
              subst hB1
              refine WP.iteT (decide_eq_true c1) ?_
              refine WP.use1 w1 ?_
              refine WP.use1 t2 ?_
              refine WP.use1 t3 ?_
              refine WP.use1 t4 ?_
              refine WP.asrt (by kernel_rfl) ?_
              refine WP.idx (eD y) (by decide) (by show (dsAll [x, y])[Int.toNat 1]? = some (eD y); rw [dsAll2]; rfl) ?_
              refine WP.idx (eD y) (by decide) (by show (dsAll [x, y])[Int.toNat 1]? = some (eD y); rw [dsAll2]; rfl) ?_
              refine WP.use1 (binds_does y) ?_
              refine WP.use1 w5 ?_
              refine WP.asrt (by kernel_rfl) ?_
              exact WP.leaf rfl
            · rw [decide_eq_false c1, Bool.false_or] at hB1
              refine WP.iteF (decide_eq_false c1) ?_
              by_cases c2 : sgnN op = 3
              · rw [decide_eq_true c2, Bool.true_and] at hB1
                subst hB1
                refine WP.iteT (decide_eq_true c2) ?_
                refine WP.use1 w1 ?_
                refine WP.use1 t2 ?_
                refine WP.use1 t3 ?_
                refine WP.use1 t4 ?_
                refine WP.asrt (by kernel_rfl) ?_
                refine WP.idx (eD y) (by decide) (by show (dsAll [x, y])[Int.toNat 1]? = some (eD y); rw [dsAll2]; rfl) ?_
                refine WP.idx (eD y) (by decide) (by show (dsAll [x, y])[Int.toNat 1]? = some (eD y); rw [dsAll2]; rfl) ?_
                refine WP.use1 (binds_does y) ?_
                refine WP.use1 w5 ?_
                refine WP.asrt (by kernel_rfl) ?_
                exact WP.leaf rfl
              · rw [decide_eq_false c2, Bool.false_and] at hB1
                subst hB1
                refine WP.iteF (decide_eq_false c2) ?_
                refine WP.use1 w1 ?_
                refine WP.use1 t2 ?_
                refine WP.use1 t3 ?_
                refine WP.use1 t4 ?_
                refine WP.asrt (by kernel_rfl) ?_
                refine WP.idx (eD y) (by decide) (by show (dsAll [x, y])[Int.toNat 1]? = some (eD y); rw [dsAll2]; rfl) ?_
                refine WP.idx (eD y) (by decide) (by show (dsAll [x, y])[Int.toNat 1]? = some (eD y); rw [dsAll2]; rfl) ?_
                refine WP.use1 (binds_does y) ?_
                refine WP.use1 w5 ?_
                refine WP.asrt (by kernel_rfl) ?_
                exact WP.leaf rfl
        exact hmain _ rfl hB
    rw [if_neg k1, if_neg k2, if_neg k3, if_neg k4, if_neg k5] at hr
    cases hr
end
end Go.Proofs.YtaddhpeainliiaaGreatDoor.Id
