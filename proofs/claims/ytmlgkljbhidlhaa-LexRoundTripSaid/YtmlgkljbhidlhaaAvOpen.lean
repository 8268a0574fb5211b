/- A law's arguments, opened: what the given reading says of a value, as abstract data. -/
import Derived.Test.YtmlgkljbhidlhaaAvK
import Derived.OpenShut
import Derived.ChangeArms
import Derived.DataReads
import Derived.Carry
import Derived.SizedLaws
namespace Go.AV
open Go.RowKit

/-- Data of a type: a tree whose parts are of the parts' types; S: of sizes within reach. -/
inductive HasTyB (C : Cfg) (S : Bool) : TyE → AV → Prop
  | int {te : TyE} {k : IntKind} {n : Int} (h : te.kind = .int k) (hn : (Lit.int k n).wf = true) : HasTyB C S te (.int k n)
  | bool {te : TyE} {b : Bool} (h : te.kind = .bool) : HasTyB C S te (.bool b)
  | str {te : TyE} {l : List UInt8} (h : te.kind = .string) (hl : l.length ≤ maxLen) (hs : S = true → l.length ≤ reachBytes) : HasTyB C S te (.str l)
  | slice {te tl : TyE} {e : TypeId} {n : Nat} {f : Nat → AV} (h : te.kind = .slice e) (ht : tyOf C e = some tl) (hn : n ≤ maxLen) (hf : ∀ i, i < n → HasTyB C S tl (f i)) (hs : S = true → n * tl.bytes ≤ reachBytes) : HasTyB C S te (.seq tl.sh n f)
  | opaqueSlice {te : TyE} {e : TypeId} (h : te.kind = .slice e) (ht : tyOf C e = none) : HasTyB C S te .any
  | struct {te : TyE} {fs : List TypeId} {xs : List AV} (h : te.kind = .struct fs) (hl : xs.length = fs.length)
      (hx : ∀ (j : Nat) (e : TypeId) (tf : TyE), fs[j]? = some e → tyOf C e = some tf → HasTyB C S tf (xs.getD j .any)) : HasTyB C S te (.agg xs)
  | arr {te tl : TyE} {e : TypeId} {n : Nat} {f : Nat → AV} (h : te.kind = .arr n e) (ht : tyOf C e = some tl) (hf : ∀ i, HasTyB C S tl (f i)) : HasTyB C S te (.arr n f)

abbrev HasTy (C : Cfg) : TyE → AV → Prop := HasTyB C false

/-- The blocks that lay there before. -/
def Old (W : World) (k : Nat) : Prop := k < W.heap.size

theorem wf_inR {k : IntKind} {n : Int} (h : (Lit.int k n).wf = true) : InR k n := by
  unfold InR
  cases k <;> simp [Lit.wf, IntKind.wrap, IntKind.min, IntKind.max, IntKind.signed, IntKind.bits] at h ⊢ <;> (try split) <;> omega

section
variable {H : Type} {enc : TypeId × Value → H} {C : Cfg} {W : World} {sp : Nat → Bool} {held : Bool}

theorem cellsOf_ty (hT : TysOK C) {t : TypeId} {te : TyE} (ht : tyOf C t = some te) : C.P.cellsOf t = te.sh.size := by
  obtain ⟨d, i, z, hu, hi, hsz, _⟩ := (hT t te ht).info
  simp [Program.cellsOf, hi, hsz]

theorem getD_list {α : Type} (l : List α) (j : Nat) (d : α) (h : j < l.length) : l.getD j d = l[j] := by simp [h]

/-- A tree, part by part, out of its fields. -/
theorem leafs_of_fields {F : Nat → Prop} {w : World} : ∀ (ss : List Shape) (xs : List AV) (cs : List Value) (off : Nat), xs.length = ss.length →
    (∀ (i : Nat) (s : Shape), ss[i]? = some s → ∀ j, j < s.size → RepS w F (cs.getD (off + Shape.sizes (ss.take i) + j) undef) (leafAt s (xs.getD i .any) j)) →
    ∀ j, j < Shape.sizes ss → RepS w F (cs.getD (off + j) undef) (leafsAt ss xs j)
  | [], _, _, _, _, _, j, hj => by simp [Shape.sizes] at hj
  | s :: ss, [], _, _, hl, _, _, _ => by simp at hl
  | s :: ss, x :: xs, cs, off, hl, h, j, hj => by
    simp only [leafsAt]
    split
    · rename_i h1
      have := h 0 s rfl j h1
      simpa [Shape.sizes] using this
    · rename_i h1
      simp only [Shape.sizes] at hj
      have := leafs_of_fields ss xs cs (off + s.size) (by simpa using hl) (fun i s' hs j hj => by
        have := h (i + 1) s' (by simpa using hs) j hj
        simp only [List.take_succ_cons, Shape.sizes, List.getD_cons_succ] at this
        rw [show off + s.size + Shape.sizes (ss.take i) + j = off + (s.size + Shape.sizes (ss.take i)) + j from by omega]
        exact this) (j - s.size) (by omega)
      rw [show off + s.size + (j - s.size) = off + j from by omega] at this
      exact this

theorem weights_all {P : Program} {e : TypeId} : ∀ {l : List (DataW H)} {i : Nat} {d : DataW H}, l[i]? = some d → ∀ n ∈ d.weights P e, n ∈ DataW.weightsAll P e l
  | [], _, _, h, _, _ => by simp at h
  | d :: l, 0, d', h, n, hn => by simp at h; subst h; simp [DataW.weightsAll, hn]
  | d :: l, i + 1, d', h, n, hn => by simp only [DataW.weightsAll, List.mem_append]; exact .inr (weights_all (by simpa using h) n hn)

theorem open_tree {S : Bool} (hT : TysOK C) : ∀ (fuel : Nat) (t : TypeId) (te : TyE) (cs : List Value) (x : DataW H × List MemPlace), tyOf C t = some te → DataW.trod enc C.P W 0 sp held fuel t cs = some x → (match te.kind with | .other => False | _ => True) →
    (∀ t te, tyOf C t = some te → (match te.kind with | .other => False | _ => True)) → (S = true → ∀ n ∈ x.1.weights C.P t, n ≤ reachBytes) →
    ∃ y, HasTyB C S te y ∧ cs.length = te.sh.size ∧ ∀ j, j < te.sh.size → RepS W (Old W) (cs.getD j undef) (leafAt te.sh y j) := by
  intro fuel
  induction fuel with
  | zero => intro t te cs x _ h; simp [DataW.trod] at h
  | succ fuel ih =>
    intro t te cs x ht h ho hno hw
    have hcells := cellsOf_ty hT ht
    obtain ⟨d, i, z, hu, hi, hsz, _, _, _, hk, _⟩ := (hT t te ht).info
    cases hkd : te.kind with
    | other => rw [hkd] at ho; exact ho.elim
    | int k =>
      rw [hkd] at hk
      obtain ⟨rfl, hs⟩ := hk
      obtain ⟨n, rfl, rfl, hwf⟩ := DataW.trod_int hu h
      refine ⟨.int k n, .int hkd hwf, by rw [hs]; rfl, fun j hj => ?_⟩
      rw [hs] at hj ⊢
      obtain rfl : j = 0 := by simp [Shape.size] at hj; exact hj
      exact .int k n (wf_inR hwf)
    | bool =>
      rw [hkd] at hk
      obtain ⟨rfl, hs⟩ := hk
      obtain ⟨b, rfl, rfl⟩ := DataW.trod_bool hu h
      refine ⟨.bool b, .bool hkd, by rw [hs]; rfl, fun j hj => ?_⟩
      rw [hs] at hj ⊢
      obtain rfl : j = 0 := by simp [Shape.size] at hj; exact hj
      exact .bool b
    | string =>
      rw [hkd] at hk
      obtain ⟨rfl, hs⟩ := hk
      obtain ⟨s, rfl, rfl, hm⟩ := DataW.trod_string hu h
      refine ⟨.str s.data.toList, .str hkd (by simpa using hm) (fun hS => hw hS _ (by simp [DataW.weights])), by rw [hs]; rfl, fun j hj => ?_⟩
      rw [hs] at hj ⊢
      obtain rfl : j = 0 := by simp [Shape.size] at hj; exact hj
      exact .str s
    | slice e =>
      rw [hkd] at hk
      obtain ⟨rfl, hs⟩ := hk
      have one : ∀ (v : Value) (y : AV), y.isOne = true → RepS W (Old W) v y → ∀ j, j < te.sh.size → RepS W (Old W) ([v].getD j undef) (leafAt te.sh y j) := by
        intro v y h1 h2 j hj
        rw [hs] at hj ⊢
        obtain rfl : j = 0 := by simp [Shape.size] at hj; exact hj
        simpa [leafAt, asLeaf, h1] using h2
      cases hte : tyOf C e with
      | none =>
        rcases DataW.trod_slice hu h with ⟨rfl, _⟩ | ⟨a, len, cap, elems, rest, n, _, rfl, _⟩
        · exact ⟨.any, .opaqueSlice hkd hte, by rw [hs]; rfl, one _ _ rfl (.any _ rfl)⟩
        · exact ⟨.any, .opaqueSlice hkd hte, by rw [hs]; rfl, one _ _ rfl (.any _ rfl)⟩
      | some tl =>
        rcases DataW.trod_slice hu h with ⟨rfl, _⟩ | ⟨a, len, cap, elems, rest, n, hn, rfl, rfl, hb, hl, hm, hlen, hel, hsp, hns⟩
        · exact ⟨.seq tl.sh 0 fun _ => .any, .slice hkd hte (Nat.zero_le _) (fun i hi => by omega) (fun _ => by simp), by rw [hs]; rfl, one _ _ rfl (.seq0 _ _ _ _)⟩
        · obtain rfl : fuel = n := by omega
          have hce := cellsOf_ty hT hte
          have each : ∀ i, ∃ y, i < len → HasTyB C S tl y ∧ ∃ cs' : List Value, (∀ j, j < tl.sh.size → W.cell? ((a.add (i * tl.sh.size)).add j) = some (cs'.getD j undef)) ∧ ∀ j, j < tl.sh.size → RepS W (Old W) (cs'.getD j undef) (leafAt tl.sh y j) := by
            intro i
            by_cases hi : i < len
            · have h1 := hel i hi
              have h2 : elems[i]? = some elems[i] := by simp [show i < elems.length by omega]
              rw [h2, hce, Option.bind_eq_some_iff] at h1
              obtain ⟨cs', hc1, hc2⟩ := h1
              obtain ⟨_, hc3, hc4⟩ := World.cells?_some hc1
              obtain ⟨y, hy1, hy2, hy3⟩ := ih e tl cs' _ hte hc2 (hno _ _ hte) hno fun hS n hn => hw hS n (by
                simp only [DataW.weights, hu, List.mem_cons, List.mem_append]
                exact .inr (.inl (weights_all (i := i) (by simp [h2]) n hn)))
              exact ⟨y, fun _ => ⟨hy1, cs', fun j hj => by rw [hc4 j hj]; simp [show j < cs'.length by omega], hy3⟩⟩
            · exact ⟨.any, fun h => absurd h hi⟩
          obtain ⟨f, hf⟩ := Classical.skolem.1 each
          refine ⟨.seq tl.sh len f, .slice hkd hte (by omega) (fun i hi => (hf i hi).1) (fun hS => ?_), by rw [hs]; rfl, one _ _ rfl ?_⟩
          · have h1 := hw hS ((elems.length + rest.length) * C.P.bytesOf e) (by simp [DataW.weights, hu])
            have h2 : C.P.bytesOf e = tl.bytes := by
              obtain ⟨d2, i2, z2, _, hi2, _, hb2, _⟩ := (hT e tl hte).info
              simp [Program.bytesOf, hi2, hb2]
            rw [h2, hlen] at h1
            exact Nat.le_trans (Nat.mul_le_mul_right _ (Nat.le_add_right _ _)) h1
          have hpos := (hT e tl hte).pos
          cases len with
          | zero => exact .seq0 _ _ _ _
          | succ len =>
            have h0 : ∃ cs' : List Value, (∀ j, j < tl.sh.size → W.cell? ((a.add (0 * tl.sh.size)).add j) = some (cs'.getD j undef)) := ⟨_, (hf 0 (by omega)).2.choose_spec.1⟩
            obtain ⟨cs0, hc0⟩ := h0
            have hc := hc0 0 hpos
            obtain ⟨g, o, spot⟩ := a
            have hspot : spot = none := by
              cases spot with
              | none => rfl
              | some s => simp [Addr.add, World.cell?] at hc; split at hc <;> simp_all
            subst hspot
            have hF : Old W g := by
              unfold Old
              by_cases hg : g < W.heap.size
              · exact hg
              · simp [Addr.add, World.cell?, show W.heap[g]? = none by simp; omega] at hc
            have hch : ∀ i, ∃ cs' : List Value, i < len + 1 → (∀ j, j < tl.sh.size → W.cell? (((⟨g, o, none⟩ : Addr).add (i * tl.sh.size)).add j) = some (cs'.getD j undef)) ∧ ∀ j, j < tl.sh.size → RepS W (Old W) (cs'.getD j undef) (leafAt tl.sh (f i) j) := by
              intro i
              by_cases hi : i < len + 1
              · obtain ⟨_, cs', h1, h2⟩ := hf i hi
                exact ⟨cs', fun _ => ⟨h1, h2⟩⟩
              · exact ⟨[], fun h => absurd h hi⟩
            obtain ⟨css, hcss⟩ := Classical.skolem.1 hch
            refine .seq g o (len + 1) cap tl.sh f (fun i j => (css i).getD j undef) hF hl (fun i hi j hj => ?_) fun i hi j hj => (hcss i hi).2 j hj
            have := (hcss i hi).1 j hj
            have ea : ((⟨g, o, none⟩ : Addr).add (i * tl.sh.size)).add j = ⟨g, o + (i * tl.sh.size + j), none⟩ := by
              by_cases h1 : i * tl.sh.size = 0 <;> by_cases h2 : j = 0 <;> simp [Addr.add, h1, h2, Nat.add_assoc]
            rw [ea] at this
            exact this
    | struct fs =>
      rw [hkd] at hk
      obtain ⟨fields, ss, rfl, hs, hlen, hfs, hfield⟩ := hk
      obtain ⟨xs, n, hn, rfl, hcl, hxl, hx⟩ := DataW.trod_struct hu h
      obtain rfl : fuel = n := by omega
      have hfl : fields.size = fs.length := by rw [hfs]; simp
      have hfi : ∀ (i : Nat) (h : i < fields.size), fs[i]? = some fields[i].type := by intro i h; rw [hfs]; simp [h]
      have each : ∀ i, ∃ y, i < fs.length → ∀ (e : TypeId) (tf : TyE), fs[i]? = some e → tyOf C e = some tf → HasTyB C S tf y ∧ ∀ j, j < tf.sh.size → RepS W (Old W) (cs.getD (Shape.sizes (ss.take i) + j) undef) (leafAt tf.sh y j) := by
        intro i
        by_cases hi : i < fs.length
        · have hif : fields[i]? = some fields[i] := by simp [show i < fields.size by omega]
          obtain ⟨tf, ht1, ht2, ht3, _⟩ := hfield i _ hif
          have h1 := hx i fields[i] (by simp)
          have h2 : xs[i]? = some xs[i] := by simp [show i < xs.length by omega]
          rw [h2, cellsOf_ty hT ht1] at h1
          obtain ⟨y, hy1, hy2, hy3⟩ := ih _ tf _ _ ht1 h1 (hno _ _ ht1) hno fun hS n hn => hw hS n (by
            simp only [DataW.weights, hu]
            exact DataW.weights_mem_each (j := i) (t := fields[i].type) (d := xs[i].1) (by simp [show i < fields.size by omega]) (by simp [show i < xs.length by omega]) n hn)
          refine ⟨y, fun _ e tf' he htf => ?_⟩
          have he' : e = fields[i].type := by
            rw [hfs, List.getElem?_map] at he
            simp [show i < fields.size by omega] at he
            exact he.symm
          subst he'
          rw [ht1] at htf
          cases htf
          refine ⟨hy1, fun j hj => ?_⟩
          have := hy3 j hj
          rw [List.getD_eq_getElem?_getD, List.getElem?_take_of_lt hj, List.getElem?_drop, ht3, ← List.getD_eq_getElem?_getD] at this
          exact this
        · exact ⟨.any, fun h => absurd h hi⟩
      obtain ⟨f, hf⟩ := Classical.skolem.1 each
      refine ⟨.agg ((List.range fs.length).map f), .struct hkd (by simp) (fun j e tf hj he => ?_), by rw [hcl, hcells], fun j hj => ?_⟩
      · have hjl := (List.getElem?_eq_some_iff.1 hj).1
        have := (hf j hjl e tf hj he).1
        simpa [hjl] using this
      · rw [hs] at hj ⊢
        simp only [leafAt]
        have := leafs_of_fields (F := Old W) (w := W) ss ((List.range fs.length).map f) cs 0 (by simp [hlen]) (fun i s hi j hj => ?_) j (by simpa [Shape.size] using hj)
        · simpa using this
        · have hil := (List.getElem?_eq_some_iff.1 hi).1
          have hif : fields[i]? = some fields[i] := by simp [show i < fields.size by omega]
          obtain ⟨tf, ht1, ht2, ht3, _⟩ := hfield i _ hif
          rw [hi] at ht2
          cases ht2
          have := (hf i (by omega) fields[i].type tf (hfi i (by omega)) ht1).2 j hj
          simpa [show i < fs.length by omega] using this
    | arr n e =>
      rw [hkd] at hk
      obtain ⟨rfl, tl, hte, hs⟩ := hk
      obtain ⟨xs, m, hm, rfl, hcl, hxl, hx⟩ := DataW.trod_array hu h
      obtain rfl : fuel = m := by omega
      have hce := cellsOf_ty hT hte
      have hpos := (hT e tl hte).pos
      have hpos' := (hT t te ht).pos
      rw [hs] at hpos'
      have hn0 : 0 < n := by
        rcases Nat.eq_zero_or_pos n with h | h
        · subst h; simp [Shape.size] at hpos'
        · exact h
      have each : ∀ i, ∃ y, HasTyB C S tl y ∧ (i < n → ∀ j, j < tl.sh.size → RepS W (Old W) (cs.getD (i * tl.sh.size + j) undef) (leafAt tl.sh y j)) := by
        intro i
        have one : ∀ k, k < n → ∃ y, HasTyB C S tl y ∧ ∀ j, j < tl.sh.size → RepS W (Old W) (cs.getD (k * tl.sh.size + j) undef) (leafAt tl.sh y j) := by
          intro k hk
          have h1 := hx k hk
          have h2 : xs[k]? = some xs[k] := by simp [show k < xs.length by omega]
          rw [h2, hce] at h1
          obtain ⟨y, hy1, hy2, hy3⟩ := ih e tl _ _ hte h1 (hno _ _ hte) hno fun hS n hn => hw hS n (by
            simp only [DataW.weights, hu]
            exact weights_all (i := k) (by simp [h2]) n hn)
          refine ⟨y, hy1, fun j hj => ?_⟩
          have := hy3 j hj
          rw [List.getD_eq_getElem?_getD, List.getElem?_take_of_lt hj, List.getElem?_drop, ← List.getD_eq_getElem?_getD] at this
          exact this
        by_cases hi : i < n
        · obtain ⟨y, h1, h2⟩ := one i hi
          exact ⟨y, h1, fun _ => h2⟩
        · obtain ⟨y, h1, _⟩ := one 0 hn0
          exact ⟨y, h1, fun h => absurd h hi⟩
      obtain ⟨f, hf⟩ := Classical.skolem.1 each
      refine ⟨.arr n f, .arr hkd hte (fun i => (hf i).1), by rw [hcl, hcells], fun j hj => ?_⟩
      rw [hs] at hj ⊢
      simp only [leafAt, Shape.size] at hj ⊢
      refine .st ?_
      have hdiv : j / tl.sh.size < n := (Nat.div_lt_iff_lt_mul hpos).2 hj
      have := (hf (j / tl.sh.size)).2 hdiv (j % tl.sh.size) (Nat.mod_lt _ hpos)
      rw [Nat.mul_comm, Nat.div_add_mod] at this
      exact this
end
end Go.AV
