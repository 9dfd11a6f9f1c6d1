/- A symbolic executor for Go code in the model, proved sound for any program: the table of a program, the executor as the kernel runs it, known calls, listed variables. No condition. -/
import Derived.Test.YtefmckneohhijaaGreatDoorHExG
import Derived.ChangeKeysEq
import Derived.Laws.StructEq
import Derived.WideKeyElems2
import Derived.Deep.Slices
namespace Go.Ex
open Go Go.RowKit

/-! ### Types -/
def ofValues : List Value → Option (List AV)
  | [] => some []
  | v :: l => match AV.ofValue v, ofValues l with
    | some a, some r => some (a :: r)
    | _, _ => none

theorem ofValues_den : ∀ {l : List Value} {r : List AV}, ofValues l = some r → AV.dens [] r = some l
  | [], r, h => by cases h; rfl
  | v :: l, r, h => by
    simp only [ofValues] at h
    split at h
    · rename_i a r' ha hr
      cases h
      simp only [AV.dens, AV.ofValue_den ha, ofValues_den hr]
    · cases h

def allOne : List Value → Bool
  | [] => true
  | v :: l => isOne v && allOne l

theorem allOne_ok : ∀ {l : List Value}, allOne l = true → ∀ v ∈ l, isOne v = true
  | [], _, v, hv => by cases hv
  | x :: l, h, v, hv => by
    simp only [allOne, Bool.and_eq_true] at h
    rcases List.mem_cons.1 hv with rfl | hv
    · exact h.1
    · exact allOne_ok h.2 v hv

def tiOf (P : Program) (t : Nat) : Option TI :=
  match P.underlying t, P.info? t with
  | some d, some i => match i.zero with
    | some z => match ofValues z.cells.toList with
      | some l => match allOne z.cells.toList && l.length.beq i.size with
        | true => some { desc := d, size := i.size, bytes := i.bytes, zero := l, plain := isOne z }
        | false => none
      | none => none
    | none => none
  | _, _ => none

theorem tiOf_ok {P : Program} {t : Nat} {ti : TI} (h : tiOf P t = some ti) : TyOk P t ti := by
  unfold tiOf at h
  split at h
  · rename_i d i hd hi
    split at h
    · rename_i z hz
      split at h
      · rename_i l hl
        split at h
        · rename_i hc
          cases h
          simp only [Bool.and_eq_true] at hc
          exact ⟨hd, ⟨i, z, hi, rfl, hz, ofValues_den hl, allOne_ok hc.1, fun h => h⟩, Nat.eq_of_beq_eq_true hc.2, fun info h => by rw [hi] at h; cases h; rfl⟩
        · cases h
      · cases h
    · cases h
  · cases h

/-! ### Comparisons -/
def rep {α : Type} : Nat → List α → List α
  | 0, _ => []
  | n + 1, l => l ++ rep n l

def eqFs (P : Program) (f : Nat → Option (List CK)) : List Field → Nat → Option (List CK)
  | [], _ => some []
  | x :: l, off => match x.name == "_", x.offset.beq off, f x.type with
    | false, true, some ks => match (P.cellsOf x.type).beq ks.length, eqFs P f l (off + ks.length) with
      | true, some r => some (ks ++ r)
      | _, _ => none
    | _, _, _ => none

def eqKs (P : Program) : Nat → Nat → Option (List CK)
  | 0, _ => none
  | d + 1, t => match P.underlying t with
    | some (.int k) => some [.int k]
    | some .string => some [.str]
    | some .bool => some [.bool]
    | some (.array n e) => match eqKs P d e with
      | some ks => match (P.cellsOf e).beq ks.length with
        | true => some (rep n ks)
        | false => none
      | none => none
    | some (.struct fs) => match P.stoodInHeld t with
      | false => eqFs P (eqKs P d) fs.toList 0
      | true => none
    | _ => none

/-- The value of a type out of its cells. -/
def tv (P : Program) (t : Nat) (cs : List Value) : Value :=
  match P.underlying t with
  | some (.struct _) | some (.array _ _) => .agg cs.toArray
  | _ => cs.headD undef

theorem okCells_length : ∀ {ks : List CK} {xs : List Value}, okCells ks xs = true → xs.length = ks.length
  | [], [], _ => rfl
  | k :: ks, x :: xs, h => by
    simp only [okCells, Bool.and_eq_true] at h
    simp [okCells_length h.2]
  | [], _ :: _, h => by cases h
  | _ :: _, [], h => by cases h

theorem okCells_append : ∀ {ks ks' : List CK} {xs : List Value}, okCells (ks ++ ks') xs = true → okCells ks (xs.take ks.length) = true ∧ okCells ks' (xs.drop ks.length) = true
  | [], ks', xs, h => ⟨by simp [okCells], by simpa using h⟩
  | k :: ks, ks', [], h => by cases h
  | k :: ks, ks', x :: xs, h => by
    simp only [List.cons_append, okCells, Bool.and_eq_true] at h
    obtain ⟨h1, h2⟩ := okCells_append h.2
    exact ⟨by simp [okCells, h.1, h1], by simpa using h2⟩

theorem eqAll_append : ∀ {a b c d : List Value}, a.length = b.length → eqAll (a ++ c) (b ++ d) = (eqAll a b && eqAll c d)
  | [], [], c, d, _ => by simp [eqAll]
  | x :: a, y :: b, c, d, h => by
    simp only [List.cons_append, eqAll]
    rw [eqAll_append (by simpa using h), Bool.and_assoc]
  | [], _ :: _, _, _, h => by cases h
  | _ :: _, [], _, _, h => by cases h

def EqT (P : Program) (d t : Nat) (ks : List CK) : Prop :=
  ∀ (w : World) (xs ys : List Value), okCells ks xs = true → okCells ks ys = true → (Op.equalIn d t (tv P t xs) (tv P t ys)).run P w = .ok (eqAll xs ys) w

theorem run_part_tv {P : Program} (w : World) {t : Nat} {d : TypeDesc} (hd : P.underlying t = some d) {xs : Array Value} {off : Nat} (hlen : off + P.cellsOf t ≤ xs.size) (hone : tyAgg d = false → P.cellsOf t = 1) :
    (part t xs off).run P w = .ok (tv P t ((xs.toList.drop off).take (P.cellsOf t))) w := by
  obtain ⟨i, hi⟩ := info_of_underlying hd
  unfold part isAgg tv
  have hscal : tyAgg d = false → ∃ v, xs[off]? = some v ∧ (xs.toList.drop off).take (P.cellsOf t) = [v] := fun h => by
    have h1 := hone h
    have hlt : off < xs.size := by omega
    refine ⟨xs[off], Array.getElem?_eq_getElem hlt, ?_⟩
    rw [h1]
    rw [List.drop_eq_getElem_cons (by simpa using hlt)]
    simp
  have hagg : (xs.extract off (off + P.cellsOf t)) = ((xs.toList.drop off).take (P.cellsOf t)).toArray := by
    apply Array.ext'
    rw [Array.toList_extract]
    simp [List.extract]
  cases d with
  | struct fs => simp [run_underlying hd, hd, run_sizeOf w hi, hagg]
  | array n e => simp [run_underlying hd, hd, run_sizeOf w hi, hagg]
  | _ =>
    obtain ⟨v, hv, hl⟩ := hscal rfl
    simp [run_underlying hd, hd, hv, hl]

theorem eqFs_ok {P : Program} {d : Nat} {f : Nat → Option (List CK)} (hf : ∀ t ks, f t = some ks → EqT P d t ks ∧ ∃ td, P.underlying t = some td ∧ (tyAgg td = false → ks.length = 1)) (w : World) (xs ys : Array Value) : ∀ (l : List Field) (off : Nat) (ks : List CK),
    eqFs P f l off = some ks → off + ks.length ≤ xs.size → off + ks.length ≤ ys.size → okCells ks ((xs.toList.drop off).take ks.length) = true → okCells ks ((ys.toList.drop off).take ks.length) = true →
    (Op.eqFields d xs ys l).run P w = .ok (eqAll ((xs.toList.drop off).take ks.length) ((ys.toList.drop off).take ks.length)) w
  | [], off, ks, h, _, _, _, _ => by
    cases h
    simp [Op.eqFields, eqAll]
  | x :: l, off, ks, h, hx, hy, ox, oy => by
    simp only [eqFs] at h
    split at h
    · rename_i ks1 hn ho hk
      split at h
      · rename_i r hc hr
        cases h
        have ho := Nat.eq_of_beq_eq_true ho
        have hc := Nat.eq_of_beq_eq_true hc
        obtain ⟨hE, td, htd, hone⟩ := hf _ _ hk
        have hn' : x.name ≠ "_" := by simpa using hn
        simp only [List.length_append] at hx hy ox oy ⊢
        obtain ⟨ox1, ox2⟩ := okCells_append ox
        obtain ⟨oy1, oy2⟩ := okCells_append oy
        have tk : ∀ (zs : List Value), ((zs.drop off).take (ks1.length + r.length)).take ks1.length = (zs.drop off).take ks1.length := fun zs => by
          rw [List.take_take]; congr 1; omega
        have dk : ∀ (zs : List Value), ((zs.drop off).take (ks1.length + r.length)).drop ks1.length = (zs.drop (off + ks1.length)).take r.length := fun zs => by
          rw [List.drop_take, List.drop_drop]; congr 1; omega
        rw [tk] at ox1 oy1
        rw [dk] at ox2 oy2
        have px := run_part_tv (P := P) w htd (xs := xs) (off := off) (by rw [hc]; omega) (fun h => hc.trans (hone h))
        have py := run_part_tv (P := P) w htd (xs := ys) (off := off) (by rw [hc]; omega) (fun h => hc.trans (hone h))
        rw [hc] at px py
        have he := hE w _ _ ox1 oy1
        have ih := eqFs_ok hf w xs ys l (off + ks1.length) r hr (by omega) (by omega) ox2 oy2
        have hsplit : ∀ (zs : List Value), (zs.drop off).take (ks1.length + r.length) = (zs.drop off).take ks1.length ++ (zs.drop (off + ks1.length)).take r.length := fun zs => by
          rw [← tk, ← dk, List.take_append_drop]
        rw [hsplit, hsplit, eqAll_append (by rw [okCells_length ox1, okCells_length oy1])]
        simp only [Op.eqFields, hn', ne_eq, not_false_eq_true, if_true, Sem.run_bind, ho, px, py, he, Result.andThen_ok]
        cases eqAll ((xs.toList.drop off).take ks1.length) ((ys.toList.drop off).take ks1.length)
        · simp
        · simpa using ih
      · cases h
    · cases h

theorem rep_length {α : Type} (n : Nat) (l : List α) : (rep n l).length = n * l.length := by
  induction n with
  | zero => simp [rep]
  | succ n ih => simp only [rep, List.length_append, ih, Nat.succ_mul]; omega

theorem eqItems_ok {P : Program} {d e : Nat} {ks : List CK} (hE : EqT P d e ks) {td : TypeDesc} (htd : P.underlying e = some td) (hone : tyAgg td = false → ks.length = 1) (hc : P.cellsOf e = ks.length) (w : World) (xs ys : Array Value) : ∀ (n j : Nat),
    (j + n) * ks.length ≤ xs.size → (j + n) * ks.length ≤ ys.size → okCells (rep n ks) ((xs.toList.drop (j * ks.length)).take (n * ks.length)) = true → okCells (rep n ks) ((ys.toList.drop (j * ks.length)).take (n * ks.length)) = true →
    (Op.eqItems d e (P.cellsOf e) xs ys (List.range' j n)).run P w = .ok (eqAll ((xs.toList.drop (j * ks.length)).take (n * ks.length)) ((ys.toList.drop (j * ks.length)).take (n * ks.length))) w
  | 0, j, _, _, _, _ => by simp [Op.eqItems, eqAll]
  | n + 1, j, hx, hy, ox, oy => by
    have hmul : (n + 1) * ks.length = ks.length + n * ks.length := by rw [Nat.succ_mul, Nat.add_comm]
    have hj : (j + 1) * ks.length = j * ks.length + ks.length := Nat.succ_mul _ _
    have hjn : (j + (n + 1)) * ks.length = j * ks.length + (ks.length + n * ks.length) := by rw [Nat.add_mul, hmul]
    have hjn' : (j + 1 + n) * ks.length = j * ks.length + (ks.length + n * ks.length) := by rw [Nat.add_mul, hj, Nat.add_assoc]
    rw [hmul] at ox oy ⊢
    simp only [rep] at ox oy
    obtain ⟨ox1, ox2⟩ := okCells_append ox
    obtain ⟨oy1, oy2⟩ := okCells_append oy
    have tk : ∀ (zs : List Value), ((zs.drop (j * ks.length)).take (ks.length + n * ks.length)).take ks.length = (zs.drop (j * ks.length)).take ks.length := fun zs => by
      rw [List.take_take]; congr 1; omega
    have dk : ∀ (zs : List Value), ((zs.drop (j * ks.length)).take (ks.length + n * ks.length)).drop ks.length = (zs.drop ((j + 1) * ks.length)).take (n * ks.length) := fun zs => by
      rw [List.drop_take, List.drop_drop, hj]; congr 1; omega
    rw [tk] at ox1 oy1
    rw [dk] at ox2 oy2
    have px := run_part_tv (P := P) w htd (xs := xs) (off := j * ks.length) (by rw [hc]; omega) (fun h => hc.trans (hone h))
    have py := run_part_tv (P := P) w htd (xs := ys) (off := j * ks.length) (by rw [hc]; omega) (fun h => hc.trans (hone h))
    rw [hc] at px py
    have he := hE w _ _ ox1 oy1
    have ih := eqItems_ok hE htd hone hc w xs ys n (j + 1) (by omega) (by omega) ox2 oy2
    have hsplit : ∀ (zs : List Value), (zs.drop (j * ks.length)).take (ks.length + n * ks.length) = (zs.drop (j * ks.length)).take ks.length ++ (zs.drop ((j + 1) * ks.length)).take (n * ks.length) := fun zs => by
      rw [← tk, ← dk, List.take_append_drop]
    rw [hsplit, hsplit, eqAll_append (by rw [okCells_length ox1, okCells_length oy1])]
    rw [List.range'_succ]
    rw [hc] at ih ⊢
    simp only [Op.eqItems, Sem.run_bind, px, py, he, Result.andThen_ok]
    cases eqAll ((xs.toList.drop (j * ks.length)).take ks.length) ((ys.toList.drop (j * ks.length)).take ks.length)
    · simp
    · simpa using ih

theorem eqKs_ok {P : Program} (D : Nat) : ∀ (d : Nat) (t : Nat) (ks : List CK), eqKs P d t = some ks → EqT P (D + d) t ks ∧ ∃ td, P.underlying t = some td ∧ (tyAgg td = false → ks.length = 1)
  | 0, _, _, h => by cases h
  | d + 1, t, ks, h => by
    unfold eqKs at h
    split at h
    · rename_i k hk
      cases h
      refine ⟨fun w xs ys ox oy => ?_, _, hk, fun _ => rfl⟩
      match xs, ys, okCells_length ox, okCells_length oy with
      | [x], [y], l1, l2 =>
        clear l1 l2
        simp only [okCells, Bool.and_true] at ox oy
        cases x <;> simp only [CK.of, Bool.false_eq_true] at ox
        cases y <;> simp only [CK.of, Bool.false_eq_true] at oy
        rename_i k1 a k2 b
        rw [← kindEqb_eq ox, ← kindEqb_eq oy]
        rw [show D + (d + 1) = (D + d) + 1 from rfl]
        simp [tv, hk, eqAll, eqOne, run_equalIn_int w (D + d) t k k a b hk]
    · rename_i hk
      cases h
      refine ⟨fun w xs ys ox oy => ?_, _, hk, fun _ => rfl⟩
      match xs, ys, okCells_length ox, okCells_length oy with
      | [x], [y], l1, l2 =>
        clear l1 l2
        simp only [okCells, Bool.and_true] at ox oy
        cases x <;> simp only [CK.of, Bool.false_eq_true] at ox
        cases y <;> simp only [CK.of, Bool.false_eq_true] at oy
        rename_i a b
        rw [show D + (d + 1) = (D + d) + 1 from rfl]
        simp [tv, hk, eqAll, eqOne, run_equalIn_string w (D + d) t a b hk]
    · rename_i hk
      cases h
      refine ⟨fun w xs ys ox oy => ?_, _, hk, fun _ => rfl⟩
      match xs, ys, okCells_length ox, okCells_length oy with
      | [x], [y], l1, l2 =>
        clear l1 l2
        simp only [okCells, Bool.and_true] at ox oy
        cases x <;> simp only [CK.of, Bool.false_eq_true] at ox
        cases y <;> simp only [CK.of, Bool.false_eq_true] at oy
        rename_i a b
        rw [show D + (d + 1) = (D + d) + 1 from rfl]
        simp [tv, hk, eqAll, eqOne, run_equalIn_bool w (D + d) t a b hk]
    · rename_i n e hk
      split at h
      · rename_i ks1 hks
        split at h
        · rename_i hc
          cases h
          have hc := Nat.eq_of_beq_eq_true hc
          obtain ⟨hE, td, htd, hone⟩ := eqKs_ok D d e ks1 hks
          refine ⟨fun w xs ys ox oy => ?_, _, hk, fun hx => by cases hx⟩
          obtain ⟨i, hi⟩ := info_of_underlying htd
          have lx := okCells_length ox
          have ly := okCells_length oy
          rw [rep_length] at lx ly
          have := eqItems_ok hE htd hone hc w xs.toArray ys.toArray n 0 (by simp; omega) (by simp; omega) (by simpa [← lx] using ox) (by simpa [← ly] using oy)
          simp only [tv, hk]
          rw [show D + (d + 1) = (D + d) + 1 from rfl, run_equalIn_array w (D + d) _ _ hk hi, List.range_eq_range', this]
          simp [← lx]
          rw [lx, ← ly]; simp
        · cases h
      · cases h
    · rename_i fs hk
      split at h
      · rename_i hst
        refine ⟨fun w xs ys ox oy => ?_, _, hk, fun hx => by cases hx⟩
        have lx := okCells_length ox
        have ly := okCells_length oy
        have hfs : P.fieldsOf t = fs := by simp [Program.fieldsOf, hk]
        have := eqFs_ok (fun t ks h => eqKs_ok D d t ks h) w xs.toArray ys.toArray fs.toList 0 ks h (by simp; omega) (by simp; omega) (by simpa [← lx] using ox) (by simpa [← ly] using oy)
        simp only [tv, hk]
        rw [show D + (d + 1) = (D + d) + 1 from rfl, run_equalIn_struct w (D + d) t _ _ (by rw [hfs]; exact hk) hst, hfs, this]
        simp [← lx]
        rw [lx, ← ly]; simp
      · cases h
    · cases h

def eqkOf (P : Program) (t : Nat) : Option (List CK) :=
  match P.underlying t with
  | some (.struct _) | some (.array _ _) => match P.eqGuardType P.depth t with
    | false => eqKs P 20 t
    | true => none
  | _ => none

/-! ### Functions -/
def enterB (P : Program) (f : Nat) : Bool :=
  match P.funcs[f]? with
  | some fn => fn.body.isSome && !(fn.name == "runtime.NumGoroutine")
  | none => false

theorem enterB_ok {P : Program} {f : Nat} (h : enterB P f = true) (args : Array Value) (w : World) : (callFunc f args).run P w = .ok (.enter f args) w := by
  unfold enterB at h
  split at h
  · rename_i fn hf
    simp only [Bool.and_eq_true, Bool.not_eq_true'] at h
    obtain ⟨h1, h2⟩ := h
    have h1' : fn.body.isNone = false := by cases hb : fn.body <;> simp_all
    simp only [callFunc, Sem.run_bind, run_program, Result.andThen_ok, hf, h2, h1', Bool.false_eq_true, if_false, Sem.run_pure]
  · cases h

def specAt : List (Nat × Spec) → Nat → Option Spec
  | [], _ => none
  | (g, s) :: l, f => match g.beq f with
    | true => some s
    | false => specAt l f

def gtabAt : List (Nat × List AV) → Nat → Option (List AV)
  | [], _ => none
  | (g, s) :: l, f => match g.beq f with
    | true => some s
    | false => gtabAt l f

def roAt : List (Nat × AO) → Nat → Option AO
  | [], _ => none
  | (g, s) :: l, f => match g.beq f with
    | true => some s
    | false => roAt l f

def memoIn : List (List AV × AV) → List AV → Option AV
  | [], _ => none
  | (a, r) :: l, args => match AV.eqbs a args with
    | true => some r
    | false => memoIn l args

theorem memoIn_mem : ∀ {l : List (List AV × AV)} {args : List AV} {r : AV}, memoIn l args = some r → (args, r) ∈ l
  | (a, q) :: l, args, r, h => by
    simp only [memoIn] at h
    split at h
    · rename_i he; cases h; rw [AV.eqbs_eq _ _ he]; exact List.mem_cons_self ..
    · exact List.mem_cons_of_mem _ (memoIn_mem h)

abbrev Memo := List (Nat × List (List AV × AV))

def memoAt : Memo → Nat → List AV → Option AV
  | [], _, _ => none
  | (g, l) :: m, f, args => match g.beq f with
    | true => match memoIn l args with
      | some r => some r
      | none => memoAt m f args
    | false => memoAt m f args

theorem memoAt_mem : ∀ {m : Memo} {f : Nat} {args : List AV} {r : AV}, memoAt m f args = some r → ∃ l, (f, l) ∈ m ∧ (args, r) ∈ l
  | (g, l) :: m, f, args, r, h => by
    simp only [memoAt] at h
    split at h
    · rename_i he
      have := Nat.eq_of_beq_eq_true he; subst this
      split at h
      · rename_i r' hr
        cases h
        exact ⟨l, List.mem_cons_self .., memoIn_mem hr⟩
      · obtain ⟨l', h1, h2⟩ := memoAt_mem h
        exact ⟨l', List.mem_cons_of_mem _ h1, h2⟩
    · obtain ⟨l', h1, h2⟩ := memoAt_mem h
      exact ⟨l', List.mem_cons_of_mem _ h1, h2⟩

/-- The table of a program. -/
def tabOf (P : Program) (specs : List (Nat × Spec)) (gs : List (Nat × List AV)) (a64 : Nat := 0) (ros : List (Nat × AO) := []) (rss : List (Nat × List AV) := []) (ms : Memo := []) : Tab where
  tys := tiOf P
  funs := fun f => match enterB P f with
    | true => P.funcs[f]?
    | false => none
  specs := fun f => match enterB P f with
    | true => specAt specs f
    | false => none
  gtab := gtabAt gs
  eqk := eqkOf P
  add64 := fun f => Nat.blt 0 a64 && f.beq a64
  ro := roAt ros
  rs := gtabAt rss
  memo := memoAt ms

theorem tabOf_specs (P : Program) (gs : List (Nat × List AV)) (a64 : Nat) (ros : List (Nat × AO)) (rss : List (Nat × List AV)) (ms : Memo) (f : Nat) : (tabOf P [] gs a64 ros rss ms).specs f = none := by
  simp only [tabOf, specAt]
  split <;> rfl

theorem tabOf_ok {P : Program} {specs : List (Nat × Spec)} {gs : List (Nat × List AV)} {a64 : Nat} {ros : List (Nat × AO)} {rss : List (Nat × List AV)} {ms : Memo} {w0 : World} {S : Sy} {e0 : Env}
    (h64 : 0 < a64 → ∀ (x y : Int) (w : World), 0 ≤ x → x < 18446744073709551616 → 0 ≤ y → y < 18446744073709551616 →
      (callFunc a64 #[.int .u64 x, .int .u64 y, .int .u64 0]).run P w = .ok (.value (.tuple #[.int .u64 ((x + y) % 18446744073709551616), .int .u64 ((x + y) / 18446744073709551616)])) w) (hm : P.follows .mixedOrders = true)
    (hg : ∀ b l, gtabAt gs b = some l → ∃ vs e fz, w0.heap[b]? = some (.cells vs.toArray e fz) ∧ AV.dens e0 l = some vs)
    (hr : ∀ id ao, roAt ros id = some ao → ∃ k o, addr e0 id = some k ∧ w0.heap[k]? = some o ∧ ORel e0 ao o)
    (hs : ∀ id cs, gtabAt rss id = some cs → ∃ k o c vs, rowAt e0 id = some (k, o, c) ∧ k < w0.heap.size ∧ AV.dens e0 cs = some vs ∧ ∀ (j : Nat) v, vs[j]? = some v → w0.cell? ⟨k, o + j, none⟩ = some v) :
    TabOk ⟨P, w0, S, tabOf P specs gs a64 ros rss ms, e0⟩ := by
  refine ⟨fun t ti h => tiOf_ok h, ?_, ?_, ?_, hg, hr, hs, hm, fun f h => ?_⟩
  rotate_right
  · simp only [tabOf, Bool.and_eq_true, Nat.blt_eq, Nat.beq_eq] at h
    obtain ⟨h0, rfl⟩ := h
    exact h64 h0
  · intro t ks h op x y w xs ys ox oy
    have h : eqkOf P t = some ks := h
    unfold eqkOf at h
    have key : ∀ {d : TypeDesc}, P.underlying t = some d → tyAgg d = true → P.eqGuardType P.depth t = false → eqKs P 20 t = some ks →
        (eqGuard op t x y (.agg xs.toArray) (.agg ys.toArray)).run P w = .ok () w ∧ (Op.equal t (.agg xs.toArray) (.agg ys.toArray)).run P w = .ok (eqAll xs ys) w := by
      intro d hd ha hgt hks
      have hE := (eqKs_ok (P := P) 9980 20 t ks hks).1 w xs ys ox oy
      have htv : ∀ zs, tv P t zs = .agg zs.toArray := fun zs => by
        unfold tv; rw [hd]; cases d <;> first | rfl | cases ha
      rw [htv, htv] at hE
      exact ⟨run_eqGuard_agg w op t x y _ _ hgt, hE⟩
    split at h
    · rename_i fs hd
      split at h
      · rename_i hgt; exact key hd rfl hgt h
      · cases h
    · rename_i n e hd
      split at h
      · rename_i hgt; exact key hd rfl hgt h
      · cases h
    · cases h
  · intro f fn h
    simp only [tabOf] at h
    split at h
    · exact h
    · cases h
  · intro f h args w
    simp only [tabOf] at h
    cases hb : enterB P f with
    | true => exact enterB_ok hb args w
    | false => simp [hb] at h

end Go.Ex

namespace Go.Ex
open Go Go.RowKit

section
variable {β : Type}

def forceN (n : Nat) (f : Nat → β) : β :=
  match n with
  | 0 => f 0
  | m + 1 => f (Nat.succ m)
theorem forceN_eq (n : Nat) (f : Nat → β) : forceN n f = f n := by cases n <;> rfl

def forceI (n : Int) (f : Int → β) : β :=
  match n with
  | .ofNat m => forceN m fun m => f (.ofNat m)
  | .negSucc m => forceN m fun m => f (.negSucc m)
theorem forceI_eq (n : Int) (f : Int → β) : forceI n f = f n := by cases n <;> simp only [forceI, forceN_eq]

def forceX (x : X) (f : X → β) : β :=
  match x with
  | .ci n => forceI n fun n => f (.ci n)
  | .cb b => match b with
    | true => f (.cb true)
    | false => f (.cb false)
  | x => f x
theorem forceX_eq (x : X) (f : X → β) : forceX x f = f x := by
  unfold forceX
  split
  · rw [forceI_eq]
  · split <;> rfl
  · rfl

def force1 (a : AV) (f : AV → β) : β :=
  match a with
  | .int k x => forceX x fun x => f (.int k x)
  | .bool x => forceX x fun x => f (.bool x)
  | .ptr i o => forceN i fun i => forceN o fun o => f (.ptr i o)
  | .rptr i o => forceN i fun i => forceN o fun o => f (.rptr i o)
  | .slice i o l c => forceN i fun i => forceN o fun o => forceN l fun l => forceN c fun c => f (.slice i o l c)
  | .vsl i n => forceN i fun i => forceN n fun n => f (.vsl i n)
  | a => f a
theorem force1_eq (a : AV) (f : AV → β) : force1 a f = f a := by
  unfold force1
  split <;> simp only [forceX_eq, forceN_eq]

def forceL : List AV → (List AV → β) → β
  | [], f => f []
  | a :: l, f => force1 a fun a => forceL l fun l => f (a :: l)
theorem forceL_eq : ∀ (l : List AV) (f : List AV → β), forceL l f = f l
  | [], _ => rfl
  | a :: l, f => by simp only [forceL, force1_eq, forceL_eq l]

/-- The list alone: its members have been computed before. -/
def forceSL : List AV → (List AV → β) → β
  | [], f => f []
  | a :: l, f => forceSL l fun l => f (a :: l)
theorem forceSL_eq : ∀ (l : List AV) (f : List AV → β), forceSL l f = f l
  | [], _ => rfl
  | a :: l, f => by simp only [forceSL, forceSL_eq l]

def forceV (a : AV) (f : AV → β) : β :=
  match a with
  | .agg l => forceSL l fun l => f (.agg l)
  | .tup l => forceL l fun l => f (.tup l)
  | .func g l m => forceSL l fun l => forceSL m fun m => f (.func g l m)
  | a => force1 a f
theorem forceV_eq (a : AV) (f : AV → β) : forceV a f = f a := by
  unfold forceV
  split <;> simp only [forceL_eq, forceSL_eq, force1_eq]

/-- A number is even. -/
def evenB (k : Nat) : Bool := Nat.beq (Nat.mod k 2) 0

theorem evenB_eq (k : Nat) : evenB k = true ↔ k % 2 = 0 := by
  unfold evenB
  constructor
  · intro h; exact Nat.eq_of_beq_eq_true h
  · intro h
    have : Nat.mod k 2 = 0 := h
    rw [this]; rfl

noncomputable def Tree.setK (d : Nat) : Tree → Nat → AV → (Tree → β) → β :=
  Nat.rec (motive := fun _ => Tree → Nat → AV → (Tree → β) → β) (fun _ _ v f => f (.leaf v))
    (fun _ ih t k v f => Tree.rec (motive := fun _ => β)
      (Bool.rec (motive := fun _ => β) (ih .emp (Nat.div k 2) v fun r => f (.node .emp r)) (ih .emp (Nat.div k 2) v fun l => f (.node l .emp)) (evenB k))
      (fun _ => Bool.rec (motive := fun _ => β) (ih .emp (Nat.div k 2) v fun r => f (.node .emp r)) (ih .emp (Nat.div k 2) v fun l => f (.node l .emp)) (evenB k))
      (fun l r _ _ => Bool.rec (motive := fun _ => β) (ih r (Nat.div k 2) v fun r => f (.node l r)) (ih l (Nat.div k 2) v fun l => f (.node l r)) (evenB k)) t) d

theorem Tree.setK_eq : ∀ (d : Nat) (t : Tree) (k : Nat) (v : AV) (f : Tree → β), Tree.setK d t k v f = f (Tree.set d t k v)
  | 0, _, _, _, _ => rfl
  | d + 1, t, k, v, f => by
    have ih := Tree.setK_eq d
    have hd : Nat.div k 2 = k / 2 := rfl
    have hb : (evenB k = true ∧ k % 2 = 0) ∨ (evenB k = false ∧ ∃ m, k % 2 = m + 1) := by
      cases h : evenB k
      · refine .inr ⟨rfl, k % 2 - 1, ?_⟩
        have : k % 2 ≠ 0 := fun e => by rw [(evenB_eq k).2 e] at h; cases h
        omega
      · exact .inl ⟨rfl, (evenB_eq k).1 h⟩
    unfold Tree.setK at ih
    unfold Tree.setK
    rcases hb with ⟨h1, h2⟩ | ⟨h1, m, h2⟩ <;> cases t <;> simp only [Tree.set, h1, h2, ih, hd]

noncomputable def Tree.getF (d : Nat) : Tree → Nat → AV :=
  Nat.rec (motive := fun _ => Tree → Nat → AV) (fun t _ => Tree.rec (motive := fun _ => AV) undefA (fun v => v) (fun _ _ _ _ => undefA) t)
    (fun _ ih t k => Tree.rec (motive := fun _ => AV) undefA (fun _ => undefA)
      (fun l r _ _ => Bool.rec (motive := fun _ => AV) (ih r (Nat.div k 2)) (ih l (Nat.div k 2)) (evenB k)) t) d

theorem Tree.getF_eq : ∀ (d : Nat) (t : Tree) (k : Nat), Tree.getF d t k = Tree.get d t k
  | 0, t, k => by cases t <;> rfl
  | d + 1, t, k => by
    have ih := Tree.getF_eq d
    have hd : Nat.div k 2 = k / 2 := rfl
    have hb : (evenB k = true ∧ k % 2 = 0) ∨ (evenB k = false ∧ ∃ m, k % 2 = m + 1) := by
      cases h : evenB k
      · refine .inr ⟨rfl, k % 2 - 1, ?_⟩
        have : k % 2 ≠ 0 := fun e => by rw [(evenB_eq k).2 e] at h; cases h
        omega
      · exact .inl ⟨rfl, (evenB_eq k).1 h⟩
    unfold Tree.getF at ih
    unfold Tree.getF
    rcases hb with ⟨h1, h2⟩ | ⟨h1, m, h2⟩ <;> cases t <;> simp only [Tree.get, h1, h2, ih, hd]

noncomputable def Tm.getF (tm : Tm) (k : Nat) : Option AV :=
  Tm.rec (motive := fun _ => Option AV) (fun n t => Bool.rec (motive := fun _ => Option AV) none (some (Tree.getF (Tm.dep n) t k)) (Nat.ble (Nat.succ k) n)) tm

theorem Tm.getF_eq (tm : Tm) (k : Nat) : tm.getF k = tm.get? k := by
  obtain ⟨n, t⟩ := tm
  have : Nat.ble (Nat.succ k) n = Nat.blt k n := rfl
  simp only [Tm.getF, Tm.get?, this, Tree.getF_eq]
  cases Nat.blt k n <;> rfl

noncomputable def Tm.setK (tm : Tm) (k : Nat) (v : AV) (f : Tm → β) : β :=
  Tm.rec (motive := fun _ => β) (fun n t => Bool.rec (motive := fun _ => β) (f ⟨n, t⟩) (Tree.setK (Tm.dep n) t k v fun t => f ⟨n, t⟩) (Nat.ble (Nat.succ k) n)) tm
theorem Tm.setK_eq (tm : Tm) (k : Nat) (v : AV) (f : Tm → β) : tm.setK k v f = f (tm.set k v) := by
  obtain ⟨n, t⟩ := tm
  have : Nat.ble (Nat.succ k) n = Nat.blt k n := rfl
  simp only [Tm.setK, Tm.set, Tree.setK_eq, this]
  cases Nat.blt k n <;> rfl

noncomputable def putK (tm : Tm) (d : Option Nat) (v : AV) (f : Tm → β) : β :=
  match d with
  | some d => forceV v fun v => tm.setK d v f
  | none => f tm
theorem putK_eq (tm : Tm) (d : Option Nat) (v : AV) (f : Tm → β) : putK tm d v f = f (putT tm d v) := by
  cases d <;> simp only [putK, putT, forceV_eq, Tm.setK_eq]

noncomputable def Tm.fillK : List AV → Tm → Nat → (Tm → β) → β
  | [], tm, _, f => f tm
  | a :: l, tm, k, f => forceV a fun a => tm.setK k a fun tm => Tm.fillK l tm (k + 1) f
theorem Tm.fillK_eq : ∀ (l : List AV) (tm : Tm) (k : Nat) (f : Tm → β), Tm.fillK l tm k f = f (Tm.fill tm k l)
  | [], _, _, _ => rfl
  | a :: l, tm, k, f => by simp only [Tm.fillK, Tm.fill, forceV_eq, Tm.setK_eq, Tm.fillK_eq l]

noncomputable def Tm.ofLK (l : List AV) (n : Nat) (f : Tm → β) : β := forceN (Nat.max n l.length) fun n => Tm.fillK l ⟨n, .emp⟩ 0 f
theorem Tm.ofLK_eq (l : List AV) (n : Nat) (f : Tm → β) : Tm.ofLK l n f = f (Tm.ofL l n) := by
  simp only [Tm.ofLK, Tm.ofL, forceN_eq, Tm.fillK_eq]

noncomputable def setTsK : List Nat → List AV → Tm → (Tm → β) → β
  | p :: ps, a :: as, tm, f => forceV a fun a => tm.setK p a fun tm => setTsK ps as tm f
  | _, _, tm, f => f tm
theorem setTsK_eq : ∀ (ps : List Nat) (as : List AV) (tm : Tm) (f : Tm → β), setTsK ps as tm f = f (setTs tm ps as)
  | p :: ps, a :: as, tm, f => by simp only [setTsK, setTs, forceV_eq, Tm.setK_eq, setTsK_eq ps as]
  | [], _, _, _ => by simp only [setTsK, setTs]
  | _ :: _, [], _, _ => by simp only [setTsK, setTs]

def forceO (o : AO) (f : AO → β) : β :=
  match o with
  | .cells c e => forceSL c fun c => f (.cells c e)
  | .pref c e s i => forceSL c fun c => forceN i fun i => f (.pref c e s i)
  | o => f o
theorem forceO_eq (o : AO) (f : AO → β) : forceO o f = f o := by
  unfold forceO
  split <;> simp only [forceSL_eq, forceN_eq]

def setBK : List (Nat × AO) → Nat → AO → (List (Nat × AO) → β) → β
  | [], _, _, f => f []
  | (n, o) :: l, id, o', f => match n.beq id with
    | true => f ((n, o') :: l)
    | false => setBK l id o' fun l => f ((n, o) :: l)
theorem setBK_eq : ∀ (l : List (Nat × AO)) (id : Nat) (o : AO) (f : List (Nat × AO) → β), setBK l id o f = f (setB l id o)
  | [], _, _, _ => rfl
  | (n, o) :: l, id, o', f => by
    simp only [setBK, setB]
    cases n.beq id
    · simp only [setBK_eq l, Bool.false_eq_true, if_false]
    · simp only [if_true]

def forceSp : List (Nat × AO) → (List (Nat × AO) → β) → β
  | [], f => f []
  | p :: l, f => match p with
    | (n, o) => forceSp l fun l => f ((n, o) :: l)
theorem forceSp_eq : ∀ (l : List (Nat × AO)) (f : List (Nat × AO) → β), forceSp l f = f l
  | [], _ => rfl
  | p :: l, f => by obtain ⟨n, o⟩ := p; simp only [forceSp, forceSp_eq l]

/-- A new block. -/
def newK (st : St) (ao : AO) (f : Nat → St → β) : β :=
  match st with
  | ⟨nb, heap, facts⟩ => forceN nb fun nb => forceO ao fun ao => f nb ⟨nb + 1, (nb, ao) :: heap, facts⟩
theorem newK_eq (st : St) (ao : AO) (f : Nat → St → β) : newK st ao f = f st.nb { st with nb := st.nb + 1, heap := (st.nb, ao) :: st.heap } := by
  obtain ⟨nb, heap, facts⟩ := st
  simp only [newK, forceN_eq, forceO_eq]

/-- A block that changes. -/
def setSK (st : St) (id : Nat) (ao : AO) (f : St → β) : β :=
  match st with
  | ⟨nb, heap, facts⟩ => forceO ao fun ao => setBK heap id ao fun heap => f ⟨nb, heap, facts⟩
theorem setSK_eq (st : St) (id : Nat) (ao : AO) (f : St → β) : setSK st id ao f = f { st with heap := setB st.heap id ao } := by
  obtain ⟨nb, heap, facts⟩ := st
  simp only [setSK, forceO_eq, setBK_eq]

/-- A row that grows. -/
def growK (st : St) (cs : List AV) (e size : Nat) (d : Option Nat) (f : Nat → St → β) : β :=
  match st with
  | ⟨nb, heap, facts⟩ => forceN nb fun nb => forceL cs fun cs => forceSp (dropO heap d) fun heap => f nb ⟨nb + 1, (nb, .pref cs e size nb) :: heap, facts⟩
theorem growK_eq (st : St) (cs : List AV) (e size : Nat) (d : Option Nat) (f : Nat → St → β) : growK st cs e size d f = f st.nb { st with nb := st.nb + 1, heap := (st.nb, .pref cs e size st.nb) :: dropO st.heap d } := by
  obtain ⟨nb, heap, facts⟩ := st
  simp only [growK, forceN_eq, forceL_eq, forceSp_eq]

end

/-! ### Trees in sequence -/
theorem Tr.bind_assoc {α β γ : Type} (f : α → Tr β) (g : β → Tr γ) : ∀ (t : Tr α), (t.bind f).bind g = t.bind fun a => (f a).bind g
  | .ret _ => rfl
  | .br _ t e => by simp only [Tr.bind, Tr.bind_assoc f g t, Tr.bind_assoc f g e]
  | .call _ _ k => by simp only [Tr.bind, Tr.bind_assoc f g k]
  | .new k => by simp only [Tr.bind, Tr.bind_assoc f g k]
  | .newc k => by simp only [Tr.bind, Tr.bind_assoc f g k]
  | .fail _ => rfl

section
variable {α β : Type}

theorem bind_branchX (g : α → Tr β) : ∀ (x : X) (st : St) (k : Bool → St → Tr α), (branchX x st k).bind g = branchX x st fun b st => (k b st).bind g := by
  intro x
  induction x with
  | cb v => intro st k; rfl
  | not x ih => intro st k; simp only [branchX, ih]
  | and x y ihx ihy =>
    intro st k
    simp only [branchX, ihx]
    congr 1
    funext v st
    cases v
    · rfl
    · simp only [ihy]
  | _ =>
    intro st k
    simp only [branchX]
    split <;> rfl

theorem bind_guardOf (g : α → Tr β) (ops : Array Oper) (tm : Tm) (gd : Option (Nat × Bool)) (st : St) (k : Bool → St → Tr α) : (guardOf ops tm gd st k).bind g = guardOf ops tm gd st fun b st => (k b st).bind g := by
  unfold guardOf
  split
  · rfl
  · split
    · rfl
    · split
      · rw [bind_branchX]
      · rfl
      · rfl

theorem bind_splitX (g : α → Tr β) (e : X) (kI : IntKind) (f : Nat → St → Tr α) : ∀ (c j : Nat) (st : St), (splitX e kI f c j st).bind g = splitX e kI (fun j st => (f j st).bind g) c j st
  | 0, _, _ => rfl
  | c + 1, j, st => by
    simp only [splitX, bind_branchX]
    congr 1
    funext v st
    cases v
    · simp only [bind_splitX g e kI f c]
    · rfl

theorem bind_lookX (g : α → Tr β) (l : LK) (k : AV → St → Tr α) : ∀ (es : List (Value × AV)) (st : St), (lookX l k es st).bind g = lookX l (fun v st => (k v st).bind g) es st
  | [], _ => rfl
  | (kv, v) :: es, st => by
    simp only [lookX]
    split
    · rfl
    · rw [bind_branchX]
      congr 1
      funext b st
      cases b
      · simp only [bind_lookX g l k es]
      · rfl

theorem bind_qrest (g : α → Tr β) (T : Tab) (tm : Tm) (st : St) (o : Op) (k : AV → St → Tr α) : (qrest T tm st o k).bind g = qrest T tm st o fun v st => (k v st).bind g := by
  unfold qrest
  split
  · rfl
  · split
    · split
      · rw [bind_branchX]
        congr 1
        funext v st
        cases v <;> rfl
      · rfl
    · split
      · rw [bind_splitX]
        congr 1
        funext j st
        split <;> rfl
      · rfl
    · split
      · rw [bind_splitX]
        congr 1
        funext j st
        split <;> rfl
      · rfl
    · rfl

theorem bind_qval (g : α → Tr β) (T : Tab) (tm : Tm) (st : St) (o : Op) (k : AV → St → Tr α) : (qval T tm st o k).bind g = qval T tm st o fun v st => (k v st).bind g := by
  unfold qval
  split
  · rfl
  · split
    · rfl
    · rw [bind_qrest]

end

/-! ### The executor, what follows handed on -/
abbrev K := Out → Tr Out

/-! operands -/
noncomputable def evF (tm : Tm) (x : Operand) : Option AV :=
  match x with
  | .tmp t => tm.getF t
  | .const v => AV.ofValue v
  | .global g => some (.gptr g 0)
  | .func f => some (.func f [] [])
theorem evF_eq (tm : Tm) (x : Operand) : evF tm x = evO tm x := by cases x <;> simp only [evF, evO, Tm.getF_eq]

noncomputable def evsF (tm : Tm) : List Operand → Option (List AV)
  | [] => some []
  | x :: l => match evF tm x, evsF tm l with
    | some a, some as => some (a :: as)
    | _, _ => none
theorem evsF_eq (tm : Tm) : ∀ (l : List Operand), evsF tm l = evOs tm l
  | [] => rfl
  | x :: l => by
    simp only [evsF, evOs, evF_eq, evsF_eq tm l]
    cases evO tm x <;> cases evOs tm l <;> rfl

/-! operations, each by itself -/
def binIntF (op : BinOp) (k : IntKind) (x : X) (k' : IntKind) (y : X) (d : Option AV) : Option AV :=
  match kindEqb k k' with
  | true => match op with
    | .add => some (.int k (X.mkBin .add k x y))
    | .sub => some (.int k (X.mkBin .sub k x y))
    | .mul => some (.int k (X.mkBin .mul k x y))
    | .and => some (.int k (X.mkBin .and k x y))
    | .or => some (.int k (X.mkBin .or k x y))
    | .eql => some (.bool (X.mkBin .eql k x y))
    | .neq => some (.bool (X.mkNot (X.mkBin .eql k x y)))
    | .lss => some (.bool (X.mkBin .lss k x y))
    | .gtr => some (.bool (X.mkBin .lss k y x))
    | .leq => some (.bool (X.mkNot (X.mkBin .lss k y x)))
    | .geq => some (.bool (X.mkNot (X.mkBin .lss k x y)))
    | _ => d
  | false => d

theorem binIntF_eq (T : Tab) (op : BinOp) (t : Nat) (k : IntKind) (x : X) (k' : IntKind) (y : X) : binIntF op k x k' y (binAV T op t (.int k x) (.int k' y)) = binAV T op t (.int k x) (.int k' y) := by
  unfold binIntF
  cases h : kindEqb k k'
  · rfl
  · cases op <;> simp only [binAV, h, if_true]

def bBin2 (T : Tab) (op : BinOp) (t : Nat) (k : IntKind) (x : X) (b : AV) : Option AV :=
  match b with
  | .int k' y => binIntF op k x k' y (binAV T op t (.int k x) (.int k' y))
  | b => binAV T op t (.int k x) b

def bBin1 (T : Tab) (op : BinOp) (t : Nat) (a b : AV) : Option AV :=
  match a with
  | .int k x => bBin2 T op t k x b
  | a => binAV T op t a b

def bBin (T : Tab) (op : BinOp) (t : Nat) (a b : Option AV) : Option AV :=
  match a with
  | some a => match b with
    | some b => bBin1 T op t a b
    | none => none
  | none => none

def bNil (a : Option AV) : Option AV :=
  match a with
  | some (.ptr i o) => some (.ptr i o)
  | some (.gptr i o) => some (.gptr i o)
  | some (.func f a c) => some (.func f a c)
  | _ => none

def bUn (op : UnOp) (a : Option AV) : Option AV :=
  match op, a with
  | .neg, some (.int k x) => some (.int k (X.mkNeg k x))
  | .not, some (.bool x) => some (.bool (X.mkNot x))
  | _, _ => none

def bConv (T : Tab) (s d : Nat) (a : Option AV) : Option AV :=
  match T.tys s, T.tys d, a with
  | some _, some ti, some (.int _ x) => match ti.desc with
    | .int k => some (.int k (X.mkConv k x))
    | _ => none
  | _, _, _ => none

def bMkI (T : Tab) (t : Nat) (a : Option AV) : Option AV :=
  match T.tys t, a with
  | some ti, some a => match ti.desc with
    | .interface _ => none
    | _ => some (.iface t a)
  | _, _ => none

def bFA1 (T : Tab) (fields : Array Field) (f : Nat) (mk : Nat → AV) : Option AV :=
  match fields[f]? with
  | some fd => match T.tys fd.type with
    | some tf => if tf.size.beq 0 then none else some (mk fd.offset)
    | none => none
  | none => none

def bFA (T : Tab) (s : Nat) (a : Option AV) (f : Nat) : Option AV :=
  match T.tys s with
  | some ti => match a with
    | some (.ptr i o) => match ti.desc with
      | .struct fields => bFA1 T fields f fun n => .ptr i (o + n)
      | _ => none
    | some (.gptr i o) => match ti.desc with
      | .struct fields => bFA1 T fields f fun n => .gptr i (o + n)
      | _ => none
    | _ => none
  | none => none

def bF (T : Tab) (t : Nat) (a : Option AV) (f : Nat) : Option AV :=
  match T.tys t, a with
  | some ti, some (.agg cs) => match ti.desc with
    | .struct fields => match fields[f]? with
      | some fd => match T.tys fd.type with
        | some tf => loadFrom tf cs fd.offset
        | none => none
      | none => none
    | _ => none
  | _, _ => none

def bEx (a : Option AV) (i : Nat) : Option AV :=
  match a with
  | some (.tup l) => l[i]?
  | _ => none

/-- A load. -/
def bLoad (T : Tab) (heap : List (Nat × AO)) (t : Nat) (a : Option AV) : Option AV :=
  match a with
  | some (.ptr id off) => match T.tys t with
    | some ti => match lookB heap id with
      | some (.cells cs _) => loadFrom ti cs off
      | _ => none
    | none => none
  | _ => none

theorem bLoad_ok {T : Tab} {heap : List (Nat × AO)} {t : Nat} {a : Option AV} {v : AV} (h : bLoad T heap t a = some v) : ∃ x, a = some x ∧ lopAt T heap t x = some v := by
  unfold bLoad at h
  split at h
  · rename_i id off
    refine ⟨_, rfl, ?_⟩
    split at h
    · rename_i ti hti
      split at h
      · rename_i cs e hl
        simp only [lopAt, hti, hl]; exact h
      · cases h
    · cases h
  · cases h

/-- The value of an operation without a look at memory, the common ones first. -/
noncomputable def popF (T : Tab) (tm : Tm) (o : Op) : Option AV :=
  match o with
  | .move x => evF tm x
  | .assign x => evF tm x
  | .nilCheck x => bNil (evF tm x)
  | .binOp op t x y _ => bBin T op t (evF tm x) (evF tm y)
  | .unOp op _ x => bUn op (evF tm x)
  | .convert s d x => bConv T s d (evF tm x)
  | .makeInterface t x => bMkI T t (evF tm x)
  | .fieldAddr s x f => bFA T s (evF tm x) f
  | .field t x f => bF T t (evF tm x) f
  | .extract x i => bEx (evF tm x) i
  | _ => none

theorem popF_ok (T : Tab) (fs : Facts) (tm : Tm) {o : Op} {v : AV} (h : popF T tm o = some v) : pop T fs tm o = some v := by
  cases o <;> simp only [popF, evF_eq] at h <;> first
    | (cases h; done)
    | skip
  case move x => exact h
  case assign x => exact h
  case nilCheck x => exact h
  case binOp op t x y yt =>
    rw [← h]
    simp only [pop, bBin]
    cases evO tm x with
    | none => rfl
    | some a =>
      cases evO tm y with
      | none => rfl
      | some b =>
        simp only [bBin1]
        cases a <;> simp only [bBin2] <;> first
          | rfl
          | (cases b <;> simp only [binIntF_eq])
  case unOp op k x => exact h
  case convert s d x => exact h
  case makeInterface t x => exact h
  case fieldAddr s x f =>
    rw [← h]
    simp only [pop, bFA, bFA1]
    cases T.tys s with
    | none => rfl
    | some ti => cases evO tm x with
      | none => rfl
      | some a => cases a <;> rfl
  case field t x f => exact h
  case extract x i => exact h

/-- The value of an operation that only reads. -/
noncomputable def qvalF {α : Type} (T : Tab) (tm : Tm) (st : St) (o : Op) (k : AV → St → Tr α) : Tr α :=
  match popF T tm o with
  | some v => k v st
  | none => match o with
    | .load t x => match bLoad T st.heap t (evF tm x) with
      | some v => k v st
      | none => qval T tm st o k
    | o => qval T tm st o k

theorem qvalF_eq {α : Type} (T : Tab) (tm : Tm) (st : St) (o : Op) (k : AV → St → Tr α) : qvalF T tm st o k = qval T tm st o k := by
  unfold qvalF
  cases h : popF T tm o with
  | some v => simp only [qval, popF_ok T st.facts tm h]
  | none =>
    cases o <;> first
      | rfl
      | skip
    case load t x =>
      simp only
      cases h2 : bLoad T st.heap t (evF tm x) with
      | none => rfl
      | some v =>
        obtain ⟨a, ha, hl⟩ := bLoad_ok h2
        rw [evF_eq] at ha
        simp only [qval, pop, lop, ha, hl]

noncomputable def opCall (rec : Task → K → Tr Out) (tm : Tm) (st : St) (o : Op) (c : Call) (k : AV → St → Tr Out) (kp : AV → St → Tr Out) : Tr Out :=
  match c.callee with
  | .value f => match evF tm f, evsF tm c.args.toList with
    | some (.func f first cap), some args => rec (.callF f (first ++ args ++ cap) st) fun
      | .call (.ret v) st => k v st
      | .call (.pan v) st => kp v st
      | _ => .fail 4
    | some (.yield l), some args => rec (.round l args st) fun
      | .call (.ret v) st => k v st
      | .call (.pan v) st => kp v st
      | _ => .fail 5
    | _, _ => .fail 6
  | _ => .fail (7000 + opNum o)

noncomputable def opS6 (rec : Task → K → Tr Out) (tm : Tm) (st : St) (o : Op) (k : AV → St → Tr Out) (kp : AV → St → Tr Out) : Tr Out :=
  match o with
  | .call c => opCall rec tm st o c k kp
  | .panic x => match evF tm x with
    | some (.iface t v) => kp (.iface t v) st
    | _ => .fail 8
  | _ => .fail (9000 + opNum o)
noncomputable def opS5 (T : Tab) (rec : Task → K → Tr Out) (tm : Tm) (st : St) (o : Op) (k : AV → St → Tr Out) (kp : AV → St → Tr Out) : Tr Out :=
  match mop T st.heap tm o with
  | some (id, ao) => setSK st id ao fun st => k undefA st
  | none => opS6 rec tm st o k kp
noncomputable def opS4 (T : Tab) (rec : Task → K → Tr Out) (tm : Tm) (st : St) (o : Op) (k : AV → St → Tr Out) (kp : AV → St → Tr Out) : Tr Out :=
  match lkOf T st.heap tm o with
  | some l => lookX l k l.es st
  | none => opS5 T rec tm st o k kp
noncomputable def opS3 (T : Tab) (rec : Task → K → Tr Out) (tm : Tm) (st : St) (o : Op) (k : AV → St → Tr Out) (kp : AV → St → Tr Out) : Tr Out :=
  match apop T st.heap tm o with
  | some (.same v) => k v st
  | some (.grow cs e size n d) => growK st cs e size d fun nb st => .newc (k (.vsl nb n) st)
  | none => opS4 T rec tm st o k kp
noncomputable def opS2 (T : Tab) (rec : Task → K → Tr Out) (tm : Tm) (st : St) (o : Op) (k : AV → St → Tr Out) (kp : AV → St → Tr Out) : Tr Out :=
  match xop T tm o with
  | some (s, c) => branchX c st fun b st => k (.tup [.int .u64 s, .int .u64 (.ci (match b with | true => 1 | false => 0))]) st
  | none => opS3 T rec tm st o k kp
noncomputable def opS1 (T : Tab) (rec : Task → K → Tr Out) (tm : Tm) (st : St) (o : Op) (k : AV → St → Tr Out) (kp : AV → St → Tr Out) : Tr Out :=
  match sop T st.heap tm o with
  | some (id, ao) => setSK st id ao fun st => k undefA st
  | none => opS2 T rec tm st o k kp
noncomputable def opS0 (T : Tab) (rec : Task → K → Tr Out) (tm : Tm) (st : St) (o : Op) (k : AV → St → Tr Out) (kp : AV → St → Tr Out) : Tr Out :=
  match aop T tm o with
  | some (ao, nv) => newK st ao fun nb st => .new (k (nv.av nb) st)
  | none => opS1 T rec tm st o k kp

/-- Any other operation: the common ones at once. -/
noncomputable def opStepF (T : Tab) (rec : Task → K → Tr Out) (tm : Tm) (st : St) (o : Op) (k : AV → St → Tr Out) (kp : AV → St → Tr Out) : Tr Out :=
  match o with
  | .store _ _ _ => opS1 T rec tm st o k kp
  | .call c => match c.callee with
    | .value f => match evF tm f with
      | some (.func g _ _) => match T.add64 g with
        | true => opS2 T rec tm st o k kp
        | false => opCall rec tm st o c k kp
      | some (.yield _) => opCall rec tm st o c k kp
      | _ => opS0 T rec tm st o k kp
    | _ => opS3 T rec tm st o k kp
  | .panic _ => opS6 rec tm st o k kp
  | o => opS0 T rec tm st o k kp

/-- The executor with what follows is the executor, and then what follows. -/
def Follows (rec' : Task → K → Tr Out) (rec : Task → Tr Out) : Prop := ∀ t k, rec' t k = (rec t).bind k

theorem opStepF_eq {rec' : Task → K → Tr Out} {rec : Task → Tr Out} (hr : Follows rec' rec) (g : K) (T : Tab) (tm : Tm) (st : St) (o : Op) (k kp : AV → St → Tr Out) :
    opStepF T rec' tm st o (fun v st => (k v st).bind g) (fun v st => (kp v st).bind g) = (opStep T rec tm st o k kp).bind g := by
  have key : opS0 T rec' tm st o (fun v st => (k v st).bind g) (fun v st => (kp v st).bind g) = (opStep T rec tm st o k kp).bind g := by
    unfold opS0 opS1 opS2 opS3 opS4 opS5 opS6 opCall
    simp only [evF_eq, evsF_eq]
    unfold opStep
    cases h1 : aop T tm o with
    | some p => obtain ⟨ao, nv⟩ := p; simp only [newK_eq, Tr.bind]
    | none =>
    cases h2 : sop T st.heap tm o with
    | some p => obtain ⟨id, ao⟩ := p; simp only [setSK_eq]
    | none =>
    cases h3 : xop T tm o with
    | some p => obtain ⟨s, c⟩ := p; simp only [bind_branchX]; rfl
    | none =>
    cases h4 : apop T st.heap tm o with
    | some p =>
      cases p with
      | same v => simp only
      | grow cs e size n d => simp only [growK_eq, Tr.bind]
    | none =>
    cases h5 : lkOf T st.heap tm o with
    | some l => simp only [bind_lookX]
    | none =>
    cases h6 : mop T st.heap tm o with
    | some p => obtain ⟨id, ao⟩ := p; simp only [setSK_eq]
    | none =>
    cases o with
    | call c =>
      simp only
      cases c.callee with
      | value f =>
        simp only
        cases evO tm f with
        | none => simp only [Tr.bind]
        | some a =>
          cases evOs tm c.args.toList with
          | none => cases a <;> simp only [Tr.bind]
          | some args =>
            cases a with
            | func f first cap =>
              simp only
              rw [hr, Tr.bind_assoc]
              congr 1
              funext o
              cases o with
              | call r st => cases r <;> rfl
              | _ => rfl
            | yield l =>
              simp only
              rw [hr, Tr.bind_assoc]
              congr 1
              funext o
              cases o with
              | call r st => cases r <;> rfl
              | _ => rfl
            | _ => simp only [Tr.bind]
      | _ => simp only [Tr.bind]
    | panic x =>
      simp only
      cases evO tm x with
      | none => simp only [Tr.bind]
      | some a => cases a <;> simp only [Tr.bind]
    | _ => simp only [Tr.bind]
  unfold opStepF
  cases o with
  | store t x y =>
    rw [← key]
    simp only [opS0, aop]
  | panic x =>
    rw [← key]
    simp only [opS0, opS1, opS2, opS3, opS4, opS5, aop, sop, xop, apop, lkOf, mop]
  | call c =>
    simp only
    cases hc : c.callee with
    | value f =>
      simp only
      have hap : apop T st.heap tm (.call c) = none := by simp only [apop, hc]
      have hxo : (∀ gf a b, evO tm f = some (.func gf a b) → T.add64 gf = false) → xop T tm (.call c) = none := by
        intro hn
        simp only [xop, hc]
        cases hf : evO tm f with
        | none => rfl
        | some a =>
          cases a with
          | func gf a b =>
            have := hn gf a b hf
            cases a <;> cases b <;> first
              | rfl
              | skip
            split
            · rename_i h1 h2
              simp only [Option.some.injEq, AV.func.injEq] at h1
              obtain ⟨rfl, _, _⟩ := h1
              simp only [this, Bool.false_and]
            · rfl
          | _ => rfl
      rw [evF_eq]
      cases hf : evO tm f with
      | none => exact key
      | some a =>
        cases a with
        | func gf fi ca =>
          simp only
          cases h64 : T.add64 gf with
          | true => rw [← key]; simp only [opS0, opS1, aop, sop]
          | false =>
            rw [← key]
            have hx := hxo (fun gf' a b h => by rw [hf] at h; cases h; exact h64)
            simp only [opS0, opS1, opS2, opS3, opS4, opS5, opS6, aop, sop, hx, hap, lkOf, mop]
        | yield l =>
          rw [← key]
          have hx := hxo (fun gf' a b h => by rw [hf] at h; cases h)
          simp only [opS0, opS1, opS2, opS3, opS4, opS5, opS6, aop, sop, hx, hap, lkOf, mop]
        | _ => exact key
    | _ =>
      rw [← key]
      simp only [opS0, opS1, opS2, aop, sop, xop, hc]
  | _ => exact key

/-- A move of what a temporary holds. -/
noncomputable def moveOf (o : Oper) (tm : Tm) : Option (Nat × AV) :=
  match o.op with
  | .move x => moveX o.dst x tm
  | .assign x => moveX o.dst x tm
  | _ => none
where
  moveX (d : Option Nat) (x : Operand) (tm : Tm) : Option (Nat × AV) :=
    match x with
    | .tmp t => match d with
      | some d => match tm.getF t with
        | some v => some (d, v)
        | none => none
      | none => none
    | _ => none

theorem moveOf_ok (T : Tab) {α : Type} {o : Oper} {tm : Tm} {d : Nat} {v : AV} (h : moveOf o tm = some (d, v)) (st : St) (k : AV → St → Tr α) : isQuiet o.op = true ∧ o.dst = some d ∧ qval T tm st o.op k = k v st := by
  obtain ⟨dst, op, type, pos, after, guard⟩ := o
  have key : ∀ x, moveOf.moveX dst x tm = some (d, v) → dst = some d ∧ evO tm x = some v := by
    intro x hx
    unfold moveOf.moveX at hx
    split at hx
    · rename_i t
      split at hx
      · rename_i d'
        split at hx
        · rename_i v' hv
          simp only [Option.some.injEq, Prod.mk.injEq] at hx
          obtain ⟨rfl, rfl⟩ := hx
          rw [Tm.getF_eq] at hv
          exact ⟨rfl, hv⟩
        · cases hx
      · cases hx
    · cases hx
  cases op <;> simp only [moveOf] at h <;> first
    | (cases h; done)
    | skip
  case move x => obtain ⟨h1, h2⟩ := key x h; exact ⟨rfl, h1, by simp only [qval, pop, h2]⟩
  case assign x => obtain ⟨h1, h2⟩ := key x h; exact ⟨rfl, h1, by simp only [qval, pop, h2]⟩

noncomputable def runOpsF (T : Tab) (rec : Task → K → Tr Out) (kp : AV → Tm → St → Tr Out) (kok : Tm → St → Tr Out) (ops : Array Oper) : List Oper → Tm → St → Tr Out
  | [], tm, st => kok tm st
  | o :: rest, tm, st => match o.guard with
    | none => match moveOf o tm with
      | some (d, v) => tm.setK d v fun tm => runOpsF T rec kp kok ops rest tm st
      | none => match isQuiet o.op with
        | true => qvalF T tm st o.op fun v st => putK tm o.dst v fun tm => runOpsF T rec kp kok ops rest tm st
        | false => opStepF T rec tm st o.op (fun v st => putK tm o.dst v fun tm => runOpsF T rec kp kok ops rest tm st) (fun v st => kp v tm st)
    | some gd => guardOf ops tm (some gd) st fun wanted st => match wanted with
      | true => match isQuiet o.op with
        | true => qvalF T tm st o.op fun v st => putK tm o.dst v fun tm => runOpsF T rec kp kok ops rest tm st
        | false => opStepF T rec tm st o.op (fun v st => putK tm o.dst v fun tm => runOpsF T rec kp kok ops rest tm st) (fun v st => kp v tm st)
      | false => putK tm o.dst undefA fun tm => runOpsF T rec kp kok ops rest tm st

/-- Numbers and the operations that stand there. -/
inductive At (ops : Array Oper) : List Nat → List Oper → Prop where
  | nil : At ops [] []
  | cons {i : Nat} {o : Oper} {l : List Nat} {os : List Oper} (h : ops[i]? = some o) (t : At ops l os) : At ops (i :: l) (o :: os)

theorem At.of {ops : Array Oper} : ∀ (l : List Oper) (s : Nat), (∀ (i : Nat) (o : Oper), l[i]? = some o → ops[s + i]? = some o) → At ops (List.range' s l.length) l
  | [], _, _ => .nil
  | o :: l, s, h => by
    simp only [List.length_cons, List.range'_succ]
    refine .cons (by have := h 0 o rfl; simpa using this) (At.of l (s + 1) fun i p hp => ?_)
    have := h (i + 1) p (by simpa using hp)
    rw [← this]; congr 1; omega

theorem At.all (ops : Array Oper) : At ops (List.range ops.size) ops.toList := by
  have := At.of (ops := ops) ops.toList 0 fun i o h => by simpa using h
  rw [List.range_eq_range']
  simpa using this

theorem At.take {ops : Array Oper} {n : Nat} (hn : n ≤ ops.size) : At ops (List.range n) (ops.toList.take n) := by
  have := At.of (ops := ops) (ops.toList.take n) 0 fun i o h => by
    rw [List.getElem?_take] at h
    split at h
    · simpa using h
    · cases h
  rw [List.range_eq_range']
  have hl : (ops.toList.take n).length = n := by simp; omega
  rwa [hl] at this

theorem At.drop (ops : Array Oper) : At ops (List.range' 1 (ops.size - 1)) (ops.toList.drop 1) := by
  have := At.of (ops := ops) (ops.toList.drop 1) 1 fun i o h => by
    rw [List.getElem?_drop] at h
    simpa using h
  have hl : (ops.toList.drop 1).length = ops.size - 1 := by simp
  rwa [hl] at this

theorem runOpsF_eq {rec' : Task → K → Tr Out} {rec : Task → Tr Out} (hr : Follows rec' rec) (g : K) (T : Tab) (ops : Array Oper) (kp : AV → Tm → St → Tr Out) (kok : Tm → St → Tr Out) {l : List Nat} {os : List Oper} (h : At ops l os) : ∀ (tm : Tm) (st : St),
    runOpsF T rec' (fun v tm st => (kp v tm st).bind g) (fun tm st => (kok tm st).bind g) ops os tm st = (runOps T rec ops kp kok l tm st).bind g := by
  induction h with
  | nil => intro _ _; rfl
  | cons h t ih =>
    rename_i i o rest os
    intro tm st
    have step : ∀ (wanted : Bool) (st : St), (match wanted with
      | true => match isQuiet o.op with
        | true => qvalF T tm st o.op fun v st => putK tm o.dst v fun tm => runOpsF T rec' (fun v tm st => (kp v tm st).bind g) (fun tm st => (kok tm st).bind g) ops os tm st
        | false => opStepF T rec' tm st o.op (fun v st => putK tm o.dst v fun tm => runOpsF T rec' (fun v tm st => (kp v tm st).bind g) (fun tm st => (kok tm st).bind g) ops os tm st) (fun v st => (kp v tm st).bind g)
      | false => putK tm o.dst undefA fun tm => runOpsF T rec' (fun v tm st => (kp v tm st).bind g) (fun tm st => (kok tm st).bind g) ops os tm st) =
      (match wanted with
      | true => match isQuiet o.op with
        | true => qval T tm st o.op fun v st => runOps T rec ops kp kok rest (putT tm o.dst v) st
        | false => opStep T rec tm st o.op (fun v st => runOps T rec ops kp kok rest (putT tm o.dst v) st) (fun v st => kp v tm st)
      | false => runOps T rec ops kp kok rest (putT tm o.dst undefA) st).bind g := by
      intro wanted st
      cases wanted
      · simp only [putK_eq]; exact ih _ st
      · simp only [putK_eq, ih, qvalF_eq]
        cases isQuiet o.op
        · simp only [opStepF_eq hr g]
        · simp only [bind_qval]
    simp only [runOpsF, runOps, h]
    cases hg : o.guard with
    | none =>
      simp only
      cases hmv : moveOf o tm with
      | none => exact step true st
      | some q =>
        obtain ⟨d, v⟩ := q
        have hm := moveOf_ok T hmv st fun v st => runOps T rec ops kp kok rest (putT tm o.dst v) st
        simp only [Tm.setK_eq, ih]
        simp only [guardOf, hm.1]
        rw [hm.2.2, hm.2.1]
        rfl
    | some gd =>
      simp only [bind_guardOf]
      congr 1
      funext wanted st
      exact step wanted st

/-! ### Regions that draw their order -/
noncomputable def quietPassF (T : Tab) (ops : Array Oper) (k : Nat → List LD → Tm → St → Tr Out) : List Nat → Nat → List LD → Tm → St → Tr Out
  | [], D, lds, tm, st => k D lds tm st
  | i :: l, D, lds, tm, st => match ops[i]? with
    | none => quietPassF T ops k l D lds tm st
    | some o => match !(D.testBit i) && (isQuiet o.op && readyB D o.after.toList) with
      | false => quietPassF T ops k l D lds tm st
      | true => guardOf ops tm o.guard st fun wanted st => match wanted with
        | true => qvalF T tm st o.op fun v st => putK tm o.dst v fun tm' => quietPassF T ops k l (D ||| (1 <<< i)) (ldOf tm i o.op v ++ lds) tm' st
        | false => putK tm o.dst undefA fun tm => quietPassF T ops k l (D ||| (1 <<< i)) lds tm st

theorem quietPassF_eq (g : K) (T : Tab) (ops : Array Oper) (k : Nat → List LD → Tm → St → Tr Out) : ∀ (l : List Nat) (D : Nat) (lds : List LD) (tm : Tm) (st : St),
    quietPassF T ops (fun D lds tm st => (k D lds tm st).bind g) l D lds tm st = (quietPass T ops k l D lds tm st).bind g
  | [], _, _, _, _ => rfl
  | i :: l, D, lds, tm, st => by
    simp only [quietPassF, quietPass]
    cases ops[i]? with
    | none => exact quietPassF_eq g T ops k l D lds tm st
    | some o =>
      simp only
      cases !D.testBit i && (isQuiet o.op && readyB D o.after.toList)
      · exact quietPassF_eq g T ops k l D lds tm st
      · simp only [bind_guardOf]
        congr 1
        funext wanted st
        cases wanted
        · simp only [putK_eq]; exact quietPassF_eq g T ops k l _ _ _ _
        · simp only [putK_eq, quietPassF_eq g T ops k l, qvalF_eq, bind_qval]

noncomputable def flushLateF (T : Tab) (ops : Array Oper) (mask : Nat) (k : Nat → Tm → St → Tr Out) : List Nat → Nat → Tm → St → Tr Out
  | [], D, tm, st => k D tm st
  | i :: l, D, tm, st => match ops[i]? with
    | none => flushLateF T ops mask k l D tm st
    | some o => match !(D.testBit i) && (isLate o.op && mask.testBit i) with
      | false => flushLateF T ops mask k l D tm st
      | true => match readyB D o.after.toList, o.guard, aop T tm o.op with
        | true, none, some (ao, nv) => newK st ao fun nb st => .new (putK tm o.dst (nv.av nb) fun tm => flushLateF T ops mask k l (D ||| (1 <<< i)) tm st)
        | _, _, _ => .fail 30

theorem flushLateF_eq (g : K) (T : Tab) (ops : Array Oper) (mask : Nat) (k : Nat → Tm → St → Tr Out) : ∀ (l : List Nat) (D : Nat) (tm : Tm) (st : St),
    flushLateF T ops mask (fun D tm st => (k D tm st).bind g) l D tm st = (flushLate T ops mask k l D tm st).bind g
  | [], _, _, _ => rfl
  | i :: l, D, tm, st => by
    simp only [flushLateF, flushLate]
    cases ops[i]? with
    | none => exact flushLateF_eq g T ops mask k l D tm st
    | some o =>
      simp only
      cases !D.testBit i && (isLate o.op && mask.testBit i)
      · exact flushLateF_eq g T ops mask k l D tm st
      · simp only
        cases readyB D o.after.toList
        · simp only [Tr.bind]
        · cases o.guard with
          | some q => simp only [Tr.bind]
          | none =>
            cases aop T tm o.op with
            | none => simp only [Tr.bind]
            | some p => obtain ⟨ao, nv⟩ := p; simp only [newK_eq, putK_eq, flushLateF_eq g T ops mask k l, Tr.bind]

noncomputable def drawLoopF (T : Tab) (rec : Task → K → Tr Out) (ops : Array Oper) (B : List Nat) (idxs : List Nat) (kp : AV → Tm → St → Tr Out) (kok : Tm → St → Tr Out) : Nat → Nat → List LD → Tm → St → Tr Out
  | 0, _, _, _, _ => .fail 31
  | m + 1, D, lds, tm, st => match satB ops D idxs && lateB T ops tm D idxs with
    | false => .fail 32
    | true => match nextLoud ops D idxs with
      | some c => flushLateF T ops (B.getD c 0) (fun D tm st => match ops[c]? with
        | none => .fail 33
        | some o => match readyB D o.after.toList with
          | false => .fail 34
          | true => guardOf ops tm o.guard st fun wanted st => match wanted with
            | true => opStepF T rec tm st o.op (fun v st => match ldsOk T (B.getD c 0) st.heap lds with
              | false => .fail 35
              | true => putK tm o.dst v fun tm => forceN (D ||| (1 <<< c)) fun D => quietPassF T ops (fun D lds tm st => drawLoopF T rec ops B idxs kp kok m D lds tm st) idxs D lds tm st) (fun v st => kp v tm st)
            | false => putK tm o.dst undefA fun tm => quietPassF T ops (fun D lds tm st => drawLoopF T rec ops B idxs kp kok m D lds tm st) idxs (D ||| (1 <<< c)) lds tm st) idxs D tm st
      | none => flushLateF T ops (2 ^ ops.size - 1) (fun D tm st => match allDone D idxs with
        | true => kok tm st
        | false => .fail 36) idxs D tm st

theorem drawLoopF_eq {rec' : Task → K → Tr Out} {rec : Task → Tr Out} (hr : Follows rec' rec) (g : K) (T : Tab) (ops : Array Oper) (B idxs : List Nat) (kp : AV → Tm → St → Tr Out) (kok : Tm → St → Tr Out) : ∀ (m D : Nat) (lds : List LD) (tm : Tm) (st : St),
    drawLoopF T rec' ops B idxs (fun v tm st => (kp v tm st).bind g) (fun tm st => (kok tm st).bind g) m D lds tm st = (drawLoop T rec ops B idxs kp kok m D lds tm st).bind g
  | 0, _, _, _, _ => rfl
  | m + 1, D, lds, tm, st => by
    simp only [drawLoopF, drawLoop]
    cases satB ops D idxs && lateB T ops tm D idxs
    · rfl
    · simp only
      cases nextLoud ops D idxs with
      | some c =>
        simp only
        rw [← flushLateF_eq]
        congr 1
        funext D tm st
        cases ops[c]? with
        | none => rfl
        | some o =>
          simp only
          cases readyB D o.after.toList
          · rfl
          · simp only [bind_guardOf]
            congr 1
            funext wanted st
            cases wanted
            · simp only [putK_eq, drawLoopF_eq hr g T ops B idxs kp kok m, quietPassF_eq]
            · simp only [putK_eq, forceN_eq, drawLoopF_eq hr g T ops B idxs kp kok m, quietPassF_eq]
              rw [← opStepF_eq hr g]
              congr 1
              funext v st
              cases ldsOk T (B.getD c 0) st.heap lds <;> rfl
      | none =>
        simp only
        rw [← flushLateF_eq]
        congr 1
        funext D tm st
        cases allDone D idxs <;> rfl

noncomputable def drawRunF (T : Tab) (rec : Task → K → Tr Out) (ops : Array Oper) (kp : AV → Tm → St → Tr Out) (kok : Tm → St → Tr Out) (tm : Tm) (st : St) : Tr Out :=
  match drawOk ops (befs ops.toList []) (List.range ops.size) (List.range ops.size) with
  | false => .fail 37
  | true => quietPassF T ops (fun D lds tm st => drawLoopF T rec ops (befs ops.toList []) (List.range ops.size) kp kok (ops.size + 1) D lds tm st) (List.range ops.size) 0 [] tm st

theorem drawRunF_eq {rec' : Task → K → Tr Out} {rec : Task → Tr Out} (hr : Follows rec' rec) (g : K) (T : Tab) (ops : Array Oper) (kp : AV → Tm → St → Tr Out) (kok : Tm → St → Tr Out) (tm : Tm) (st : St) :
    drawRunF T rec' ops (fun v tm st => (kp v tm st).bind g) (fun tm st => (kok tm st).bind g) tm st = (drawRun T rec ops kp kok tm st).bind g := by
  unfold drawRunF drawRun
  simp only
  cases drawOk ops (befs ops.toList []) (List.range ops.size) (List.range ops.size)
  · rfl
  · simp only [drawLoopF_eq hr g, quietPassF_eq]

/-! ### The executor -/
noncomputable def loopRunF (rec : Task → K → Tr Out) (ro : Bool) (b : Code) (k : K) : Nat → Tm → List DI → St → Tr Out
  | 0, _, _, _ => .fail 39
  | m + 1, tm, mk, st => rec (.code ro b tm mk st) fun
    | .code .normal tm mk st => loopRunF rec ro b k m tm mk st
    | o => k o

theorem loopRunF_eq {rec' : Task → K → Tr Out} {rec : Task → Tr Out} (hr : Follows rec' rec) (ro : Bool) (b : Code) (k : K) : ∀ (m : Nat) (tm : Tm) (mk : List DI) (st : St),
    loopRunF rec' ro b k m tm mk st = (loopRun rec ro b m tm mk st).bind k
  | 0, _, _, _ => rfl
  | m + 1, tm, mk, st => by
    simp only [loopRunF, loopRun, loopRunF_eq hr ro b k m]
    rw [hr, Tr.bind_assoc]
    congr 1
    funext o
    cases o with
    | code e tm mk st => cases e <;> rfl
    | _ => rfl

noncomputable def leaveXF (T : Tab) (rec : Task → K → Tr Out) (rs : List ResultVar) (tm : Tm) (weak : Bool) (k : K) : List DI → PS → St → Tr Out
  | [], .ret, st => match (match weak with | true => resultsC T st.heap tm rs | false => resultsOf T st.heap tm rs) with
    | some as => k (.call (.ret (single as)) st)
    | none => .fail 49
  | [], .pan v, st => k (.call (.pan v) st)
  | [], .done _, _ => .fail 54
  | .mark m :: l, u, st => match lookB st.heap m with
    | some .marks => setSK st m .dead fun st => leaveXF T rec rs tm weak k l u st
    | _ => .fail 50
  | .fn f args :: l, u, st => rec (.deferF f args u st) fun
    | .dret u st => leaveXF T rec rs tm weak k l (settleX u) st
    | _ => .fail 55

theorem leaveXF_eq {rec' : Task → K → Tr Out} {rec : Task → Tr Out} (hr : Follows rec' rec) (T : Tab) (rs : List ResultVar) (tm : Tm) (weak : Bool) (k : K) : ∀ (mk : List DI) (u : PS) (st : St),
    leaveXF T rec' rs tm weak k mk u st = (leaveX T rec rs tm weak mk u st).bind k
  | [], u, st => by
    cases u with
    | ret =>
      simp only [leaveXF, leaveX]
      cases weak with
      | true => simp only; cases resultsC T st.heap tm rs <;> rfl
      | false => simp only; cases resultsOf T st.heap tm rs <;> rfl
    | pan v => rfl
    | done v => rfl
  | .mark m :: l, u, st => by
    simp only [leaveXF, leaveX]
    cases lookB st.heap m with
    | none => rfl
    | some ao => cases ao <;> first
        | rfl
        | (simp only [setSK_eq]; exact leaveXF_eq hr T rs tm weak k l u _)
  | .fn f args :: l, u, st => by
    simp only [leaveXF, leaveX]
    rw [hr, Tr.bind_assoc]
    congr 1
    funext o
    cases o with
    | dret u st => exact leaveXF_eq hr T rs tm weak k l (settleX u) st
    | _ => rfl

noncomputable def stepXF (T : Tab) (rec : Task → K → Tr Out) (t : Task) (k : K) : Tr Out :=
  match t with
  | .code ro c tm mk st => match c with
    | .skip => k (.code .normal tm mk st)
    | .label _ => k (.code .normal tm mk st)
    | .exit id => k (.code (.exit id) tm mk st)
    | .goto l => k (.code (.goto l) tm mk st)
    | .ret => k (.code .ret tm mk st)
    | .seq a b => rec (.code ro a tm mk st) fun
      | .code .normal tm mk st => rec (.code ro b tm mk st) k
      | o => k o
    | .cond c a b => match evO tm c with
      | some (.bool x) => branchX x st fun v st => match v with
        | true => rec (.code ro a tm mk st) k
        | false => rec (.code ro b tm mk st) k
      | _ => .fail 40
    | .block id b => rec (.code ro b tm mk st) fun
      | .code (.exit id') tm mk st => match id'.beq id with
        | true => k (.code .normal tm mk st)
        | false => k (.code (.exit id') tm mk st)
      | o => k o
    | .scope b => rec (.code ro b tm mk st) fun
      | .code (.goto _) _ _ _ => .fail 41
      | o => k o
    | .loop b => loopRunF rec ro b k 200 tm mk st
    | .region _ ops draw => match draw with
      | false => match deferOf ops with
        | none => runOpsF T rec (fun v tm st => k (.code (.pan v) tm mk st)) (fun tm st => k (.code .normal tm mk st)) ops ops.toList tm st
        | some (n, o, c) => match ro with
          | true => .fail 56
          | false => runOpsF T rec (fun v tm st => k (.code (.pan v) tm mk st)) (fun tm st => match c.callee with
            | .value f => match evO tm f, evOs tm c.args.toList with
              | some (.func f first cap), some args => k (.code .normal (putT tm o.dst undefA) (.fn f (first ++ args ++ cap) :: mk) st)
              | _, _ => .fail 57
            | _ => .fail 58) ops (ops.toList.take n) tm st
      | true => drawRunF T rec ops (fun v _ st => k (.code (.pan v) (poison ops.toList tm) mk st)) (fun tm st => k (.code .normal tm mk st)) tm st
    | .rangeFunc g ps assign body => match ro, evO tm g with
      | false, some (.func f first cap) =>
        newK st .marks fun nb st => newK st (.loop .ready none tm ps.toList assign body) fun l st => .new (.new (rec (.callF f (first ++ [.yield l] ++ cap) st) fun
          | .call (.ret _) st1 => match lookB st1.heap l with
            | some (.loop .busy _ _ _ _ _) => .fail 42
            | some (.loop _ pend tm' ps' asg bd) =>
              setSK st1 l (.loop .exhausted pend tm' ps' asg bd) fun st2 =>
              match pend with
              | none => k (.code .normal tm (.mark nb :: mk) st2)
              | some c => rec (.code ro c tm (.mark nb :: mk) st2) k
            | _ => .fail 43
          | .call (.pan v) st1 => k (.code (.pan v) tm (.mark nb :: mk) st1)
          | _ => .fail 44))
      | _, _ => .fail 45
    | .refuse _ => .fail 46
  | .callF f args st => match T.specs f with
    | some sp => (specCall sp args st).bind k
    | none => match T.funs f with
      | none => .fail 47
      | some fn => match T.memo f args with
        | some r => k (.call (.ret r) st)
        | none => match fn.body with
        | none => .fail 48
        | some c => Tm.ofLK args fn.ntmps fun tm => rec (.code false c tm [] st) fun
          | .code e tm mk st => match e with
            | .normal => leaveXF T rec fn.results.toList tm false k mk .ret st
            | .ret => leaveXF T rec fn.results.toList tm false k mk .ret st
            | .pan v => leaveXF T rec fn.results.toList tm true k mk (.pan v) st
            | _ => .fail 52
          | _ => .fail 53
  | .round l args st => match lookB st.heap l with
    | some (.loop .ready _ tm ps asg bd) => match args.length.beq ps.length with
      | false => .fail 60
      | true => setTsK ps args tm fun tm => rec (.code true asg tm [] st) fun
        | .code .normal tm1 [] st1 => match lookB st1.heap l with
          | some (.loop .ready pend1 tm2 ps2 asg2 bd2) =>
            setSK st1 l (.loop .busy pend1 tm2 ps2 asg2 bd2) fun st1 => rec (.code true bd tm1 [] st1) fun
              | .code e _ _ st3 => match lookB st3.heap l, jumpOf e with
                | some (.loop _ _ tm4 ps4 asg4 bd4), some j =>
                  setSK st3 l (.loop (match j.isNone with | true => .ready | false => .done) j tm4 ps4 asg4 bd4) fun st => k (.call (.ret (.bool (.cb j.isNone))) st)
                | _, _ => .fail 61
              | _ => .fail 62
          | _ => .fail 63
        | _ => .fail 64
    | _ => .fail 65
  | .codeS p c tm st => match noRec c with
    | true => rec (.code false c tm [] st) fun
      | .code e tm [] st => match e with
        | .pan _ => .fail 84
        | e => k (.codeS p e tm st)
      | _ => .fail 80
    | false => match c with
      | .seq a b => rec (.codeS p a tm st) fun
        | .codeS p .normal tm st => rec (.codeS p b tm st) k
        | .codeS p e tm st => k (.codeS p e tm st)
        | _ => .fail 85
      | .region _ ops false => match recAt ops with
        | some o => putK tm o.dst (recAV p) fun tm => runOpsF T rec (fun _ _ _ => .fail 84) (fun tm st => k (.codeS (recPS p) .normal tm st)) ops (ops.toList.drop 1) tm st
        | none => .fail 83
      | _ => .fail 81
  | .deferF f args p st => match T.funs f with
    | none => .fail 86
    | some fn => match fn.body with
      | none => .fail 87
      | some c => Tm.ofLK args fn.ntmps fun tm => rec (.codeS p c tm st) fun
        | .codeS p e tm st => match e with
          | .normal => match resultsOf T st.heap tm fn.results.toList with
            | some _ => k (.dret p st)
            | none => .fail 88
          | .ret => match resultsOf T st.heap tm fn.results.toList with
            | some _ => k (.dret p st)
            | none => .fail 88
          | _ => .fail 89
        | _ => .fail 90

theorem stepXF_eq {rec' : Task → K → Tr Out} {rec : Task → Tr Out} (hr : Follows rec' rec) (T : Tab) : Follows (stepXF T rec') (stepX T rec) := by
  intro t k
  cases t with
  | code ro c tm mk st =>
    cases c with
    | skip => rfl
    | label _ => rfl
    | exit _ => rfl
    | goto _ => rfl
    | ret => rfl
    | seq a b =>
      simp only [stepXF, stepX]
      rw [hr, Tr.bind_assoc]
      congr 1
      funext o
      cases o with
      | code e tm mk st => cases e <;> first | exact hr _ _ | rfl
      | _ => rfl
    | cond c a b =>
      simp only [stepXF, stepX]
      cases evO tm c with
      | none => rfl
      | some v =>
        cases v with
        | bool x =>
          simp only [bind_branchX]
          congr 1
          funext v st
          cases v <;> simp only [hr _ k]
        | _ => rfl
    | block id b =>
      simp only [stepXF, stepX]
      rw [hr, Tr.bind_assoc]
      congr 1
      funext o
      cases o with
      | code e tm mk st =>
        cases e with
        | exit id' =>
          simp only
          cases id'.beq id <;> simp only [if_true, Bool.false_eq_true, if_false] <;> rfl
        | _ => rfl
      | _ => rfl
    | scope b =>
      simp only [stepXF, stepX]
      rw [hr, Tr.bind_assoc]
      congr 1
      funext o
      cases o with
      | code e tm mk st => cases e <;> rfl
      | _ => rfl
    | loop b =>
      simp only [stepXF, stepX]
      exact loopRunF_eq hr ro b k _ _ _ _
    | region id ops draw =>
      simp only [stepXF, stepX]
      cases draw with
      | false =>
        simp only
        cases hd : deferOf ops with
        | none => exact runOpsF_eq hr k T ops (fun v tm st => .ret (.code (.pan v) tm mk st)) (fun tm st => .ret (.code .normal tm mk st)) (At.all ops) _ _
        | some q =>
          obtain ⟨n, o, c⟩ := q
          simp only
          cases ro with
          | true => rfl
          | false =>
            simp only
            have hn : n ≤ ops.size := by
              unfold deferOf at hd
              split at hd
              · cases hd
              · rename_i m hm
                split at hd
                · split at hd
                  · simp only [Option.some.injEq, Prod.mk.injEq] at hd
                    rw [← hd.1]; omega
                  · cases hd
                · cases hd
            rw [← runOpsF_eq hr k T ops (fun v tm st => .ret (.code (.pan v) tm mk st)) _ (At.take hn)]
            congr 1
            funext tm st
            cases c.callee with
            | value f =>
              simp only
              cases evO tm f with
              | none => rfl
              | some a =>
                cases evOs tm c.args.toList with
                | none => cases a <;> rfl
                | some args => cases a <;> rfl
            | _ => rfl
      | true => exact drawRunF_eq hr k T ops (fun v _ st => .ret (.code (.pan v) (poison ops.toList tm) mk st)) (fun tm st => .ret (.code .normal tm mk st)) _ _
    | rangeFunc g ps assign body =>
      simp only [stepXF, stepX]
      cases ro with
      | true => rfl
      | false =>
        cases evO tm g with
        | none => rfl
        | some v =>
          cases v with
          | func f first cap =>
            simp only [newK_eq, Tr.bind]
            congr 2
            rw [hr, Tr.bind_assoc]
            congr 1
            funext o
            cases o with
            | codeS _ _ _ _ => rfl
            | dret _ _ => rfl
            | code e tm mk st => rfl
            | call r st1 =>
              cases r with
              | pan v => rfl
              | ret v =>
                simp only
                cases lookB st1.heap (st.nb + 1) with
                | none => rfl
                | some ao =>
                  cases ao with
                  | loop s pend tm' ps' asg bd =>
                    cases s <;> first
                      | rfl
                      | (simp only [setSK_eq]
                         cases pend with
                         | none => rfl
                         | some c => exact hr _ _)
                  | _ => rfl
          | _ => rfl
    | refuse _ => rfl
  | callF f args st =>
    simp only [stepXF, stepX]
    cases T.specs f with
    | some sp => rfl
    | none =>
      simp only
      cases T.funs f with
      | none => rfl
      | some fn =>
        simp only
        cases T.memo f args with
        | some r => rfl
        | none =>
        simp only
        cases fn.body with
        | none => rfl
        | some c =>
          simp only [Tm.ofLK_eq]
          rw [hr, Tr.bind_assoc]
          congr 1
          funext o
          cases o with
          | code e tm mk st =>
            cases e with
            | normal => exact leaveXF_eq hr T _ _ _ k _ _ _
            | ret => exact leaveXF_eq hr T _ _ _ k _ _ _
            | pan v => exact leaveXF_eq hr T _ _ _ k _ _ _
            | _ => rfl
          | _ => rfl
  | round l args st =>
    simp only [stepXF, stepX]
    cases lookB st.heap l with
    | none => rfl
    | some ao =>
      cases ao with
      | loop s p tm ps asg bd =>
        cases s with
        | ready =>
          simp only
          cases args.length.beq ps.length with
          | false => rfl
          | true =>
            simp only [setTsK_eq]
            rw [hr, Tr.bind_assoc]
            congr 1
            funext o
            cases o with
            | call r st => rfl
            | codeS _ _ _ _ => rfl
            | dret _ _ => rfl
            | code e tm1 mk1 st1 =>
              cases e with
              | normal =>
                cases mk1 with
                | cons _ _ => rfl
                | nil =>
                  simp only
                  cases lookB st1.heap l with
                  | none => rfl
                  | some ao1 =>
                    cases ao1 with
                    | loop s1 pend1 tm2 ps2 asg2 bd2 =>
                      cases s1 with
                      | ready =>
                        simp only [setSK_eq]
                        rw [hr, Tr.bind_assoc]
                        congr 1
                        funext o
                        cases o with
                        | call r st => rfl
                        | codeS _ _ _ _ => rfl
                        | dret _ _ => rfl
                        | code e tm3 mk3 st3 =>
                          simp only
                          cases lookB st3.heap l with
                          | none => rfl
                          | some ao3 =>
                            cases ao3 with
                            | loop s4 pend4 tm4 ps4 asg4 bd4 =>
                              cases jumpOf e with
                              | none => rfl
                              | some j => cases j <;> rfl
                            | _ => rfl
                      | _ => rfl
                    | _ => rfl
              | _ => rfl
        | _ => rfl
      | _ => rfl
  | codeS p c tm st =>
    simp only [stepXF, stepX]
    cases noRec c with
    | true =>
      simp only
      rw [hr, Tr.bind_assoc]
      congr 1
      funext o
      cases o with
      | code e tm mk st => cases mk <;> cases e <;> rfl
      | _ => rfl
    | false =>
      simp only
      cases c with
      | seq a b =>
        simp only
        rw [hr, Tr.bind_assoc]
        congr 1
        funext o
        cases o with
        | codeS p e tm st => cases e <;> first | exact hr _ _ | rfl
        | _ => rfl
      | region id ops draw =>
        cases draw with
        | true => rfl
        | false =>
          simp only
          cases recAt ops with
          | none => rfl
          | some o =>
            simp only [putK_eq]
            exact runOpsF_eq hr k T ops (fun _ _ _ => .fail 84) (fun tm st => .ret (.codeS (recPS p) .normal tm st)) (At.drop ops) _ _
      | _ => rfl
  | deferF f args p st =>
    simp only [stepXF, stepX]
    cases T.funs f with
    | none => rfl
    | some fn =>
      simp only
      cases fn.body with
      | none => rfl
      | some c =>
        simp only [Tm.ofLK_eq]
        rw [hr, Tr.bind_assoc]
        congr 1
        funext o
        cases o with
        | codeS p e tm st =>
          cases e with
          | normal => simp only; cases resultsOf T st.heap tm fn.results.toList <;> rfl
          | ret => simp only; cases resultsOf T st.heap tm fn.results.toList <;> rfl
          | _ => rfl
        | _ => rfl

noncomputable def execF (T : Tab) : Nat → Task → K → Tr Out
  | 0, _, _ => .fail 99
  | n + 1, t, k => stepXF T (execF T n) t k

theorem execF_eq (T : Tab) : ∀ (n : Nat), Follows (execF T n) (exec T n)
  | 0 => fun _ _ => rfl
  | n + 1 => fun t k => stepXF_eq (execF_eq T n) T t k

end Go.Ex

namespace Go.Ex
open Go Go.RowKit

/-- The one outcome of a run without branches: this value. -/
noncomputable def retIs (r : AV) (t : Tr Out) : Bool :=
  Tr.rec (motive := fun _ => Bool)
    (fun o => match o with
      | .call (.ret v) _ => AV.eqb v r
      | _ => false)
    (fun _ _ _ _ _ => false) (fun _ _ _ _ => false) (fun _ ih => ih) (fun _ ih => ih) (fun _ => false) t

theorem retIs_sat {r : AV} {F : Sy} : ∀ {t : Tr Out} {env : Env}, retIs r t = true → t.sat F env fun _ o => ∃ st, o = .call (.ret r) st
  | .ret o, env, h => by
    simp only [retIs] at h
    cases o with
    | code _ _ _ _ => cases h
    | codeS _ _ _ _ => cases h
    | dret _ _ => cases h
    | call q st =>
      cases q with
      | pan _ => cases h
      | ret v =>
        have := AV.eqb_eq _ _ h
        subst this
        exact ⟨st, rfl⟩
  | .br _ _ _, _, h => by cases h
  | .call _ _ _, _, h => by cases h
  | .new k, env, h => fun n => retIs_sat (t := k) h
  | .newc k, env, h => fun n c => retIs_sat (t := k) h
  | .fail _, _, h => by cases h

/-- The state at a beginning. -/
def st0 (e0 : Env) : St := { nb := e0.length, heap := [], facts := [] }

theorem WRel.start {C : Ctx} {w : World} (hw : Below C.w0.heap.size C.w0 w) : WRel C C.e0 (st0 C.e0) w :=
  ⟨hw, rfl, (fun p hp => by cases hp), List.nodup_nil, (fun p hp => by cases hp), (fun p hp => by cases hp), List.prefix_refl _⟩

theorem Keep.start {C : Ctx} {w w' : World} {env' : Env} {st' : St} (hw : Below C.w0.heap.size C.w0 w) (hw' : WRel C env' st' w') (h : Keep C.e0 (st0 C.e0) w env' st' w') : Below w.heap.size w w' :=
  ⟨hw'.below.os.trans hw.os.symm, hw'.below.tape.trans hw.tape.symm, hw'.below.output.trans hw.output.symm, h.size, fun k hk => h.block k hk fun p hp => by cases hp⟩

/-- A call, run from a beginning. -/
theorem calls_of_sat {C : Ctx} (hT : TabOk C) (hSp : SpecsOk C) {n f : Nat} {args : List AV} {Q : Env → Out → Prop} (h : (exec C.T n (.callF f args (st0 C.e0))).sat C.S C.e0 Q) {vs : List Value} (hvs : AV.dens C.e0 args = some vs) {w : World} (hw : Below C.w0.heap.size C.w0 w) :
    Calls C.P f vs.toArray w fun e w' => Below w.heap.size w w' ∧ ∃ env' rv st', Q env' (.call rv st') ∧ WRel C env' st' w' ∧ RRel env' rv e := by
  have hS := exec_sound hT hSp n
  have hc := (hS _ _ _ h).2 0 vs w hvs (WRel.start hw)
  rw [callsIn_wide] at hc
  refine hc.mono ?_
  rintro e w' ⟨env', rv, st', hq, hw', hk, hr⟩
  exact ⟨Keep.start hw hw' hk, env', rv, st', hq, hw', hr⟩

theorem memo_of_run {C : Ctx} (hT : TabOk C) (hSp : SpecsOk C) {n f : Nat} {args : List AV} {r : AV} (h : retIs r (execF C.T n (.callF f args (st0 C.e0)) Tr.ret) = true) (ha : (AV.dens [] args).isSome = true) (hr : (r.den []).isSome = true) : MemoFact C.P C.w0 f args r := by
  obtain ⟨vs, hvs⟩ := Option.isSome_iff_exists.1 ha
  obtain ⟨V, hV⟩ := Option.isSome_iff_exists.1 hr
  refine ⟨vs, V, hvs, hV, fun w hw => ?_⟩
  rw [execF_eq] at h
  have hb : ∀ t : Tr Out, t.bind Tr.ret = t := by
    intro t
    induction t with
    | ret _ => rfl
    | br c t e h1 h2 => simp only [Tr.bind, h1, h2]
    | call s xs k h => simp only [Tr.bind, h]
    | new k h => simp only [Tr.bind, h]
    | newc k h => simp only [Tr.bind, h]
    | fail _ => rfl
  rw [hb] at h
  refine (calls_of_sat hT hSp (retIs_sat h) (AV.dens_mono (List.nil_prefix) _ hvs) hw).mono ?_
  rintro e w' ⟨hbe, env', rv, st', ⟨st, hq⟩, hw', hr'⟩
  refine ⟨hbe, ?_⟩
  cases hq
  cases e with
  | returned V' =>
    have : r.den env' = some V' := hr'
    rw [AV.den_mono (List.nil_prefix) _ hV] at this
    cases this; rfl
  | panicked _ => exact hr'.elim
  | outgrown => exact hr'.elim

end Go.Ex

namespace Go.Ex
open Go Go.RowKit Go.WideElems Go.ChangeShapes

theorem perm_of_map {α β : Type} (f : α → β) : ∀ {D : List β} {l : List α}, (l.map f).Perm D → ∃ l', l.Perm l' ∧ l'.map f = D
  | [], l, h => by
    have : l = [] := by simpa using h.eq_nil
    subst this
    exact ⟨[], List.Perm.nil, rfl⟩
  | d :: D, l, h => by
    have hm : d ∈ l.map f := h.symm.subset (List.mem_cons_self ..)
    obtain ⟨a, ha, rfl⟩ := List.mem_map.1 hm
    obtain ⟨s, t, rfl⟩ := List.append_of_mem ha
    have h1 : (s ++ a :: t).Perm (a :: (s ++ t)) := List.perm_middle
    have h2 : (f a :: (s ++ t).map f).Perm (f a :: D) := (h1.map f).symm.trans h
    obtain ⟨l', h3, h4⟩ := perm_of_map f (List.Perm.cons_inv h2)
    exact ⟨a :: l', h1.trans (h3.cons a), by simp [h4]⟩

/-- A row of numbers that is read. -/
theorem int_row {H : Type} {enc : TypeId × Value → H} {P : Program} {w : World} {held : Bool} {t e fuel : Nat} (ht : P.underlying t = some (.slice e)) (he : P.underlying e = some (.int .i64)) (hc : P.cellsOf e = 1) {v : Value} {ns : List Int} {pl : List MemPlace} (hn : ns ≠ [])
    (h : DataW.trod enc P w 0 (fun _ => true) held fuel t [v] = some (.slice (ns.map fun n => .lit (.int .i64 n)) [], pl)) :
    ∃ k o c, v = .slice (some ⟨k, o, none⟩) ns.length c ∧ k < w.heap.size ∧ ∀ (j : Nat) n, ns[j]? = some n → w.cell? ⟨k, o + j, none⟩ = some (.int .i64 n) := by
  rcases Go.Deep.open_slice1 ht hc h with ⟨_, hx⟩ | ⟨a, len, cap, m, n, V, D, Pl, hv, _, hl, _, hm, hx, hV⟩
  · simp at hx
  · simp only [Prod.mk.injEq, DataW.slice.injEq] at hx
    obtain ⟨⟨h1, h2⟩, _⟩ := hx
    have hlen : len = ns.length := by
      have := congrArg List.length h1
      simpa using this.symm
    have hD : ∀ j q, ns[j]? = some q → D j = .lit (.int .i64 q) := by
      intro j q hj
      have hlt : j < len := by rw [hlen]; exact (List.getElem?_eq_some_iff.1 hj).1
      have := congrArg (fun l => l[j]?) h1
      simp only [List.getElem?_map, hj, Option.map_some, List.getElem?_range hlt] at this
      simpa using this.symm
    have hml : len ≤ m := by rw [hm]; split <;> omega
    have hcell : ∀ j q, ns[j]? = some q → w.cell? (a.add j) = some (.int .i64 q) := by
      intro j q hj
      have hlt : j < len := by rw [hlen]; exact (List.getElem?_eq_some_iff.1 hj).1
      obtain ⟨g1, g2⟩ := hV j (by omega)
      obtain ⟨k, e1, e2, _⟩ := DataW.trod_int he g2
      rw [hD j q hj] at e2
      simp only [Prod.mk.injEq, DataW.lit.injEq, Lit.int.injEq, true_and] at e2
      have e1' : V j = .int .i64 k := by simpa using e1
      rw [g1, e1', e2.1]
    have hs : a.spot = none ∧ a.block < w.heap.size := by
      cases ns with
      | nil => exact absurd rfl hn
      | cons q ns =>
        have := hcell 0 q rfl
        have e0 : a.add 0 = a := rfl
        rw [e0] at this
        unfold World.cell? at this
        split at this
        · rename_i c t fz hb
          refine ⟨?_, (Array.getElem?_eq_some_iff.1 hb).1⟩
          split at this
          · cases this
          · rename_i hsp; simpa using hsp
        · cases this
    obtain ⟨block, off, spot⟩ := a
    simp only at hs
    obtain ⟨rfl, hb⟩ := hs
    have hv' : v = .slice (some ⟨block, off, none⟩) len cap := by simpa using hv
    refine ⟨block, off, cap, by rw [hv', hlen], hb, fun j q hj => ?_⟩
    have := hcell j q hj
    rwa [addr_add] at this

end Go.Ex
