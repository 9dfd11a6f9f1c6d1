/- A symbolic executor for Go code in the model, proved sound for any program: slices, appends, sums of digits, maps, rows that are only read. No condition. -/
import Derived.Test.YtefmckneohhijaaGreatDoorHExB
import Derived.Laws.AppendOwn
import Derived.Laws.Slices
import Derived.MapKept
namespace Go.Ex
open Go Go.RowKit

/-! ### Slices of slices -/
def litN (tm : Tm) : Option Operand → Option (Option Nat)
  | none => some none
  | some x => match evO tm x with
    | some (.int _ (.ci n)) => if n < 0 then none else some (some n.toNat)
    | _ => none

def bound3 (len cap : Nat) : Option Nat → Option Nat → Option Nat → Option (Nat × Nat × Nat)
  | lo, hi, mx => match (match hi, mx with
      | some h, _ => some h
      | none, none => some len
      | none, some _ => none) with
    | none => none
    | some h => if Nat.ble (mx.getD cap) cap && (Nat.ble h (mx.getD cap) && Nat.ble (lo.getD 0) h) then some (lo.getD 0, h, mx.getD cap) else none

def sliceAV (size : Nat) (a : AV) (lo hi mx : Option Nat) : Option AV :=
  match a with
  | .slice id off len cap => match bound3 len cap lo hi mx with
    | some (l, h, m) => some (.slice id (if m.beq l then off else off + l * size) (h - l) (m - l))
    | none => none
  | .nilslice => match bound3 0 0 lo hi mx with
    | some _ => some .nilslice
    | none => none
  | .vsl id len => match mx with
    | some m => match Nat.ble m len, bound3 len len lo hi (some m) with
      | true, some (l, h, m) => some (.slice id (if m.beq l then 0 else l * size) (h - l) (m - l))
      | _, _ => none
    | none => match (lo.getD 0).beq 0, Nat.ble (hi.getD len) len with
      | true, true => some (.vsl id (hi.getD len))
      | _, _ => none
  | _ => none

/-- A comparison of a slice with nil. -/
def nilEq : AV → AV → Option Bool
  | .nilslice, .nilslice => some true
  | .nilslice, .slice _ _ _ _ => some false
  | .nilslice, .vsl _ _ => some false
  | .nilslice, .rsl _ _ => some false
  | .rsl _ _, .nilslice => some false
  | .slice _ _ _ _, .nilslice => some false
  | .vsl _ _, .nilslice => some false
  | _, _ => none

theorem nilEq_ok {env : Env} {a b : AV} {u v : Value} (ha : a.den env = some u) (hb : b.den env = some v) {r : Bool} (h : nilEq a b = some r) :
    (∃ x n c, u = .slice x n c) ∧ (∃ x n c, v = .slice x n c) ∧ ∀ {P : Program} {t e : Nat} (w : World), P.underlying t = some (.slice e) → (Op.equal t u v).run P w = .ok r w := by
  have key : ∀ {P : Program} {t e : Nat} (w : World), P.underlying t = some (.slice e) → ∀ (x y : Option Addr) (n c n' c' : Nat) (q : Bool), ((x = none ∧ q = y.isNone) ∨ (x ≠ none ∧ y = none ∧ q = false)) → (Op.equal t (.slice x n c) (.slice y n' c')).run P w = .ok q w := by
    intro P t e w hu x y n c n' c' q hq
    have e1 : ∀ d, (Op.equalIn (d + 1) t (.slice x n c) (.slice y n' c')).run P w = .ok q w := by
      intro d
      rcases hq with ⟨rfl, rfl⟩ | ⟨hx, rfl, rfl⟩
      · simp only [Op.equalIn, Sem.run_bind, run_underlying hu, Result.andThen_ok, Sem.run_pure]
      · cases x with
        | none => exact absurd rfl hx
        | some x => simp only [Op.equalIn, Sem.run_bind, run_underlying hu, Result.andThen_ok, Sem.run_pure]
    exact e1 9999
  have nil : ∀ {z : Value}, AV.nilslice.den env = some z → z = .slice none 0 0 := fun hz => by simp only [AV.den, Option.some.injEq] at hz; exact hz.symm
  unfold nilEq at h
  split at h
  · cases h; rw [nil ha, nil hb]
    exact ⟨⟨_, _, _, rfl⟩, ⟨_, _, _, rfl⟩, fun w hu => key w hu _ _ _ _ _ _ _ (.inl ⟨rfl, rfl⟩)⟩
  · cases h; rw [nil ha]; obtain ⟨k, hk, rfl⟩ := AV.den_slice hb
    exact ⟨⟨_, _, _, rfl⟩, ⟨_, _, _, rfl⟩, fun w hu => key w hu _ _ _ _ _ _ _ (.inl ⟨rfl, rfl⟩)⟩
  · cases h; rw [nil ha]; obtain ⟨k, c, hk, rfl⟩ := AV.den_vsl hb
    exact ⟨⟨_, _, _, rfl⟩, ⟨_, _, _, rfl⟩, fun w hu => key w hu _ _ _ _ _ _ _ (.inl ⟨rfl, rfl⟩)⟩
  · cases h; rw [nil ha]; obtain ⟨k, o, c, n, hk, _, _, rfl⟩ := AV.den_rsl hb
    exact ⟨⟨_, _, _, rfl⟩, ⟨_, _, _, rfl⟩, fun w hu => key w hu _ _ _ _ _ _ _ (.inl ⟨rfl, rfl⟩)⟩
  · cases h; rw [nil hb]; obtain ⟨k, o, c, n, hk, _, _, rfl⟩ := AV.den_rsl ha
    exact ⟨⟨_, _, _, rfl⟩, ⟨_, _, _, rfl⟩, fun w hu => key w hu _ _ _ _ _ _ _ (.inr ⟨by simp, rfl, rfl⟩)⟩
  · cases h; rw [nil hb]; obtain ⟨k, hk, rfl⟩ := AV.den_slice ha
    exact ⟨⟨_, _, _, rfl⟩, ⟨_, _, _, rfl⟩, fun w hu => key w hu _ _ _ _ _ _ _ (.inr ⟨by simp, rfl, rfl⟩)⟩
  · cases h; rw [nil hb]; obtain ⟨k, c, hk, rfl⟩ := AV.den_vsl ha
    exact ⟨⟨_, _, _, rfl⟩, ⟨_, _, _, rfl⟩, fun w hu => key w hu _ _ _ _ _ _ _ (.inr ⟨by simp, rfl, rfl⟩)⟩
  · cases h

def pop2 (T : Tab) (tm : Tm) (o : Op) : Option AV :=
  match o with
  | .slice t x lo hi mx => match T.tys t, evO tm x, litN tm lo, litN tm hi, litN tm mx with
    | some ti, some a, some lo, some hi, some mx => match ti.desc with
      | .slice e => match T.tys e with
        | some te => sliceAV te.size a lo hi mx
        | none => none
      | _ => none
    | _, _, _, _, _ => none
  | .binOp op t x y _ => match T.tys t, evO tm x, evO tm y with
    | some ti, some a, some b => match ti.desc with
      | .slice _ => match nilEq a b, op with
        | some r, .eql => some (.bool (.cb r))
        | some r, .neq => some (.bool (.cb (!r)))
        | _, _ => none
      | _ => none
    | _, _, _ => none
  | .indexAddr t x i => match T.tys t, evO tm x, evO tm i with
    | some ti, some (.vsl b len), some (.int _ (.ci n)) => match ti.desc with
      | .slice e => match T.tys e with
        | some te => if n < 0 then none else if n < len then some (.ptr b (n.toNat * te.size)) else none
        | none => none
      | _ => none
    | _, _, _ => none
  | .index t x i => match T.tys t, evO tm x, evO tm i with
    | some ti, some (.str (.cs l)), some (.int _ (.ci n)) => match ti.desc with
      | .string => if n < 0 then none else match l[n.toNat]? with
        | some b => some (.int .u8 (.ci (b.toNat : Int)))
        | none => none
      | _ => none
    | _, _, _ => none
  | .call c => match c.callee, evOs tm c.args.toList, c.argTypes.toList with
    | .builtin .len, some [.vsl _ n], [t] => match T.tys t with
      | some ti => match ti.desc with
        | .slice _ => some (.int .i64 (.ci n))
        | _ => none
      | none => none
    | _, _, _ => none
  | _ => none

theorem litN_ok {env : Env} {tm : Tm} {a : Act} (ht : TRel env tm a.tmps) {x : Option Operand} {r : Option Nat} (h : litN tm x = some r) : (x = none ∧ r = none) ∨ ∃ y k n, x = some y ∧ r = some n ∧ a.eval y = .int k (n : Int) := by
  unfold litN at h
  split at h
  · cases h; exact .inl ⟨rfl, rfl⟩
  · rename_i y
    split at h
    · rename_i k n hy
      split at h
      · cases h
      · rename_i hn
        cases h
        obtain ⟨m, hm, he⟩ := AV.den_int (evO_ok ht hy)
        simp only [X.den, Option.some.injEq, Sc.i.injEq] at hm
        subst hm
        exact .inr ⟨y, _, _, rfl, rfl, by rw [he, Int.toNat_of_nonneg (by omega)]⟩
    · cases h

theorem bounds_ok {P : Program} {w : World} {env : Env} {tm : Tm} {a : Act} (ht : TRel env tm a.tmps) {lo hi mx : Option Operand} {l h m : Option Nat} (hl : litN tm lo = some l) (hh : litN tm hi = some h) (hm : litN tm mx = some m) {len cap : Nat} {r : Nat × Nat × Nat}
    (hb : bound3 len cap l h m = some r) : (Instr.sliceBounds true len cap (lo.map a.eval) (hi.map a.eval) (mx.map a.eval)).run P w = .ok r w := by
  unfold bound3 at hb
  rcases litN_ok ht hl with ⟨rfl, rfl⟩ | ⟨y1, k1, n1, rfl, rfl, e1⟩ <;>
  rcases litN_ok ht hh with ⟨rfl, rfl⟩ | ⟨y2, k2, n2, rfl, rfl, e2⟩ <;>
  rcases litN_ok ht hm with ⟨rfl, rfl⟩ | ⟨y3, k3, n3, rfl, rfl, e3⟩ <;>
  simp only [Option.getD_none, Option.getD_some] at hb <;>
  first
    | (cases hb; done)
    | (split at hb
       · rename_i hc
         simp only [Bool.and_eq_true, Nat.ble_eq] at hc
         cases hb
         simp only [Instr.sliceBounds, Option.map_none, Option.map_some, Sem.run_bind, Sem.run_pure, Result.andThen_ok, *]
         repeat (first | rw [run_sliceBound] | simp only [Result.andThen_ok, Int.toNat_natCast, Option.isSome_some, Option.isSome_none] | omega)
       · cases hb)

theorem bound3_zero {lo hi mx : Option Nat} {l h m : Nat} (hb : bound3 0 0 lo hi mx = some (l, h, m)) : l = 0 ∧ h = 0 ∧ m = 0 := by
  unfold bound3 at hb
  cases hi <;> cases mx <;> simp only at hb <;> first
    | (cases hb; done)
    | (split at hb
       · rename_i hc
         simp only [Bool.and_eq_true, Nat.ble_eq, Option.getD_none, Option.getD_some] at hc
         simp only [Option.some.injEq, Prod.mk.injEq, Option.getD_none, Option.getD_some] at hb
         omega
       · cases hb)

theorem pop2_ok {C : Ctx} (hT : TabOk C) {env : Env} {tm : Tm} {a : Act} (ht : TRel env tm a.tmps) {o : Oper} {v : AV} (h : pop2 C.T tm o.op = some v) (w : World) : PopOk C env a o v w := by
  obtain ⟨dst, op, type, pos, after, guard⟩ := o
  unfold PopOk execOp
  cases op <;> simp only [pop2] at h ⊢
  case slice t x lo hi mx =>
    split at h
    · rename_i ti av l h' m hti hx hl hh hm
      split at h
      · rename_i e hd
        split at h
        · rename_i te hte
          have h1 := (hT.tys _ _ hti).run_und w
          rw [hd] at h1
          have h2 := (hT.tys _ _ hte).run_size w
          unfold sliceAV at h
          split at h
          · rename_i id off len cap
            split at h
            · rename_i l1 h1' m1 hb
              cases h
              obtain ⟨k, hk, he⟩ := AV.den_slice (evO_ok ht hx)
              have hbo := bounds_ok (P := C.P) (w := w) ht hl hh hm hb
              refine ⟨.slice (some ⟨k, if m1.beq l1 then off else off + l1 * te.size, none⟩) (h1' - l1) (m1 - l1), by simp only [AV.den, hk], ?_⟩
              simp only [Sem.run_bind, Instr.sliceAt, Instr.slice, h1, he, Result.andThen_ok, hbo, h2, Sem.run_pure]
              by_cases hml : m1 = l1
              · subst hml; simp
              · have : m1.beq l1 = false := by
                  cases hb' : m1.beq l1 with
                  | true => exact absurd (Nat.eq_of_beq_eq_true hb') hml
                  | false => rfl
                simp [hml, this, addr_add]
            · cases h
          · split at h
            · rename_i r hb
              injection h with h
              subst h
              have he : a.eval x = .slice none 0 0 := by have := evO_ok ht hx; simp only [AV.den, Option.some.injEq] at this; exact this.symm
              have hbo := bounds_ok (P := C.P) (w := w) ht hl hh hm hb
              obtain ⟨l1, h1', m1⟩ := r
              have hz := bound3_zero hb
              obtain ⟨rfl, rfl, rfl⟩ := hz
              refine ⟨_, rfl, ?_⟩
              simp only [Sem.run_bind, Instr.sliceAt, Instr.slice, h1, he, Result.andThen_ok, hbo, h2, Sem.run_pure]
              simp
            · cases h
          · rename_i id len
            obtain ⟨k, c, hk, he, hle⟩ := AV.den_vsl' (evO_ok ht hx)
            split at h
            · rename_i m0
              split at h
              · rename_i l1 h1' m1 hml hb
                cases h
                have hml' := Nat.le_of_ble_eq_true hml
                have hb' : bound3 len c l h' (some m0) = some (l1, h1', m1) := by
                  unfold bound3 at hb ⊢
                  cases h' with
                  | none => cases hb
                  | some hq =>
                    simp only [Option.getD_some, Bool.and_eq_true, Nat.ble_eq] at hb ⊢
                    split at hb
                    · rename_i hcc
                      rw [if_pos ⟨by omega, hcc.2⟩]; exact hb
                    · cases hb
                have hbo := bounds_ok (P := C.P) (w := w) ht hl hh hm hb'
                refine ⟨.slice (some ⟨k, if m1.beq l1 then 0 else l1 * te.size, none⟩) (h1' - l1) (m1 - l1), by simp only [AV.den, addr_of_cap hk], ?_⟩
                simp only [Sem.run_bind, Instr.sliceAt, Instr.slice, h1, he, Result.andThen_ok, hbo, h2, Sem.run_pure]
                by_cases hml : m1 = l1
                · subst hml; simp
                · have : m1.beq l1 = false := by
                    cases hb' : m1.beq l1 with
                    | true => exact absurd (Nat.eq_of_beq_eq_true hb') hml
                    | false => rfl
                  simp [hml, this, addr_add]
              · cases h
            · split at h
              · rename_i hlo hhi
                cases h
                have hlo' := Nat.eq_of_beq_eq_true hlo
                have hhi' := Nat.le_of_ble_eq_true hhi
                have hb' : bound3 len c l h' none = some (0, h'.getD len, c) := by
                  unfold bound3
                  cases h' with
                  | none =>
                    simp only [Option.getD_none] at hhi' ⊢
                    rw [hlo']
                    simp [hle]
                  | some hq =>
                    simp only [Option.getD_none, Option.getD_some] at hhi' ⊢
                    rw [hlo']
                    have : hq ≤ c := by omega
                    simp [this]
                have hbo := bounds_ok (P := C.P) (w := w) ht hl hh hm hb'
                refine ⟨.slice (some ⟨k, 0, none⟩) (h'.getD len) c, by simp only [AV.den, hk, if_pos (show h'.getD len ≤ c by omega)], ?_⟩
                simp only [Sem.run_bind, Instr.sliceAt, Instr.slice, h1, he, Result.andThen_ok, hbo, h2, Sem.run_pure]
                by_cases hc0 : c = 0
                · subst hc0; simp
                · simp [hc0, addr_add]
              · cases h
          · cases h
        · cases h
      · cases h
    · cases h
  case binOp op t x y yt =>
    split at h
    · rename_i ti av bv hti hx hy
      split at h
      · rename_i e hd
        have hu : C.P.underlying t = some (.slice e) := by rw [(hT.tys _ _ hti).und, hd]
        split at h
        · rename_i r hr
          cases h
          obtain ⟨⟨x1, n1, c1, e1⟩, ⟨x2, n2, c2, e2⟩, hq⟩ := nilEq_ok (evO_ok ht hx) (evO_ok ht hy) hr
          refine ⟨.bool r, by simp only [AV.den, X.den], ?_⟩
          have := hq w hu
          rw [e1, e2] at this ⊢
          simp only [Sem.run_bind, run_eqGuard_other (P := C.P) (op := .eql) (t := t) (x := x) (y := y) (a := .slice x1 n1 c1) (b := .slice x2 n2 c2) (w := w) (fun _ _ h => by cases h) (fun h => by cases h), Result.andThen_ok, binOp, this, Sem.run_pure]
        · rename_i r hr
          cases h
          obtain ⟨⟨x1, n1, c1, e1⟩, ⟨x2, n2, c2, e2⟩, hq⟩ := nilEq_ok (evO_ok ht hx) (evO_ok ht hy) hr
          refine ⟨.bool (!r), by simp only [AV.den, X.den], ?_⟩
          have := hq w hu
          rw [e1, e2] at this ⊢
          simp only [Sem.run_bind, run_eqGuard_other (P := C.P) (op := .neq) (t := t) (x := x) (y := y) (a := .slice x1 n1 c1) (b := .slice x2 n2 c2) (w := w) (fun _ _ h => by cases h) (fun h => by cases h), Result.andThen_ok, binOp, this, Sem.run_pure]
        · cases h
      · cases h
    · cases h
  case indexAddr t x i =>
    split at h
    · rename_i ti b len k n hti hx hi
      split at h
      · rename_i e hd
        split at h
        · rename_i te hte
          split at h
          · cases h
          · rename_i hn0
            split at h
            · rename_i hn1
              cases h
              have h1 := (hT.tys _ _ hti).run_und w
              rw [hd] at h1
              have h2 := (hT.tys _ _ hte).run_size w
              obtain ⟨kk, c, hk, he⟩ := AV.den_vsl (evO_ok ht hx)
              obtain ⟨m, hm, hei⟩ := AV.den_int (evO_ok ht hi)
              simp only [X.den, Option.some.injEq, Sc.i.injEq] at hm
              subst hm
              refine ⟨.pointer (some ⟨kk, n.toNat * te.size, none⟩), by simp only [AV.den, addr_of_cap hk], ?_⟩
              simp only [Sem.run_bind, Instr.indexAt, h1, he, hei, asIntOf, Result.andThen_ok, Sem.run_pure, if_pos (show 0 ≤ n ∧ n < ↑len from ⟨by omega, hn1⟩), h2, addr_add, Nat.zero_add]
            · cases h
        · cases h
      · cases h
    · cases h
  case index t x i =>
    split at h
    · rename_i ti l k n hti hx hi
      split at h
      · rename_i hd
        split at h
        · cases h
        · rename_i hn0
          split at h
          · rename_i b hb
            cases h
            have h1 := (hT.tys _ _ hti).run_und w
            rw [hd] at h1
            obtain ⟨s, hs, he⟩ := AV.den_str (evO_ok ht hx)
            simp only [X.den, Option.some.injEq, Sc.s.injEq] at hs
            subst hs
            obtain ⟨m, hm, hei⟩ := AV.den_int (evO_ok ht hi)
            have := den_lit hm; subst this
            refine ⟨.int .u8 (b.toNat : Int), by simp only [AV.den, X.den], ?_⟩
            have hget : (⟨l.toArray⟩ : ByteArray)[m.toNat]? = some b := by
              rw [← hb]
              by_cases hlt : m.toNat < l.length
              · rw [List.getElem?_eq_getElem hlt]
                rw [getElem?_pos (⟨l.toArray⟩ : ByteArray) m.toNat (by simpa [ByteArray.size] using hlt)]
                rfl
              · rw [List.getElem?_eq_none (by omega)]
                rw [getElem?_neg (⟨l.toArray⟩ : ByteArray) m.toNat (by simpa [ByteArray.size] using hlt)]
            simp only [Sem.run_bind, Instr.index, asIntOf, he, hei, h1, Result.andThen_ok, Sem.run_pure, if_pos (show 0 ≤ m by omega), hget]
          · cases h
      · cases h
    · cases h
  case call c =>
    obtain ⟨callee, args, argTypes⟩ := c
    simp only at h ⊢
    split at h
    · rename_i id n t hargs hts
      have h1 := evOs_ok ht hargs
      obtain ⟨u, us, hu, hus, e⟩ := AV.dens_cons h1
      cases AV.dens_nil' hus
      obtain ⟨kk, cc, hk, rfl⟩ := AV.den_vsl hu
      have eargs : args.map a.eval = #[.slice (some ⟨kk, 0, none⟩) n cc] := by obtain ⟨args⟩ := args; simpa using e
      have ets : argTypes = #[t] := by obtain ⟨l⟩ := argTypes; simp at hts ⊢; exact hts
      subst ets
      split at h
      · rename_i ti hti
        have h2 := (hT.tys _ _ hti).run_und w
        split at h
        · rename_i hd
          cases h
          rw [hd] at h2
          refine ⟨.int .i64 n, by simp only [AV.den, X.den], ?_⟩
          simp [resolve, eargs, invoke, builtin, Builtin.len_, h2, goInt]
        · cases h
      · cases h
    · cases h
  all_goals (cases h)

end Go.Ex

namespace Go.Ex
open Go Go.RowKit

/-- The cells of a slice, and how many elements it has. -/
def rowOf (heap : List (Nat × AO)) (size : Nat) : AV → Option (List AV × Nat)
  | .slice id off n _ => match lookB heap id with
    | some (.cells cs _) => if Nat.ble (off + n * size) cs.length then some ((cs.drop off).take (n * size), n) else none
    | some (.pref cs _ _ _) => if Nat.ble (off + n * size) cs.length then some ((cs.drop off).take (n * size), n) else none
    | _ => none
  | .vsl id n => match lookB heap id with
    | some (.pref cs _ _ _) => if Nat.ble (n * size) cs.length then some (cs.take (n * size), n) else none
    | _ => none
  | .nilslice => some ([], 0)
  | _ => none

def RowIs (w : World) (v : Value) (n : Nat) (vs : List Value) : Prop :=
  (v = .slice none 0 0 ∧ n = 0 ∧ vs = []) ∨ ∃ ad c, v = .slice (some ad) n c ∧ ∀ (j : Nat) (u : Value), vs[j]? = some u → w.cell? (ad.add j) = some u

theorem cell_in {C : Ctx} {env : Env} {st : St} {w : World} (hw : WRel C env st w) {id k : Nat} {cs : List AV} (hk : addr env id = some k) (hl : (∃ e, lookB st.heap id = some (.cells cs e)) ∨ ∃ e sz id', lookB st.heap id = some (.pref cs e sz id')) :
    ∃ vs, AV.dens env cs = some vs ∧ (∀ v ∈ vs, isOne v = true) ∧ ∀ (j : Nat) (u : Value), vs[j]? = some u → w.cell? ⟨k, j, none⟩ = some u := by
  rcases hl with ⟨e, hl⟩ | ⟨e, sz, id', hl⟩
  · obtain ⟨k', o, h1, h2, h3, h4, h5⟩ := hw.look hl
    obtain ⟨vs, hvs, hone, rfl⟩ := h5
    rw [hk] at h1; cases h1
    exact ⟨vs, hvs, hone, fun j u hj => by rw [cell_of_row w k j vs.toArray e (0, 0) h4]; simpa using hj⟩
  · obtain ⟨k', o, h1, h2, h3, h4, h5⟩ := hw.look hl
    obtain ⟨vs, cur, kc, hvs, hone, hcap, rfl, htake, hn, hcs', hmax⟩ := h5
    rw [hk] at h1; cases h1
    refine ⟨vs, hvs, hone, fun j u hj => ?_⟩
    rw [cell_of_row w k j cur e (0, 0) h4]
    rw [← htake, List.getElem?_take] at hj
    split at hj
    · simpa using hj
    · cases hj

theorem rowOf_ok {C : Ctx} {env : Env} {st : St} {w : World} (hw : WRel C env st w) {size : Nat} {a : AV} {v : Value} (hv : a.den env = some v) {cs : List AV} {n : Nat} (h : rowOf st.heap size a = some (cs, n)) :
    ∃ vs, AV.dens env cs = some vs ∧ (∀ u ∈ vs, isOne u = true) ∧ vs.length = n * size ∧ RowIs w v n vs := by
  have key : ∀ {id off k : Nat} {cs0 : List AV} {m c : Nat}, addr env id = some k → ((∃ e, lookB st.heap id = some (.cells cs0 e)) ∨ ∃ e sz id', lookB st.heap id = some (.pref cs0 e sz id')) → off + m * size ≤ cs0.length →
      ∃ vs, AV.dens env ((cs0.drop off).take (m * size)) = some vs ∧ (∀ u ∈ vs, isOne u = true) ∧ vs.length = m * size ∧ RowIs w (.slice (some ⟨k, off, none⟩) m c) m vs := by
    intro id off k cs0 m c hk hl hle
    obtain ⟨vs, hvs, hone, hcell⟩ := cell_in hw hk hl
    have hlen := AV.dens_length hvs
    refine ⟨(vs.drop off).take (m * size), AV.dens_take _ (AV.dens_drop _ hvs), fun u hu => hone u (List.mem_of_mem_drop (List.mem_of_mem_take hu)), by simp; omega, .inr ⟨_, _, rfl, fun j u hj => ?_⟩⟩
    rw [addr_add]
    refine hcell _ _ ?_
    rw [List.getElem?_take] at hj
    split at hj
    · simpa using hj
    · cases hj
  unfold rowOf at h
  split at h
  · rename_i id off m cap
    obtain ⟨k, hk, rfl⟩ := AV.den_slice hv
    split at h
    · rename_i cs0 e hl
      split at h
      · rename_i hle
        cases h
        exact key hk (.inl ⟨e, hl⟩) (Nat.le_of_ble_eq_true hle)
      · cases h
    · rename_i cs0 e sz id' hl
      split at h
      · rename_i hle
        cases h
        exact key hk (.inr ⟨e, sz, id', hl⟩) (Nat.le_of_ble_eq_true hle)
      · cases h
    · cases h
  · rename_i id m
    obtain ⟨k, c, hk, rfl⟩ := AV.den_vsl hv
    split at h
    · rename_i cs0 e sz id' hl
      split at h
      · rename_i hle
        cases h
        have := key (off := 0) (m := n) (c := c) (addr_of_cap hk) (.inr ⟨e, sz, id', hl⟩) (by simpa using Nat.le_of_ble_eq_true hle)
        simpa using this
      · cases h
    · cases h
  · cases h
    have : v = .slice none 0 0 := by simp only [AV.den, Option.some.injEq] at hv; exact hv.symm
    exact ⟨[], rfl, by simp, by simp, .inl ⟨this, rfl, rfl⟩⟩
  · cases h

inductive AppR where
  | same (v : AV)
  | grow (cs : List AV) (elem size len : Nat) (drop : Option Nat)

def appS (heap : List (Nat × AO)) (s : AV) (m : Nat) (olds : List AV) (n : Nat) (news : List AV) (e size : Nat) : Option AppR :=
  match s with
  | .nilslice => match n.beq 0 with
    | true => some (.same .nilslice)
    | false => some (.grow news e size n none)
  | .slice id off len cap => match n.beq 0 with
    | true => if Nat.ble len cap then some (.same (.slice id off len cap)) else none
    | false => if Nat.blt cap (m + n) then some (.grow (olds ++ news) e size (m + n) none) else none
  | .vsl id _ => match n.beq 0, lookB heap id with
    | false, some (.pref _ e' sz id') => if e'.beq e && (sz.beq size && id'.beq id) then some (.grow (olds ++ news) e size (m + n) (some id)) else none
    | true, some (.pref _ _ sz id') => if sz.beq size && id'.beq id then some (.same s) else none
    | _, _ => none
  | _ => none

def apop (T : Tab) (heap : List (Nat × AO)) (tm : Tm) (o : Op) : Option AppR :=
  match o with
  | .call c => match c.callee, evOs tm c.args.toList, c.argTypes.toList with
    | .builtin .append, some [s, x], [t, tx] => match T.tys t, T.tys tx with
      | some ti, some tix => match ti.desc, tix.desc with
        | .slice e, .slice _ => match T.tys e with
          | some te => match rowOf heap te.size s, rowOf heap te.size x with
            | some (olds, m), some (news, n) => match Nat.blt 0 te.size && (Nat.ble ((m + n) * te.bytes) 140737488355328 && Nat.ble (m + n) 1000000) with
              | true => appS heap s m olds n news e te.size
              | false => none
            | _, _ => none
          | none => none
        | _, _ => none
      | _, _ => none
    | _, _, _ => none
  | _ => none

def dropO (heap : List (Nat × AO)) : Option Nat → List (Nat × AO)
  | none => heap
  | some id => dropB heap id

theorem append_types {P : Program} {t tx ty e e' : Nat} (ht : P.underlying t = some (.slice e)) (hx : P.underlying tx = some (.slice e')) (b : Option Addr) (l c : Nat) (x : Value) (w : World) :
    (Builtin.append_ #[t, tx] ty #[.slice b l c, x]).run P w = (Builtin.append_ #[t, t] ty #[.slice b l c, x]).run P w := by
  simp only [Builtin.append_, List.getElem?_toArray, List.getElem?_cons_zero, List.getElem?_cons_succ, Sem.run_bind, run_underlying ht, run_underlying hx, Result.andThen_ok, Sem.run_pure]

/-- What an append does. -/
def AppOk (C : Ctx) (env : Env) (st : St) (w : World) (a : Act) (o : Oper) : AppR → Prop
  | .same v => ∃ V, v.den env = some V ∧ (execOp a.eval o).run C.P w = .ok (.value V) w
  | .grow cs e size n drop => ∃ (k c : Nat) (w' : World), (execOp a.eval o).run C.P w = .ok (.value (.slice (some ⟨k, 0, none⟩) n c)) w' ∧
      WRel C (env ++ [[.a k, .i c]]) { st with nb := st.nb + 1, heap := (st.nb, .pref cs e size st.nb) :: dropO st.heap drop } w' ∧
      Keep env st w (env ++ [[.a k, .i c]]) { st with nb := st.nb + 1, heap := (st.nb, .pref cs e size st.nb) :: dropO st.heap drop } w' ∧ capAt (env ++ [[.a k, .i c]]) st.nb = some (k, c) ∧ n ≤ c

theorem capAt_last {env : Env} {k c nb : Nat} (h : env.length = nb) : capAt (env ++ [[.a k, .i (c : Int)]]) nb = some (k, c) := by
  unfold capAt
  rw [← h]
  simp

/-- A new row. -/
theorem grown_ok {C : Ctx} {env : Env} {st : St} {w : World} (hw : WRel C env st w) {z : List Value} {cs : List AV} {vs : List Value} {e size n c : Nat} (hcs : AV.dens env cs = some vs) (hone : ∀ u ∈ vs, isOne u = true) (hlen : vs.length = n * size) (hz : z.length = (c - n) * size) (hc : n ≤ c) (hm : c ≤ maxLen) :
    WRel C (env ++ [[.a w.heap.size, .i c]]) { st with nb := st.nb + 1, heap := (st.nb, .pref cs e size st.nb) :: st.heap } (w.drew.alloc (.cells (vs ++ z).toArray e (0, 0))) ∧
    Keep env st w (env ++ [[.a w.heap.size, .i c]]) { st with nb := st.nb + 1, heap := (st.nb, .pref cs e size st.nb) :: st.heap } (w.drew.alloc (.cells (vs ++ z).toArray e (0, 0))) := by
  have hheap : ∀ j, j < w.heap.size → (w.drew.alloc (.cells (vs ++ z).toArray e (0, 0))).heap[j]? = w.heap[j]? := fun j hj => Below.heap_alloc w.drew _ _ hj
  have hlt : ∀ p ∈ st.heap, ∀ j, addr env p.1 = some j → j < w.heap.size := fun p hp j hj => by
    obtain ⟨k, o, h1, h2, h3, h4⟩ := hw.heap p hp
    rw [hj] at h1; cases h1
    exact (Array.getElem?_eq_some_iff.1 h3).1
  have hnew : (w.drew.alloc (.cells (vs ++ z).toArray e (0, 0))).heap[w.heap.size]? = some (.cells (vs ++ z).toArray e (0, 0)) := by
    show (w.heap.push _)[w.heap.size]? = _
    simp
  obtain ⟨h1, h2⟩ := hw.regrow (l := [.a w.heap.size, .i c]) rfl (List.Sublist.refl st.heap) (fun p hp e => by have := hlt p hp _ e; omega) (fun p hp j hj => hheap j (hlt p hp j hj)) hw.below.size (hw.below.drew.alloc hw.below.size _) hnew
    (a := .pref cs e size st.nb) (o := .cells (vs ++ z).toArray e (0, 0)) ⟨vs, _, _, AV.dens_mono (List.prefix_append _ _) _ hcs, hone, capAt_last hw.len, rfl, by simp, by simp, by
      simp only [List.size_toArray, List.length_append, hlen, hz, ← Nat.add_mul]
      congr 1; omega, hm⟩
  refine ⟨h1, List.prefix_append _ _, by show w.heap.size ≤ (w.heap.push _).size; simp, fun j hj _ => hheap j hj, fun q hq k hk => ?_⟩
  rcases List.mem_cons.1 hq with rfl | hq
  · rw [h2] at hk; cases hk; exact .inr (Nat.le_refl _)
  · obtain ⟨k', hk'⟩ := hw.addr_some hq
    have := addr_mono (List.prefix_append env [[.a w.heap.size, .i (c : Int)]]) hk'
    rw [this] at hk; cases hk
    exact .inl ⟨q, hq, hk'⟩

theorem apop_ok {C : Ctx} (hT : TabOk C) {env : Env} {st : St} {w : World} (hw : WRel C env st w) {tm : Tm} {a : Act} (ht : TRel env tm a.tmps) {o : Oper} {r : AppR} (h : apop C.T st.heap tm o.op = some r) : AppOk C env st w a o r := by
  unfold apop at h
  split at h
  · rename_i c hop
    split at h
    · rename_i s x t tx hcal hargs hts
      split at h
      · rename_i ti tix hti htix
        split at h
        · rename_i e e' hd hdx
          split at h
          · rename_i te hte
            split at h
            · rename_i olds m news n hso hxo
              split at h
              · rename_i hguard
                simp only [Bool.and_eq_true, Nat.blt_eq, Nat.ble_eq] at hguard
                obtain ⟨hsz, hby, hmn⟩ := hguard
                have h1 := evOs_ok ht hargs
                obtain ⟨sv, us, hs, hus, e1⟩ := AV.dens_cons h1
                obtain ⟨xv, us', hx, hus', rfl⟩ := AV.dens_cons hus
                cases AV.dens_nil' hus'
                obtain ⟨ov, hov, hone1, hlo, hrs⟩ := rowOf_ok hw hs hso
                obtain ⟨nv, hnv, hone2, hln, hrx⟩ := rowOf_ok hw hx hxo
                obtain ⟨callee, cargs, argTypes⟩ := c
                simp only at hcal hargs hts
                subst hcal
                have eargs : cargs.map a.eval = #[sv, xv] := by obtain ⟨cargs⟩ := cargs; simpa using e1
                have ets : argTypes = #[t, tx] := by obtain ⟨l⟩ := argTypes; simp at hts ⊢; exact hts
                subst ets
                have hut : C.P.underlying t = some (.slice e) := by rw [(hT.tys _ _ hti).und, hd]
                have hux : C.P.underlying tx = some (.slice e') := by rw [(hT.tys _ _ htix).und, hdx]
                obtain ⟨i, z, hi, hisz, hiz, hzd, hz1⟩ := (hT.tys _ _ hte).info
                have hib := (hT.tys _ _ hte).bytes _ hi
                have hzl : z.cells.size = i.size := by have := AV.dens_length hzd; rw [(hT.tys _ _ hte).len] at this; simp at this; omega
                have hsl : ∃ b l c, sv = .slice b l c := by
                  rcases hrs with ⟨h0, _⟩ | ⟨ad, c, h0, _⟩
                  · exact ⟨_, _, _, h0⟩
                  · exact ⟨_, _, _, h0⟩
                have hrun : ∀ {V : Value} {w' : World}, (Builtin.append_ #[t, t] o.type #[sv, xv]).run C.P w = .ok V w' → (execOp a.eval o).run C.P w = .ok (.value V) w' := fun {V w'} hr => by
                  obtain ⟨b0, l0, c0, rfl⟩ := hsl
                  rw [← append_types hut hux] at hr
                  simp [execOp, hop, resolve, eargs, invoke, builtin, hr]
                have hall : AV.dens env (olds ++ news) = some (ov ++ nv) := AV.dens_append hov hnv
                have honeall : ∀ u ∈ ov ++ nv, isOne u = true := fun u hu => by
                  rcases List.mem_append.1 hu with hu | hu
                  · exact hone1 u hu
                  · exact hone2 u hu
                have hlall : (ov ++ nv).length = (m + n) * te.size := by rw [List.length_append, hlo, hln, Nat.add_mul]
                have hone2' : ∀ u ∈ nv, u.oneCell' = true := fun u hu => by rw [← isOne_eq]; exact hone2 u hu
                have hmax : m + n ≤ maxLen := by simp only [maxLen]; omega
                have hzc : ∀ k, (Builtin.zeroCells z.cells k).toList.length = k * te.size := fun k => by rw [Array.length_toList, size_zeroCells, hzl, hisz]
                have cut0 : ∀ need old, need ≤ maxLen → need ≤ grownCap w need old e ∧ grownCap w need old e ≤ maxLen := fun need old hh => ⟨grownCap_ge w need old e, grownCap_le_maxLen w need old e hh⟩
                unfold appS at h
                split at h
                · -- nil
                  have hsv : sv = .slice none 0 0 := by simp only [AV.den, Option.some.injEq] at hs; exact hs.symm
                  subst hsv
                  have hm0 : m = 0 := by
                    rcases hrs with ⟨_, h0, _⟩ | ⟨ad, c, hh, _⟩
                    · exact h0
                    · cases hh
                  subst hm0
                  split at h
                  · rename_i hn0
                    cases h
                    have hn0 := Nat.eq_of_beq_eq_true hn0
                    subst hn0
                    refine ⟨_, rfl, hrun ?_⟩
                    rcases hrx with ⟨rfl, _, _⟩ | ⟨ad, c, rfl, _⟩
                    · simp [Builtin.append_, run_underlying hut, sizeOf, typeInfo, hi, Builtin.lenOf, Builtin.firstCells]
                    · simp [Builtin.append_, run_underlying hut, sizeOf, typeInfo, hi, Builtin.lenOf, Builtin.firstCells, loadCells, loadCellsFrom]
                  · rename_i hn0
                    cases h
                    have hn0' : n ≠ 0 := fun e => by subst e; simp at hn0
                    rcases hrx with ⟨_, h0, _⟩ | ⟨ad, c, rfl, hcell⟩
                    · exact absurd h0 hn0'
                    have hr := run_append_nil (P := C.P) w t o.type e i z hut hi hiz ad n c nv (by rw [hisz]; exact hln) hcell (by omega) (by omega) (by rw [hib]; simp only [Nat.zero_add] at hby; omega)
                    obtain ⟨hc1, hc2⟩ := cut0 n 0 (by omega)
                    have hg := grown_ok hw (z := (Builtin.zeroCells z.cells (grownCap w n 0 e - n)).toList) (e := e) (n := n) (c := grownCap w n 0 e) hnv hone2 hln (hzc _) hc1 hc2
                    have he : (nv ++ (Builtin.zeroCells z.cells (grownCap w n 0 e - n)).toList).toArray = nv.toArray ++ Builtin.zeroCells z.cells (grownCap w n 0 e - n) := by apply Array.ext'; simp
                    rw [he] at hg
                    exact ⟨_, _, _, hrun hr, hg.1, hg.2, capAt_last hw.len, hc1⟩
                · -- a slice of known capacity
                  rename_i id off len cap
                  obtain ⟨k, hk, rfl⟩ := AV.den_slice hs
                  rcases hrs with ⟨h0, _⟩ | ⟨ad1, c1, h0, hcell1⟩
                  · cases h0
                  cases h0
                  split at h
                  · rename_i hn0
                    have hn0 := Nat.eq_of_beq_eq_true hn0
                    subst hn0
                    split at h
                    · rename_i hle
                      cases h
                      have hle := Nat.le_of_ble_eq_true hle
                      refine ⟨_, hs, hrun ?_⟩
                      rcases hrx with ⟨rfl, _, _⟩ | ⟨ad, c, rfl, _⟩
                      · simp [Builtin.append_, run_underlying hut, sizeOf, typeInfo, hi, Builtin.lenOf, Builtin.firstCells, hle, storeCells]
                      · simp [Builtin.append_, run_underlying hut, sizeOf, typeInfo, hi, Builtin.lenOf, Builtin.firstCells, loadCells, loadCellsFrom, hle, storeCells]
                    · cases h
                  · rename_i hn0
                    have hn0' : n ≠ 0 := fun e => by subst e; simp at hn0
                    rcases hrx with ⟨_, h0, _⟩ | ⟨ad, c, rfl, hcell⟩
                    · exact absurd h0 hn0'
                    split at h
                    · rename_i hlt
                      cases h
                      have hlt : cap < m + n := Nat.blt_eq ▸ hlt
                      have hr := run_append_grow (P := C.P) w t o.type e i z hut hi hiz ⟨k, off, none⟩ m cap ov (by rw [hisz]; exact hlo) hcell1 ad n c nv (by rw [hisz]; exact hln) hcell hlt (by omega) (growslice_fits hlt (by rw [hib]; exact hby))
                      obtain ⟨hc1, hc2⟩ := cut0 (m + n) cap hmax
                      have hg := grown_ok hw (z := (Builtin.zeroCells z.cells (grownCap w (m + n) cap e - (m + n))).toList) (e := e) (n := m + n) (c := grownCap w (m + n) cap e) hall honeall hlall (hzc _) hc1 hc2
                      have he : (ov ++ nv ++ (Builtin.zeroCells z.cells (grownCap w (m + n) cap e - (m + n))).toList).toArray = ov.toArray ++ nv.toArray ++ Builtin.zeroCells z.cells (grownCap w (m + n) cap e - (m + n)) := by apply Array.ext'; simp
                      rw [he] at hg
                      exact ⟨_, _, _, hrun hr, hg.1, hg.2, capAt_last hw.len, hc1⟩
                    · cases h
                · -- a slice that grows
                  rename_i id len
                  obtain ⟨k, cap, hk, rfl⟩ := AV.den_vsl hs
                  rcases hrs with ⟨h0, _⟩ | ⟨ad1, c1, h0, hcell1⟩
                  · cases h0
                  cases h0
                  split at h
                  · rename_i cs0 e0 sz id' hn0 hl
                    have hn0' : n ≠ 0 := fun e => by subst e; simp at hn0
                    rcases hrx with ⟨_, h0, _⟩ | ⟨ad, c, rfl, hcell⟩
                    · exact absurd h0 hn0'
                    split at h
                    · rename_i hc
                      cases h
                      simp only [Bool.and_eq_true, Nat.beq_eq] at hc
                      obtain ⟨rfl, rfl, rfl⟩ := hc
                      obtain ⟨k', ob, g1, g2, g3, g4, g5⟩ := hw.look hl
                      obtain ⟨vs0, cur, kc, hvs0, hone0, hcap0, rfl, htake, hn, hcs', hmx⟩ := g5
                      rw [hk] at hcap0; cases hcap0
                      rw [addr_of_cap hk] at g1; cases g1
                      simp only at hcs' hmx
                      by_cases hroom : m + n ≤ cap
                      · have hfit : m * i.size + nv.length ≤ cur.size := by rw [hln, hcs', hisz, ← Nat.add_mul]; exact Nat.mul_le_mul_right _ hroom
                        have hr := run_append_room (P := C.P) w t o.type e0 i hut hi k m cap cur g4 ad n c nv (by rw [hisz]; exact hln) hcell hone2' hroom hfit
                        have hset := setRow_heap w k cur (cur.toList.take (m * i.size) ++ nv ++ cur.toList.drop (m * i.size + nv.length)).toArray e0 (0, 0) g4
                        have hothers : ∀ j, j ≠ k → (w.setRow k (cur.toList.take (m * i.size) ++ nv ++ cur.toList.drop (m * i.size + nv.length)).toArray).heap[j]? = w.heap[j]? := fun j hj => setRow_other w k j _ hj
                        have hov' : cur.toList.take (m * i.size) = ov := by
                          apply List.ext_getElem?
                          intro j
                          rw [List.getElem?_take]
                          by_cases hj : j < m * i.size
                          · have hjl : j < ov.length := by rw [hlo, ← hisz]; exact hj
                            have := hcell1 j _ (List.getElem?_eq_getElem hjl)
                            rw [addr_add, cell_of_row w k (0 + j) cur e0 (0, 0) g4] at this
                            rw [if_pos hj, List.getElem?_eq_getElem hjl, ← this]
                            simp
                          · have hjl : ¬ j < ov.length := by rw [hlo, ← hisz]; exact hj
                            rw [if_neg hj, List.getElem?_eq_none (by omega)]
                        have hbelow : Below C.w0.heap.size C.w0 (w.setRow k (cur.toList.take (m * i.size) ++ nv ++ cur.toList.drop (m * i.size + nv.length)).toArray) :=
                          hw.below.trans ⟨rfl, rfl, rfl, by simp [World.setRow], fun j hj => hothers j (by omega)⟩
                        have hre := hw.regrow (l := [.a k, .i cap]) rfl (dropB_sub st.heap id') (fun p hp e => ?_) (fun p hp j hj => hothers j fun e => ?_) g2 hbelow hset
                          (a := .pref (olds ++ news) e0 te.size st.nb) ⟨ov ++ nv, _, _, AV.dens_mono (List.prefix_append _ _) _ hall, honeall, capAt_last hw.len, rfl, ?_, ?_, ?_, hmx⟩
                        · refine ⟨k, cap, _, hrun hr, hre.1, ⟨List.prefix_append _ _, by simp [World.setRow], fun j hj hn => hothers j fun e => ?_, fun q hq j hj => ?_⟩, capAt_last hw.len, hroom⟩
                          · subst e; exact hn _ (lookB_mem hl) (addr_of_cap hk)
                          · rcases List.mem_cons.1 hq with rfl | hq
                            · rw [hre.2] at hj; cases hj
                              exact .inl ⟨_, lookB_mem hl, addr_of_cap hk⟩
                            · have hq' := (mem_dropB hq).1
                              obtain ⟨j', hj'⟩ := hw.addr_some hq'
                              have := addr_mono (List.prefix_append env [[.a k, .i (cap : Int)]]) hj'
                              rw [this] at hj; cases hj
                              exact .inl ⟨q, hq', hj'⟩
                        · obtain ⟨hp1, hp2⟩ := mem_dropB hp
                          exact hw.inj p hp1 _ (lookB_mem hl) hp2 (e.trans (addr_of_cap hk).symm)
                        · subst e
                          obtain ⟨hp1, hp2⟩ := mem_dropB hp
                          exact hw.inj p hp1 _ (lookB_mem hl) hp2 (hj.trans (addr_of_cap hk).symm)
                        · rw [hov']
                          simp only [List.append_assoc]
                          rw [← List.append_assoc]
                          exact List.take_left
                        · simp only [List.size_toArray, List.length_append]
                          have : (cur.toList.take (m * i.size)).length = ov.length := by rw [hov']
                          omega
                        · simp only [List.size_toArray, List.length_append, List.length_drop, Array.length_toList]
                          have : (cur.toList.take (m * i.size)).length = ov.length := by rw [hov']
                          rw [← hcs']
                          have hh : ov.length = m * i.size := by rw [hlo, hisz]
                          omega
                      · have hlt : cap < m + n := by omega
                        have hr := run_append_grow (P := C.P) w t o.type e0 i z hut hi hiz ⟨k, 0, none⟩ m cap ov (by rw [hisz]; exact hlo) hcell1 ad n c nv (by rw [hisz]; exact hln) hcell hlt (by omega) (growslice_fits hlt (by rw [hib]; exact hby))
                        obtain ⟨hc1, hc2⟩ := cut0 (m + n) cap hmax
                        have hheap : ∀ j, j < w.heap.size → (w.drew.alloc (.cells (ov.toArray ++ nv.toArray ++ Builtin.zeroCells z.cells (grownCap w (m + n) cap e0 - (m + n))) e0)).heap[j]? = w.heap[j]? := fun j hj => Below.heap_alloc w.drew _ _ hj
                        have hltp : ∀ p ∈ st.heap, ∀ j, addr env p.1 = some j → j < w.heap.size := fun p hp j hj => by
                          obtain ⟨k, o, h1, h2, h3, h4⟩ := hw.heap p hp
                          rw [hj] at h1; cases h1
                          exact (Array.getElem?_eq_some_iff.1 h3).1
                        have hre := hw.regrow (l := [.a w.heap.size, .i (grownCap w (m + n) cap e0)]) rfl (dropB_sub st.heap id') (fun p hp e => ?_) (fun p hp j hj => hheap j (hltp p (mem_dropB hp).1 j hj)) hw.below.size (hw.below.drew.alloc hw.below.size _) (heap_alloc_new w.drew (.cells (ov.toArray ++ nv.toArray ++ Builtin.zeroCells z.cells (grownCap w (m + n) cap e0 - (m + n))) e0))
                          (a := .pref (olds ++ news) e0 te.size st.nb) ⟨ov ++ nv, _, _, AV.dens_mono (List.prefix_append _ _) _ hall, honeall, capAt_last hw.len, rfl, ?_, ?_, ?_, hc2⟩
                        · refine ⟨w.heap.size, _, _, hrun hr, hre.1, ⟨List.prefix_append _ _, by show w.heap.size ≤ (w.heap.push _).size; simp, fun j hj _ => hheap j hj, fun q hq j hj => ?_⟩, capAt_last hw.len, hc1⟩
                          rcases List.mem_cons.1 hq with rfl | hq
                          · rw [hre.2] at hj; cases hj
                            exact .inr (Nat.le_refl _)
                          · have hq' := (mem_dropB hq).1
                            obtain ⟨j', hj'⟩ := hw.addr_some hq'
                            have := addr_mono (List.prefix_append env [[.a w.heap.size, .i (grownCap w (m + n) cap e0 : Int)]]) hj'
                            rw [this] at hj; cases hj
                            exact .inl ⟨q, hq', hj'⟩
                        · have := hltp p (mem_dropB hp).1 _ e
                          omega
                        · simp only [Array.toList_append]
                          exact List.take_left
                        · simp
                        · simp only [Array.size_append, List.size_toArray, size_zeroCells, hzl, hisz, hlo, hln, ← Nat.add_mul]
                          congr 1; omega
                    · cases h
                  · rename_i cs0 e0 sz id' hn0 hl
                    have hn0 := Nat.eq_of_beq_eq_true hn0
                    subst hn0
                    split at h
                    · rename_i hc
                      cases h
                      simp only [Bool.and_eq_true, Nat.beq_eq] at hc
                      obtain ⟨rfl, rfl⟩ := hc
                      obtain ⟨k', ob, g1, g2, g3, g4, g5⟩ := hw.look hl
                      obtain ⟨vs0, cur, kc, hvs0, hone0, hcap0, rfl, htake, hn, hcs', hmx⟩ := g5
                      rw [hk] at hcap0; cases hcap0
                      have hle : m ≤ cap := by
                        unfold rowOf at hso
                        simp only [hl] at hso
                        split at hso
                        · rename_i hb
                          have hb := Nat.le_of_ble_eq_true hb
                          have := AV.dens_length hvs0
                          simp only at hcs'
                          simp only [Option.some.injEq, Prod.mk.injEq] at hso
                          exact Nat.le_of_mul_le_mul_right (by rw [← hcs']; omega) hsz
                        · cases hso
                      refine ⟨_, hs, hrun ?_⟩
                      rcases hrx with ⟨rfl, _, _⟩ | ⟨ad, c, rfl, _⟩
                      · simp [Builtin.append_, run_underlying hut, sizeOf, typeInfo, hi, Builtin.lenOf, Builtin.firstCells, hle, storeCells]
                      · simp [Builtin.append_, run_underlying hut, sizeOf, typeInfo, hi, Builtin.lenOf, Builtin.firstCells, loadCells, loadCellsFrom, hle, storeCells]
                    · cases h
                  · cases h
                · cases h
              · cases h
            · cases h
          · cases h
        · cases h
      · cases h
    · cases h
  · cases h

end Go.Ex

namespace Go.Ex
open Go Go.RowKit

theorem wrap_u64 (n : Int) : IntKind.wrap .u64 n = n % 18446744073709551616 := by
  have h1 : IntKind.signed .u64 = false := rfl
  have h2 : IntKind.bits .u64 = 64 := rfl
  simp [IntKind.wrap, h1, h2]

/-- Is this an expression whose value is a number of 64 bits, by its form? -/
def rangeU : X → Bool
  | .ci n => decide (0 ≤ n) && decide (n < 18446744073709551616)
  | .bin .add k _ _ => kindEqb k .u64
  | .bin .sub k _ _ => kindEqb k .u64
  | .bin .mul k _ _ => kindEqb k .u64
  | .bin .and k _ _ => kindEqb k .u64
  | .bin .or k _ _ => kindEqb k .u64
  | .conv k _ => kindEqb k .u64
  | _ => false

theorem rangeU_ok {env : Env} {x : X} {n : Int} (h : rangeU x = true) (hx : x.den env = some (.i n)) : 0 ≤ n ∧ n < 18446744073709551616 := by
  have hw : ∀ m : Int, 0 ≤ IntKind.wrap .u64 m ∧ IntKind.wrap .u64 m < 18446744073709551616 := fun m => by rw [wrap_u64]; omega
  unfold rangeU at h
  split at h
  · simp only [X.den, Option.some.injEq, Sc.i.injEq] at hx
    subst hx
    simpa using h
  all_goals first
    | (cases h; done)
    | (rw [kindEqb_eq h] at hx
       simp only [X.den] at hx
       split at hx
       · first
          | (simp only [binSem, Option.some.injEq, Sc.i.injEq] at hx
             rw [← hx]; exact hw _)
          | (simp only [Option.some.injEq, Sc.i.injEq] at hx
             rw [← hx]; exact hw _)
       · cases hx)

/-- A sum of digits: the sum, and what tells whether something is carried. -/
def xop (T : Tab) (tm : Tm) (o : Op) : Option (X × X) :=
  match o with
  | .call c => match c.callee with
    | .value f => match evO tm f, evOs tm c.args.toList with
      | some (.func g [] []), some [.int .u64 x, .int .u64 y, .int .u64 (.ci 0)] => match T.add64 g && (rangeU x && rangeU y) with
        | true => some (X.mkBin .add .u64 x y, X.mkBin .lss .u64 (X.mkBin .add .u64 x y) x)
        | false => none
      | _, _ => none
    | _ => none
  | _ => none

theorem xop_ok {C : Ctx} (hT : TabOk C) {env : Env} {tm : Tm} {a : Act} (ht : TRel env tm a.tmps) {o : Oper} {s c : X} (h : xop C.T tm o.op = some (s, c)) (w : World) :
    ∃ (n : Int) (b : Bool), s.den env = some (.i n) ∧ c.den env = some (.b b) ∧ (execOp a.eval o).run C.P w = .ok (.value (.tuple #[.int .u64 n, .int .u64 (if b then 1 else 0)])) w := by
  unfold xop at h
  split at h
  · rename_i cl hop
    split at h
    · rename_i f hcal
      split at h
      · rename_i g x y hf hargs
        split at h
        · rename_i hc
          simp only [Bool.and_eq_true] at hc
          obtain ⟨h64, hx, hy⟩ := hc
          simp only [Option.some.injEq, Prod.mk.injEq] at h
          obtain ⟨rfl, rfl⟩ := h
          have h1 := evOs_ok ht hargs
          obtain ⟨u1, us1, hu1, hus1, e1⟩ := AV.dens_cons h1
          obtain ⟨u2, us2, hu2, hus2, rfl⟩ := AV.dens_cons hus1
          obtain ⟨u3, us3, hu3, hus3, rfl⟩ := AV.dens_cons hus2
          cases AV.dens_nil' hus3
          obtain ⟨n, hn, rfl⟩ := AV.den_int hu1
          obtain ⟨m, hm, rfl⟩ := AV.den_int hu2
          obtain ⟨z, hz, rfl⟩ := AV.den_int hu3
          have := den_lit hz; subst this
          obtain ⟨hn0, hn1⟩ := rangeU_ok hx hn
          obtain ⟨hm0, hm1⟩ := rangeU_ok hy hm
          have hs : (X.mkBin .add .u64 x y).den env = some (.i ((n + m) % 18446744073709551616)) := X.mkBin_den _ _ _ _ _ (by simp only [X.den, hn, hm, binSem, wrap_u64])
          have hl : (X.mkBin .lss .u64 (X.mkBin .add .u64 x y) x).den env = some (.b (decide ((n + m) % 18446744073709551616 < n))) := X.mkBin_den _ _ _ _ _ (by simp only [X.den, hs, hn, binSem])
          refine ⟨_, _, hs, hl, ?_⟩
          obtain ⟨as, cs, has, hcs, he⟩ := AV.den_func (evO_ok ht hf)
          cases AV.dens_nil' has
          cases AV.dens_nil' hcs
          obtain ⟨callee, cargs, cts⟩ := cl
          simp only at hcal hargs
          subst hcal
          have eargs : cargs.map a.eval = #[.int .u64 n, .int .u64 m, .int .u64 0] := by obtain ⟨cargs⟩ := cargs; simpa using e1
          have hrun := hT.add64 g h64 n m w hn0 hn1 hm0 hm1
          have hcarry : (n + m) / 18446744073709551616 = if decide ((n + m) % 18446744073709551616 < n) = true then 1 else 0 := by
            by_cases hh : (n + m) % 18446744073709551616 < n
            · simp only [hh, decide_true, if_true]; omega
            · simp only [hh, decide_false, Bool.false_eq_true, if_false]; omega
          rw [hcarry] at hrun
          simp [execOp, hop, resolve, he, Deferred.ofValue, eargs, invoke, hrun]
        · cases h
      · cases h
    · cases h
  · cases h

end Go.Ex

namespace Go.Ex
open Go Go.RowKit

/-- The entries of a map. -/
def mapOf (T : Tab) (heap : List (Nat × AO)) (m : AV) : Option (List (Value × AV)) :=
  match m with
  | .map id => match lookB heap id with
    | some (.map es) => some es
    | none => match T.ro id with
      | some (.map es) => some es
      | _ => none
    | _ => none
  | _ => none

theorem mapOf_ok {C : Ctx} (hT : TabOk C) {env : Env} {st : St} {w : World} (hw : WRel C env st w) {m : AV} {v : Value} (hv : m.den env = some v) {es : List (Value × AV)} (h : mapOf C.T st.heap m = some es) :
    ∃ k vs arr clock, v = .map (some k) ∧ w.heap[k]? = some (.map arr clock) ∧ AV.dens env (es.map (·.2)) = some vs ∧ (arr.toList.map (fun e => (e.key, e.val))).Perm ((es.map (·.1)).zip vs) := by
  unfold mapOf at h
  split at h
  · rename_i id
    obtain ⟨k', hk', rfl⟩ := AV.den_map hv
    split at h
    · rename_i es' hl
      cases h
      obtain ⟨k, o, h1, h2, h3, h4, vs, arr, clock, h5, rfl, h6⟩ := hw.look hl
      rw [h1] at hk'; cases hk'
      exact ⟨_, vs, arr, clock, rfl, h4, h5, h6⟩
    · split at h
      · rename_i es' hr
        cases h
        obtain ⟨k, o, h1, h3, vs, arr, clock, h5, rfl, h6⟩ := hT.ro _ _ hr
        rw [addr_mono hw.pre h1] at hk'; cases hk'
        have hlt := (Array.getElem?_eq_some_iff.1 h3).1
        exact ⟨_, vs, arr, clock, rfl, (hw.below.block _ hlt).trans h3, AV.dens_mono hw.pre _ h5, h6⟩
      · cases h
    · cases h
  · cases h

/-- Is a key that of an entry? -/
def keyX (k : Value) (a : AV) : Option X :=
  match k, a with
  | .int k n, .int k' x => if kindEqb k k' then some (X.mkBin .eql k' x (.ci n)) else none
  | .string s, .str x => some (X.mkSeq x (.cs s.data.toList))
  | _, _ => none

theorem keyX_ok {env : Env} {k : Value} {a : AV} {x : X} (h : keyX k a = some x) {v : Value} (hv : a.den env = some v) {d : TypeDesc} (hd : (∃ j, d = .int j) ∨ d = .string) {r : Bool} (hs : Instr.sameNow d v k = some r) : x.den env = some (.b r) := by
  unfold keyX at h
  split at h
  · rename_i k1 n k2 y
    split at h
    · rename_i hk
      cases h
      obtain ⟨m, hm, rfl⟩ := AV.den_int hv
      have := kindEqb_eq hk; subst this
      rcases hd with ⟨j, rfl⟩ | rfl
      · simp only [Instr.sameNow, if_true, Option.some.injEq] at hs
        subst hs
        exact X.mkBin_den _ _ _ _ _ (by simp only [X.den, hm, binSem])
      · simp [Instr.sameNow] at hs
    · cases h
  · rename_i s y
    cases h
    obtain ⟨m, hm, rfl⟩ := AV.den_str hv
    rcases hd with ⟨j, rfl⟩ | rfl
    · simp [Instr.sameNow] at hs
    · simp only [Instr.sameNow, Option.some.injEq] at hs
      subst hs
      refine X.mkSeq_den _ _ _ ?_
      simp only [X.den, hm, byteArray_toList_mk]
      congr 2
      have e1 : s = ⟨s.data.toList.toArray⟩ := by simp
      have e2 : ∀ b : ByteArray, b.toList = b.data.toList := fun b => by rw [ByteArray.toList_eq]
      have e3 : (m == s) = (m.data == s.data) := by cases m; cases s; rfl
      rw [e3, Bool.eq_iff_iff, beq_iff_eq, beq_iff_eq, e2]
      constructor
      · intro e
        exact Array.toList_inj.1 e
      · intro e; rw [e]
  · cases h

/-- The kind of a key. -/
def keyKind : TypeDesc → Value → Bool
  | .int _, .int _ _ => true
  | .string, .string _ => true
  | _, _ => false

theorem keyX_same {env : Env} {k : Value} {a : AV} {x : X} (h : keyX k a = some x) {v : Value} (hv : a.den env = some v) {d : TypeDesc} (hd : keyKind d k = true) : ∃ r, Instr.sameNow d v k = some r ∧ x.den env = some (.b r) := by
  have hd' : (∃ j, d = .int j) ∨ d = .string := by
    cases d <;> cases k <;> first | (cases hd; done) | exact .inl ⟨_, rfl⟩ | exact .inr rfl
  have hex : ∃ r, Instr.sameNow d v k = some r := by
    unfold keyX at h
    split at h
    · rename_i k1 n k2 y
      split at h
      · rename_i hk
        obtain ⟨m, hm, rfl⟩ := AV.den_int hv
        have := kindEqb_eq hk; subst this
        cases d <;> first | (cases hd; done) | skip
        exact ⟨_, by simp only [Instr.sameNow, if_true]; rfl⟩
      · cases h
    · obtain ⟨m, hm, rfl⟩ := AV.den_str hv
      cases d <;> first | (cases hd; done) | skip
      exact ⟨_, rfl⟩
    · cases h
  obtain ⟨r, hr⟩ := hex
  exact ⟨r, hr, keyX_ok h hv hd' hr⟩

theorem checkKey_ok {P : Program} {t : Nat} {d : TypeDesc} (hu : P.underlying t = some d) (hd : (∃ j, d = .int j) ∨ d = .string) (b : Bool) (v : Value) (w : World) : (Instr.checkKey b 10000 t v).run P w = .ok () w := by
  have e : ∀ n, (Instr.checkKey b (n + 1) t v).run P w = .ok () w := by
    intro n
    rcases hd with ⟨j, rfl⟩ | rfl
    · simp only [Instr.checkKey, Sem.run_bind, run_underlying hu, Result.andThen_ok]
      rfl
    · simp only [Instr.checkKey, Sem.run_bind, run_underlying hu, Result.andThen_ok]
      rfl
  exact e 9999

/-- Two keys of one kind that differ. -/
def keyNe : Value → Value → Bool
  | .int k n, .int j m => kindEqb k j && !(intEqb n m)
  | .string a, .string b => !(bytesEqb a.data.toList b.data.toList)
  | _, _ => false

theorem intEqb_refl : ∀ (a : Int), intEqb a a = true
  | .ofNat a => Nat.beq_refl a
  | .negSucc a => Nat.beq_refl a

theorem keyNe_ok {d : TypeDesc} {a b : Value} (hd : keyKind d a = true) (h : keyNe a b = true) : Instr.sameNow d a b = some false := by
  unfold keyNe at h
  split at h
  · rename_i k n j m
    simp only [Bool.and_eq_true, Bool.not_eq_true'] at h
    obtain ⟨h1, h2⟩ := h
    have := kindEqb_eq h1; subst this
    cases d <;> first | (cases hd; done) | skip
    simp only [Instr.sameNow, if_true, Option.some.injEq]
    rw [beq_eq_false_iff_ne]
    intro e; subst e; rw [intEqb_refl] at h2; cases h2
  · rename_i x y
    cases d <;> first | (cases hd; done) | skip
    simp only [Instr.sameNow, Option.some.injEq]
    simp only [Bool.not_eq_true'] at h
    have e3 : (x == y) = (x.data == y.data) := by cases x; cases y; rfl
    rw [e3, beq_eq_false_iff_ne]
    intro e; rw [e, bytesEqb_refl] at h; cases h
  · cases h

/-- The keys differ from one another. -/
def keysNe : List Value → Bool
  | [] => true
  | k :: l => l.all (fun x => keyNe k x) && keysNe l

theorem keyNe_ne {a b : Value} (h : keyNe a b = true) : a ≠ b := by
  intro e; subst e
  cases a <;> simp [keyNe, intEqb_refl, bytesEqb_refl] at h

theorem keysNe_nodup : ∀ {l : List Value}, keysNe l = true → l.Nodup
  | [], _ => List.nodup_nil
  | k :: l, h => by
    simp only [keysNe, Bool.and_eq_true] at h
    refine List.nodup_cons.2 ⟨fun hm => keyNe_ne (List.all_eq_true.1 h.1 _ hm) rfl, keysNe_nodup h.2⟩

theorem sameNow_eq {d : TypeDesc} {a b : Value} (h : Instr.sameNow d a b = some true) : b = a := by
  unfold Instr.sameNow at h
  split at h
  · split at h
    · rename_i e; subst e
      simp only [Option.some.injEq, beq_iff_eq] at h
      rw [h]
    · cases h
  · rename_i x y
    simp only [Option.some.injEq] at h
    have e3 : (x == y) = (x.data == y.data) := by cases x; cases y; rfl
    rw [e3, beq_iff_eq] at h
    cases x; cases y; cases h; rfl
  · rename_i x y
    simp only [Option.some.injEq, beq_iff_eq] at h
    rw [h]
  · cases h

theorem findNow_none {d : TypeDesc} {K : Value} : ∀ {arr : List MapEntry} (i : Nat), (∀ e ∈ arr, Instr.sameNow d K e.key = some false) → Instr.findNow d K arr i = some none
  | [], i, _ => rfl
  | e :: arr, i, h => by
    simp only [Instr.findNow, h e (List.mem_cons_self ..)]
    exact findNow_none (i + 1) fun e he => h e (List.mem_cons_of_mem _ he)

theorem findNow_some {d : TypeDesc} {K V : Value} : ∀ {arr : List MapEntry} (i : Nat), (∀ e ∈ arr, ∃ r, Instr.sameNow d K e.key = some r) → (∃ e ∈ arr, Instr.sameNow d K e.key = some true) → (∀ e ∈ arr, Instr.sameNow d K e.key = some true → e.val = V) →
    ∃ j, Instr.findNow d K arr i = some (some (j, V))
  | [], i, _, h, _ => by obtain ⟨e, he, _⟩ := h; cases he
  | e :: arr, i, h0, h, h1 => by
    obtain ⟨r, hr⟩ := h0 e (List.mem_cons_self ..)
    cases r with
    | true => exact ⟨i, by simp only [Instr.findNow, hr, h1 e (List.mem_cons_self ..) hr]⟩
    | false =>
      simp only [Instr.findNow, hr]
      refine findNow_some (i + 1) (fun e he => h0 e (List.mem_cons_of_mem _ he)) ?_ (fun e he => h1 e (List.mem_cons_of_mem _ he))
      obtain ⟨e', he', hs⟩ := h
      rcases List.mem_cons.1 he' with rfl | he'
      · rw [hr] at hs; cases hs
      · exact ⟨e', he', hs⟩

theorem zip_key_unique {ks : List Value} {vs : List Value} (hn : ks.Nodup) {k u v : Value} (h1 : (k, u) ∈ ks.zip vs) (h2 : (k, v) ∈ ks.zip vs) : u = v := by
  obtain ⟨i, hi, e1⟩ := List.getElem_of_mem h1
  obtain ⟨j, hj, e2⟩ := List.getElem_of_mem h2
  rw [List.getElem_zip] at e1 e2
  cases e1
  simp only [Prod.mk.injEq] at e2
  have hij : j = i := (List.getElem_inj hn).1 e2.1
  subst hij
  exact e2.2

def keyDesc : TypeDesc → Bool
  | .int _ | .string => true
  | _ => false

/-- What a lookup asks of the table. -/
structure LK where
  es : List (Value × AV)
  key : AV
  zero : AV
  ok : Bool

def lkOf (T : Tab) (heap : List (Nat × AO)) (tm : Tm) (o : Op) : Option LK :=
  match o with
  | .lookup t x i ok => match T.tys t, evO tm x, evO tm i with
    | some ti, some m, some key => match ti.desc with
      | .map k e => match T.tys k, T.tys e, mapOf T heap m with
        | some tk, some te, some es => match te.zero with
          | [z] => match te.plain && (keyDesc tk.desc && (keysNe (es.map (·.1)) && es.all fun p => keyKind tk.desc p.1 && (keyX p.1 key).isSome)) with
            | true => some ⟨es, key, z, ok⟩
            | false => none
          | _ => none
        | _, _, _ => none
      | _ => none
    | _, _, _ => none
  | _ => none

def LK.val (l : LK) (v : AV) (b : Bool) : AV := match l.ok with | true => .tup [v, .bool (.cb b)] | false => v

/-- What a lookup yields: that of the entry whose key it is. -/
def LookOk (C : Ctx) (env : Env) (a : Act) (o : Oper) (l : LK) (w : World) : Prop :=
  ∃ K vs d, l.key.den env = some K ∧ AV.dens env (l.es.map (·.2)) = some vs ∧ (∀ p ∈ l.es, keyKind d p.1 = true) ∧
    (∀ k v V, (k, V) ∈ (l.es.map (·.1)).zip vs → v.den env = some V → Instr.sameNow d K k = some true → ∃ R, (l.val v true).den env = some R ∧ (execOp a.eval o).run C.P w = .ok (.value R) w) ∧
    ((∀ p ∈ l.es, Instr.sameNow d K p.1 = some false) → ∃ R, (l.val l.zero false).den env = some R ∧ (execOp a.eval o).run C.P w = .ok (.value R) w)

theorem LK.val_den {env : Env} {l : LK} {v : AV} {V : Value} (b : Bool) (hv : v.den env = some V) : (l.val v b).den env = some (if l.ok then .tuple #[V, .bool b] else V) := by
  unfold LK.val
  cases l.ok <;> simp [AV.den, AV.dens, hv, X.den]

theorem lkOf_ok {C : Ctx} (hT : TabOk C) {env : Env} {st : St} {w : World} (hw : WRel C env st w) {tm : Tm} {a : Act} (ht : TRel env tm a.tmps) {o : Oper} {l : LK} (h : lkOf C.T st.heap tm o.op = some l) : LookOk C env a o l w := by
  obtain ⟨dst, op, type, pos, after, guard⟩ := o
  unfold LookOk execOp
  cases op <;> simp only [lkOf] at h ⊢
  case lookup t x i ok =>
    split at h
    · rename_i ti m key hti hm hkey
      split at h
      · rename_i k e hd
        split at h
        · rename_i tk te es htk hte hes
          split at h
          · rename_i z hz
            split at h
            · rename_i hc
              simp only [Option.some.injEq] at h
              subst h
              simp only [Bool.and_eq_true] at hc
              obtain ⟨hpl, hkd, hne, hall⟩ := hc
              have hall1 := List.all_eq_true.1 hall
              have hall' : ∀ p ∈ es, keyKind tk.desc p.1 = true := fun p hp => by
                have := hall1 p hp
                simp only [Bool.and_eq_true] at this
                exact this.1
              obtain ⟨r, vs, arr, clock, he, hr, hvs, hzip⟩ := mapOf_ok hT hw (evO_ok ht hm) hes
              have hK := evO_ok ht hkey
              have h1 := (hT.tys _ _ hti).run_und w
              rw [hd] at h1
              have hkd' : (∃ j, tk.desc = .int j) ∨ tk.desc = .string := by
                cases hde : tk.desc <;> rw [hde] at hkd <;> first | (cases hkd; done) | exact .inl ⟨_, rfl⟩ | exact .inr rfl
              have hck := checkKey_ok (hT.tys _ _ htk).und hkd' arr.isEmpty (a.eval i) w
              have hget : (getObj r).run C.P w = .ok (.map arr clock) w := by simp [getObj, Sem.run, hr]
              have hku := (hT.tys _ _ htk).run_und w
              have hmem : ∀ e ∈ arr.toList, (e.key, e.val) ∈ (es.map (·.1)).zip vs := fun e he => hzip.mem_iff.1 (List.mem_map_of_mem (f := fun e : MapEntry => (e.key, e.val)) he)
              have hkeys : ∀ e ∈ arr.toList, ∃ p ∈ es, p.1 = e.key := fun e he => by
                obtain ⟨p, hp, e1⟩ := List.mem_map.1 (List.of_mem_zip (hmem e he)).1
                exact ⟨p, hp, e1⟩
              refine ⟨a.eval i, vs, tk.desc, hK, hvs, fun p hp => hall' p hp, ?_, ?_⟩
              · intro k v V hkv hv hs
                have hex : ∀ p ∈ es, ∃ r, Instr.sameNow tk.desc (a.eval i) p.1 = some r := fun p hp => by
                  have := hall1 p hp
                  simp only [Bool.and_eq_true] at this
                  obtain ⟨x, hx⟩ := Option.isSome_iff_exists.1 this.2
                  obtain ⟨r, hr, _⟩ := keyX_same hx hK this.1
                  exact ⟨r, hr⟩
                have hf : ∃ j, Instr.findNow tk.desc (a.eval i) arr.toList 0 = some (some (j, V)) := by
                  refine findNow_some 0 (fun e he => ?_) ?_ (fun e he hs' => ?_)
                  · obtain ⟨p, hp, e1⟩ := hkeys e he
                    rw [← e1]; exact hex p hp
                  · obtain ⟨e, he, e1⟩ := List.mem_map.1 (hzip.mem_iff.2 hkv)
                    cases e1
                    exact ⟨e, he, hs⟩
                  · have e1 := sameNow_eq hs
                    have e2 := sameNow_eq hs'
                    refine zip_key_unique (keysNe_nodup hne) (hmem e he) ?_
                    rw [e2, ← e1]; exact hkv
                obtain ⟨j, hf⟩ := hf
                refine ⟨_, LK.val_den true hv, ?_⟩
                simp only [Sem.run_bind, Instr.lookup, h1, Result.andThen_ok, he, hget, hck, Instr.findKey, hku, hf, Sem.run_pure]
              · intro hno
                have hf : Instr.findNow tk.desc (a.eval i) arr.toList 0 = some none := findNow_none 0 fun e he => by
                  obtain ⟨p, hp, e1⟩ := hkeys e he
                  rw [← e1]; exact hno p hp
                obtain ⟨zv, hzv, hzd⟩ := (hT.tys _ _ hte).run_zero1 hpl hz w
                refine ⟨_, LK.val_den false (AV.den_mono (List.nil_prefix) _ hzd), ?_⟩
                simp only [Sem.run_bind, Instr.lookup, h1, Result.andThen_ok, he, hget, hck, Instr.findKey, hku, hf, Sem.run_pure, hzv]
            · cases h
          · cases h
        · cases h
      · cases h
    · cases h
  all_goals (cases h)

/-! ### New entries -/
/-- A key that is known. -/
def litKey : AV → Option Value
  | .int k (.ci n) => some (.int k n)
  | .str (.cs s) => some (.string ⟨s.toArray⟩)
  | _ => none

theorem litKey_den {env : Env} {a : AV} {k : Value} (h : litKey a = some k) : a.den env = some k := by
  unfold litKey at h
  split at h
  · cases h; rfl
  · cases h; rfl
  · cases h

def mop (T : Tab) (heap : List (Nat × AO)) (tm : Tm) (o : Op) : Option (Nat × AO) :=
  match o with
  | .mapUpdate t m k x | .insert t m k x => match T.tys t, evO tm m, evO tm k, evO tm x with
    | some ti, some (.map id), some key, some v => match ti.desc, lookB heap id, litKey key with
      | .map kt _, some (.map es), some K => match T.tys kt with
        | some tk => match keyDesc tk.desc && (keyKind tk.desc K && es.all fun p => keyNe K p.1) with
          | true => some (id, .map (es ++ [(K, v)]))
          | false => none
        | none => none
      | _, _, _ => none
    | _, _, _, _ => none
  | _ => none

theorem mapUpdate_ok {C : Ctx} (hT : TabOk C) {env : Env} {st : St} {w : World} (hw : WRel C env st w) {t : Nat} {ti tk : TI} {id kt e : Nat} {key v : AV} {K mV kV xV : Value} {es : List (Value × AV)} (hti : C.T.tys t = some ti) (hd : ti.desc = .map kt e) (htk : C.T.tys kt = some tk)
    (hm : (AV.map id).den env = some mV) (hk : key.den env = some kV) (hv : v.den env = some xV) (hl : lookB st.heap id = some (.map es)) (hK : litKey key = some K) (hc : (keyDesc tk.desc && (keyKind tk.desc K && es.all fun p => keyNe K p.1)) = true) :
    ∃ w', (Instr.mapUpdate t mV kV xV).run C.P w = .ok () w' ∧ WRel C env { st with heap := setB st.heap id (.map (es ++ [(K, v)])) } w' ∧ Keep env st w env { st with heap := setB st.heap id (.map (es ++ [(K, v)])) } w' := by
  simp only [Bool.and_eq_true] at hc
  obtain ⟨hkd, hkk, hall⟩ := hc
  have hall' := List.all_eq_true.1 hall
  have hkV : kV = K := by
    have := litKey_den (env := env) hK
    rw [hk] at this; cases this; rfl
  subst hkV
  obtain ⟨k, o, h1, h2, h3, h4, vs, arr, clock, h5, rfl, h6⟩ := hw.look hl
  obtain ⟨k', hk', rfl⟩ := AV.den_map hm
  rw [h1] at hk'; cases hk'
  have hu := (hT.tys _ _ hti).run_und w
  rw [hd] at hu
  have hkd' : (∃ j, tk.desc = .int j) ∨ tk.desc = .string := by
    cases hde : tk.desc <;> rw [hde] at hkd <;> first | (cases hkd; done) | exact .inl ⟨_, rfl⟩ | exact .inr rfl
  have hck := checkKey_ok (hT.tys _ _ htk).und hkd' false kV w
  have hku := (hT.tys _ _ htk).run_und w
  have hget : (getObj k).run C.P w = .ok (.map arr clock) w := by simp [getObj, Sem.run, h4]
  have hnone : Instr.findNow tk.desc kV arr.toList 0 = some none := by
    refine findNow_none 0 fun en hen => ?_
    have hmem : (en.key, en.val) ∈ (es.map (·.1)).zip vs := h6.mem_iff.1 (List.mem_map_of_mem (f := fun e : MapEntry => (e.key, e.val)) hen)
    have hk1 := (List.of_mem_zip hmem).1
    obtain ⟨p, hp, he⟩ := List.mem_map.1 hk1
    refine keyNe_ok hkk ?_
    have := hall' p hp
    rw [← he]; exact this
  refine ⟨{ w with heap := w.heap.setIfInBounds k (.map (arr.push { key := kV, val := xV, born := clock }) (clock + 1)) }, ?_, ?_, ?_⟩
  · simp only [Instr.mapUpdate, Sem.run_bind, hu, Result.andThen_ok, hget, hck, Instr.findKey, hku, hnone, Sem.run_pure, Go.MapKept.run_setObj_map _ h4]
  · refine hw.set hl h1 h2 ⟨hw.below.os, hw.below.tape, hw.below.output, by simpa using hw.below.size, fun j hj => ?_⟩ (Array.getElem?_setIfInBounds_self_of_lt h3) (fun j hj => ?_) ⟨vs ++ [xV], _, _, ?_, rfl, ?_⟩
    · have : ¬ k = j := by omega
      simp [this, hw.below.block j hj]
    · simp [Ne.symm hj]
    · simp only [List.map_append, List.map_cons, List.map_nil]
      exact AV.dens_append h5 (by simp [AV.dens, hv])
    · have hl1 : (es.map (·.1)).length = vs.length := by
        have := AV.dens_length h5
        simpa using this.symm
      simp only [Array.toList_push, List.map_append, List.map_cons, List.map_nil]
      rw [List.zip_append hl1]
      exact h6.append_right _
  · refine ⟨List.prefix_refl _, by simp, fun j hj hn => ?_, fun q hq => ?_⟩
    · have : ¬ k = j := fun e => hn _ (lookB_mem hl) (by rw [← e]; exact h1)
      simp [this]
    · have : q.1 ∈ (setB st.heap id (.map (es ++ [(kV, v)]))).map (·.1) := List.mem_map_of_mem hq
      rw [keys_setB] at this
      obtain ⟨p, hp, e⟩ := List.mem_map.1 this
      exact fun k hk => .inl ⟨p, hp, by rw [e]; exact hk⟩

theorem mop_ok {C : Ctx} (hT : TabOk C) {env : Env} {st : St} {w : World} (hw : WRel C env st w) {tm : Tm} {a : Act} (ht : TRel env tm a.tmps) {o : Oper} {id : Nat} {ao : AO} (h : mop C.T st.heap tm o.op = some (id, ao)) :
    ∃ w', (execOp a.eval o).run C.P w = .ok .skip w' ∧ WRel C env { st with heap := setB st.heap id ao } w' ∧ Keep env st w env { st with heap := setB st.heap id ao } w' := by
  obtain ⟨dst, op, type, pos, after, guard⟩ := o
  unfold execOp
  cases op <;> simp only [mop] at h ⊢
  case mapUpdate t m k x | insert t m k x =>
    split at h
    · rename_i ti id' key v hti hm hk hv
      split at h
      · rename_i kt e es K hd hl hK
        split at h
        · rename_i tk htk
          split at h
          · rename_i hc
            simp only [Option.some.injEq, Prod.mk.injEq] at h
            obtain ⟨rfl, rfl⟩ := h
            obtain ⟨w', hrun, h1, h2⟩ := mapUpdate_ok hT hw hti hd htk (evO_ok ht hm) (evO_ok ht hk) (evO_ok ht hv) hl hK hc
            exact ⟨w', by simp only [Sem.run_bind, hrun, Result.andThen_ok, Sem.run_pure], h1, h2⟩
          · cases h
        · cases h
      · cases h
    · cases h
  all_goals (cases h)

end Go.Ex

namespace Go.Ex
open Go Go.RowKit

/-- A place within a row, as far as its length tells. -/
def inRow (fs : Facts) (n : Int) (len : X) : Bool :=
  decide (0 ≤ n) && (match decideX fs (X.mkBin .lss .i64 (.ci n) len) with
    | some true => true
    | _ => false)

theorem inRow_ok {env : Env} {fs : Facts} (hf : FactsOk env fs) {n : Int} {len : X} (h : inRow fs n len = true) {m : Int} (hm : len.den env = some (.i m)) : 0 ≤ n ∧ n < m := by
  unfold inRow at h
  simp only [Bool.and_eq_true, decide_eq_true_eq] at h
  refine ⟨h.1, ?_⟩
  have h2 := h.2
  split at h2
  · rename_i hd
    have h3 := decideX_ok hf _ hd
    have h4 : (X.mkBin .lss .i64 (.ci n) len).den env = some (.b (decide (n < m))) := X.mkBin_den _ _ _ _ _ (by simp only [X.den, hm, binSem])
    rw [h4] at h3
    simpa using h3
  · cases h2

/-- A comparison of an interface value with nil. -/
def nilI : AV → AV → Option Bool
  | .iface _ _, .nilIface => some false
  | .nilIface, .iface _ _ => some false
  | .nilIface, .nilIface => some true
  | _, _ => none

def isConst : Operand → Bool
  | .const _ => true
  | _ => false

theorem nilI_ok {P : Program} {env : Env} {a b : AV} {u v : Value} (ha : a.den env = some u) (hb : b.den env = some v) {r : Bool} (h : nilI a b = some r) {t : Nat} {ms : Array (String × TypeId)} (ht : P.underlying t = some (.interface ms)) {x y : Operand} (hc : (isConst x || isConst y) = true) (op : BinOp) (hop : op = .eql ∨ op = .neq) (w : World) :
    (eqGuard op t x y u v).run P w = .ok () w ∧ (Op.equal t u v).run P w = .ok r w ∧ (∃ c d, u = .iface c d ∨ u = .nilIface) := by
  have key : ∀ (r : Bool), (u = .nilIface ∧ v = .nilIface ∧ r = true) ∨ (∃ c d, u = .iface c d ∧ v = .nilIface ∧ r = false) ∨ (∃ c d, u = .nilIface ∧ v = .iface c d ∧ r = false) →
      (eqGuard op t x y u v).run P w = .ok () w ∧ (Op.equal t u v).run P w = .ok r w ∧ (∃ c d, u = .iface c d ∨ u = .nilIface) := by
    intro r hr
    have e1 : (Op.equal t u v).run P w = .ok r w := by
      have : ∀ d, (Op.equalIn (d + 1) t u v).run P w = .ok r w := by
        intro d
        rcases hr with ⟨rfl, rfl, rfl⟩ | ⟨c, e, rfl, rfl, rfl⟩ | ⟨c, e, rfl, rfl, rfl⟩ <;>
        simp only [Op.equalIn, Sem.run_bind, run_underlying ht, Result.andThen_ok, Sem.run_pure]
      exact this 9999
    refine ⟨?_, e1, ?_⟩
    · rcases hr with ⟨rfl, rfl, rfl⟩ | ⟨c, e, rfl, rfl, rfl⟩ | ⟨c, e, rfl, rfl, rfl⟩
      · cases x <;> cases y <;> first
          | (cases hc; done)
          | (rcases hop with rfl | rfl <;> rfl)
      · rcases hop with rfl | rfl <;> rfl
      · rcases hop with rfl | rfl <;> rfl
    · rcases hr with ⟨rfl, _⟩ | ⟨c, e, rfl, _⟩ | ⟨c, e, rfl, _⟩
      · exact ⟨0, .nilIface, .inr rfl⟩
      · exact ⟨c, e, .inl rfl⟩
      · exact ⟨0, .nilIface, .inr rfl⟩
  have nil : ∀ {z : Value}, AV.nilIface.den env = some z → z = .nilIface := fun hz => by simp only [AV.den, Option.some.injEq] at hz; exact hz.symm
  unfold nilI at h
  split at h
  · cases h
    obtain ⟨q, _, rfl⟩ := AV.den_iface ha
    exact key _ (.inr (.inl ⟨_, _, rfl, nil hb, rfl⟩))
  · cases h
    obtain ⟨q, _, rfl⟩ := AV.den_iface hb
    exact key _ (.inr (.inr ⟨_, _, nil ha, rfl, rfl⟩))
  · cases h
    exact key _ (.inl ⟨nil ha, nil hb, rfl⟩)
  · cases h

def isIfc : TypeDesc → Bool
  | .interface _ => true
  | _ => false

def pop3 (T : Tab) (fs : Facts) (tm : Tm) (o : Op) : Option AV :=
  match o with
  | .indexAddr t x i => match T.tys t, evO tm x, evO tm i with
    | some ti, some (.rsl b len), some (.int _ (.ci n)) => match ti.desc with
      | .slice e => match T.tys e with
        | some te => match inRow fs n len with
          | true => some (.rptr b (n.toNat * te.size))
          | false => none
        | none => none
      | _ => none
    | _, _, _ => none
  | .call c => match c.callee, evOs tm c.args.toList, c.argTypes.toList with
    | .builtin .len, some [.rsl _ n], [t] => match T.tys t with
      | some ti => match ti.desc with
        | .slice _ => some (.int .i64 n)
        | _ => none
      | none => none
    | _, _, _ => none
  | .binOp op t x y _ => match T.tys t, evO tm x, evO tm y with
    | some ti, some a, some b => match ti.desc with
      | .interface _ => match isConst x || isConst y, nilI a b, op with
        | true, some r, .eql => some (.bool (.cb r))
        | true, some r, .neq => some (.bool (.cb (!r)))
        | _, _, _ => none
      | _ => none
    | _, _, _ => none
  | .typeAssert x _ t ok => match T.tys t, evO tm x with
    | some ti, some (.iface d v) => match isIfc ti.desc, d.beq t, ok with
      | false, true, true => some (.tup [v, .bool (.cb true)])
      | false, true, false => some v
      | _, _, _ => none
    | _, _ => none
  | _ => none

theorem pop3_ok {C : Ctx} (hT : TabOk C) {env : Env} {fs : Facts} (hf : FactsOk env fs) {tm : Tm} {a : Act} (ht : TRel env tm a.tmps) {o : Oper} {v : AV} (h : pop3 C.T fs tm o.op = some v) (w : World) : PopOk C env a o v w := by
  obtain ⟨dst, op, type, pos, after, guard⟩ := o
  unfold PopOk execOp
  cases op <;> simp only [pop3] at h ⊢
  case indexAddr t x i =>
    split at h
    · rename_i ti b len k n hti hx hi
      split at h
      · rename_i e hd
        split at h
        · rename_i te hte
          split at h
          · rename_i hin
            cases h
            have h1 := (hT.tys _ _ hti).run_und w
            rw [hd] at h1
            have h2 := (hT.tys _ _ hte).run_size w
            obtain ⟨kk, oo, c, ln, hk, hl, hl0, he⟩ := AV.den_rsl (evO_ok ht hx)
            obtain ⟨hn0, hn1⟩ := inRow_ok hf hin hl
            obtain ⟨m, hm, hei⟩ := AV.den_int (evO_ok ht hi)
            simp only [X.den, Option.some.injEq, Sc.i.injEq] at hm
            subst hm
            refine ⟨.pointer (some ⟨kk, oo + n.toNat * te.size, none⟩), by simp only [AV.den, hk], ?_⟩
            have hlt : n < ((ln.toNat : Nat) : Int) := by rw [Int.toNat_of_nonneg hl0]; exact hn1
            simp only [Sem.run_bind, Instr.indexAt, h1, he, hei, asIntOf, Result.andThen_ok, Sem.run_pure, if_pos (show 0 ≤ n ∧ n < ↑ln.toNat from ⟨hn0, hlt⟩), h2, addr_add]
          · cases h
        · cases h
      · cases h
    · cases h
  case binOp op t x y yt =>
    split at h
    · rename_i ti av bv hti hx hy
      split at h
      · rename_i ms hd
        have hu : C.P.underlying t = some (.interface ms) := by rw [(hT.tys _ _ hti).und, hd]
        split at h
        · rename_i r hc hr
          cases h
          obtain ⟨g1, g2, c, d, g3⟩ := nilI_ok (evO_ok ht hx) (evO_ok ht hy) hr hu hc .eql (.inl rfl) w
          refine ⟨.bool r, by simp only [AV.den, X.den], ?_⟩
          rcases g3 with g3 | g3 <;> rw [g3] at g1 g2 ⊢ <;> simp only [Sem.run_bind, g1, Result.andThen_ok, binOp, g2, Sem.run_pure]
        · rename_i r hc hr
          cases h
          obtain ⟨g1, g2, c, d, g3⟩ := nilI_ok (evO_ok ht hx) (evO_ok ht hy) hr hu hc .neq (.inr rfl) w
          refine ⟨.bool (!r), by simp only [AV.den, X.den], ?_⟩
          rcases g3 with g3 | g3 <;> rw [g3] at g1 g2 ⊢ <;> simp only [Sem.run_bind, g1, Result.andThen_ok, binOp, g2, Sem.run_pure]
        · cases h
      · cases h
    · cases h
  case typeAssert x xt t ok =>
    split at h
    · rename_i ti d v hti hx
      obtain ⟨u, hu, he⟩ := AV.den_iface (evO_ok ht hx)
      have h1 := (hT.tys _ _ hti).run_und w
      split at h
      · rename_i hi hd
        cases h
        have hd' := Nat.eq_of_beq_eq_true hd
        subst hd'
        refine ⟨.tuple #[u, .bool true], by simp [AV.den, AV.dens, hu, X.den], ?_⟩
        simp only [Sem.run_bind, Instr.typeAssert, h1, Result.andThen_ok, he]
        cases hde : ti.desc <;> rw [hde] at hi <;> first
          | (cases hi; done)
          | simp
      · rename_i hi hd
        cases h
        have hd' := Nat.eq_of_beq_eq_true hd
        subst hd'
        refine ⟨u, hu, ?_⟩
        simp only [Sem.run_bind, Instr.typeAssert, h1, Result.andThen_ok, he]
        cases hde : ti.desc <;> rw [hde] at hi <;> first
          | (cases hi; done)
          | simp
      · cases h
    · cases h
  case call c =>
    obtain ⟨callee, args, argTypes⟩ := c
    simp only at h ⊢
    split at h
    · rename_i id n t hargs hts
      have h1 := evOs_ok ht hargs
      obtain ⟨u, us, hu, hus, e⟩ := AV.dens_cons h1
      cases AV.dens_nil' hus
      obtain ⟨kk, oo, cc, ln, hk, hl, hl0, rfl⟩ := AV.den_rsl hu
      have eargs : args.map a.eval = #[.slice (some ⟨kk, oo, none⟩) ln.toNat cc] := by obtain ⟨args⟩ := args; simpa using e
      have ets : argTypes = #[t] := by obtain ⟨l⟩ := argTypes; simp at hts ⊢; exact hts
      subst ets
      split at h
      · rename_i ti hti
        have h2 := (hT.tys _ _ hti).run_und w
        split at h
        · rename_i hd
          cases h
          rw [hd] at h2
          refine ⟨.int .i64 ln, by simp only [AV.den, hl], ?_⟩
          simp [resolve, eargs, invoke, builtin, Builtin.len_, h2, goInt, Int.toNat_of_nonneg hl0]
        · cases h
      · cases h
    · cases h
  all_goals (cases h)

def popC (T : Tab) (fs : Facts) (tm : Tm) (o : Op) : Option AV :=
  match pop2 T tm o with
  | some v => some v
  | none => pop3 T fs tm o

theorem popC_ok {C : Ctx} (hT : TabOk C) {env : Env} {fs : Facts} (hf : FactsOk env fs) {tm : Tm} {a : Act} (ht : TRel env tm a.tmps) {o : Oper} {v : AV} (h : popC C.T fs tm o.op = some v) (w : World) : PopOk C env a o v w := by
  unfold popC at h
  split at h
  · rename_i u hu
    cases h
    exact pop2_ok hT ht hu w
  · exact pop3_ok hT hf ht h w

end Go.Ex
