/- A symbolic executor for Go code in the model, proved sound for any program: operations on values and on memory. No condition. -/
import Derived.Test.YtefmckneohhijaaGreatDoorHExA
namespace Go.Ex
open Go Go.RowKit

def putL : List AV → Nat → List AV → List AV
  | cs, _, [] => cs
  | cs, off, a :: l => putL (cs.set off a) (off + 1) l

def putV : List Value → Nat → List Value → List Value
  | cs, _, [] => cs
  | cs, off, a :: l => putV (cs.set off a) (off + 1) l

theorem putV_length : ∀ (l : List Value) (cs : List Value) (off : Nat), (putV cs off l).length = cs.length
  | [], cs, off => rfl
  | a :: l, cs, off => by simp only [putV]; rw [putV_length l]; simp

theorem putL_dens {env : Env} : ∀ {l : List AV} {us : List Value} {cs : List AV} {vs : List Value} (off : Nat), AV.dens env l = some us → AV.dens env cs = some vs → AV.dens env (putL cs off l) = some (putV vs off us)
  | [], us, cs, vs, off, h, h' => by cases AV.dens_nil' h; exact h'
  | a :: l, us, cs, vs, off, h, h' => by
    obtain ⟨v, us', hv, hus, rfl⟩ := AV.dens_cons h
    simp only [putL, putV]
    exact putL_dens (off + 1) hus (AV.dens_set h' off hv)

theorem putV_array (us vs : List Value) (off : Nat) : us.toArray.zipIdx.foldl (fun (cs : Array Value) (c, j) => cs.setIfInBounds (off + j) c) vs.toArray = (putV vs off us).toArray := by
  have key : ∀ (us vs : List Value) (k : Nat), (us.zipIdx k).foldl (fun (cs : Array Value) (x : Value × Nat) => cs.setIfInBounds (off + x.2) x.1) vs.toArray = (putV vs (off + k) us).toArray := by
    intro us
    induction us with
    | nil => intro vs k; rfl
    | cons a l ih =>
      intro vs k
      simp only [List.zipIdx_cons, List.foldl_cons, putV]
      rw [List.setIfInBounds_toArray, ih]; rfl
  have := key us vs 0
  simp only [Nat.add_zero] at this
  rw [← this, ← Array.foldl_toList]
  simp

def evParts (tm : Tm) : List (Nat × Operand) → Option (List (Nat × AV))
  | [] => some []
  | (i, x) :: l => match evO tm x, evParts tm l with
    | some a, some r => some ((i, a) :: r)
    | _, _ => none

/-- Is this a value of which each cell is one? -/
def AV.flat : AV → Bool
  | .agg l => l.all AV.isCell
  | .tup _ => false
  | _ => true

theorem AV.flat_ok {env : Env} {a : AV} {v : Value} (hf : a.flat = true) (h : a.den env = some v) : AV.dens env a.cells = some v.cells.toList ∧ (∀ u ∈ v.cells.toList, isOne u = true) := by
  have other : a.isCell = true → AV.dens env a.cells = some v.cells.toList ∧ (∀ u ∈ v.cells.toList, isOne u = true) := by
    intro hc
    have h1 := AV.one_of hc h
    refine ⟨AV.cells_den h (.inl h1), fun u hu => ?_⟩
    have : v.cells.toList = [v] := by cases v <;> first | rfl | (cases h1; done)
    rw [this] at hu
    rw [List.mem_singleton.1 hu]; exact h1
  cases a with
  | agg l =>
    obtain ⟨vs, hvs, rfl⟩ := AV.den_agg h
    refine ⟨by simpa [AV.cells, Value.cells] using hvs, fun u hu => ?_⟩
    have hu' : u ∈ vs := by simpa [Value.cells] using hu
    obtain ⟨i, hi, hiu⟩ := List.getElem_of_mem hu'
    have hlen := AV.dens_length hvs
    have hil : i < l.length := by omega
    obtain ⟨v', hv', hd⟩ := AV.dens_get hvs (List.getElem?_eq_getElem hil)
    have hf' : l.all AV.isCell = true := hf
    have hcell := List.all_eq_true.1 hf' _ (List.getElem_mem hil)
    have := AV.one_of hcell hd
    rw [List.getElem?_eq_getElem hi] at hv'
    rw [← hiu]; cases hv'; exact this
  | tup l => cases hf
  | _ => exact other rfl

def fillA (place : Nat → Option (Nat × Nat)) : List AV → List (Nat × AV) → Option (List AV)
  | cs, [] => some cs
  | cs, (i, a) :: l => match place i with
    | none => none
    | some (off, size) => if a.flat && (a.cells.length.beq size && Nat.ble (off + size) cs.length) then fillA place (putL cs off a.cells) l else none

theorem fillA_ok {env : Env} {place : Nat → Option (Nat × Nat)} : ∀ {ps : List (Nat × AV)} {qs : List (Nat × Value)} {cs : List AV} {vs : List Value} {r : List AV},
    (ps.map (·.1) = qs.map (·.1)) → (∀ (j : Nat) (p : Nat × AV) (q : Nat × Value), ps[j]? = some p → qs[j]? = some q → p.2.den env = some q.2) → AV.dens env cs = some vs → fillA place cs ps = some r →
    ∃ us, AV.dens env r = some us ∧ Instr.fill place vs.toArray qs = some us.toArray
  | [], [], cs, vs, r, _, _, h, hf => by cases hf; exact ⟨vs, h, rfl⟩
  | (i, a) :: ps, [], _, _, _, hm, _, _, _ => by simp at hm
  | [], _ :: _, _, _, _, hm, _, _, _ => by simp at hm
  | (i, a) :: ps, (i', v) :: qs, cs, vs, r, hm, hd, h, hf => by
    simp only [List.map_cons, List.cons.injEq] at hm
    obtain ⟨rfl, hm⟩ := hm
    simp only [fillA] at hf
    split at hf
    · cases hf
    · rename_i off size hp
      split at hf
      · rename_i hc
        simp only [Bool.and_eq_true] at hc
        obtain ⟨hfl, hsz, hle⟩ := hc
        have hsz := Nat.eq_of_beq_eq_true hsz
        have hle := Nat.le_of_ble_eq_true hle
        have hav : a.den env = some v := hd 0 (i, a) (i, v) (by simp) (by simp)
        obtain ⟨hcs, _⟩ := AV.flat_ok hfl hav
        have hlen := AV.dens_length hcs
        have hlen2 := AV.dens_length h
        obtain ⟨us, hus, hfill⟩ := fillA_ok (qs := qs) hm (fun j p q hj hq => hd (j + 1) p q (by simpa using hj) (by simpa using hq)) (putL_dens off hcs h) hf
        refine ⟨us, hus, ?_⟩
        simp only [Instr.fill, hp]
        rw [if_neg]
        · rw [← hfill]
          congr 1
          have := putV_array v.cells.toList vs off
          simpa using this
        · simp at hlen ⊢; omega
      · cases hf

theorem evParts_ok {env : Env} {tm : Tm} {a : Act} (ht : TRel env tm a.tmps) : ∀ {l : List (Nat × Operand)} {ps : List (Nat × AV)}, evParts tm l = some ps →
    ps.map (·.1) = (l.map fun (i, x) => (i, a.eval x)).map (·.1) ∧ (∀ (j : Nat) (p : Nat × AV) (q : Nat × Value), ps[j]? = some p → (l.map fun (i, x) => (i, a.eval x))[j]? = some q → p.2.den env = some q.2)
  | [], ps, h => by cases h; exact ⟨rfl, fun j p q hp _ => by cases hp⟩
  | (i, x) :: l, ps, h => by
    simp only [evParts] at h
    split at h
    · rename_i v r hv hr
      cases h
      obtain ⟨h1, h2⟩ := evParts_ok ht hr
      refine ⟨by simp only [List.map_cons, h1], fun j p q hp hq => ?_⟩
      cases j with
      | zero => simp at hp hq; subst hp; subst hq; exact evO_ok ht hv
      | succ j => simp at hp hq; exact h2 j p q hp (by simpa using hq)
    · cases h

def placeOf (T : Tab) (ti : TI) : Nat → Option (Nat × Nat) :=
  match ti.desc with
  | .struct fields => fun i => match fields[i]? with
    | some f => match T.tys f.type with
      | some tf => some (f.offset, tf.size)
      | none => none
    | none => none
  | .array _ e => fun i => match T.tys e with
    | some te => some (i * te.size, te.size)
    | none => none
  | _ => fun _ => none

def pickB (fs : Facts) (tm : Tm) (c a b : Operand) : Option AV :=
  match evO tm c with
  | some (.bool x) => match decideX fs x with
    | some true => evO tm a
    | some false => evO tm b
    | none => none
  | _ => none

def minL : AV → List AV → Option AV
  | a, [] => some a
  | .int k x, .int _ y :: l => minL (.int k (X.mkMin x y)) l
  | _, _ => none
def maxL : AV → List AV → Option AV
  | a, [] => some a
  | .int k x, .int _ y :: l => maxL (.int k (X.mkMax x y)) l
  | _, _ => none

/-- A struct's fields' types are in the table. -/
def fieldsIn (T : Tab) : List Field → Bool
  | [] => true
  | f :: l => (T.tys f.type).isSome && fieldsIn T l

def buildable (T : Tab) (ti : TI) : Bool :=
  match ti.desc with
  | .struct fields => fieldsIn T fields.toList
  | .array _ e => (T.tys e).isSome
  | _ => false

/-- Operations without a look at memory. -/
def pop (T : Tab) (fs : Facts) (tm : Tm) (o : Op) : Option AV :=
  match o with
  | .move x => evO tm x
  | .assign x => evO tm x
  | .pick c a b => pickB fs tm c a b
  | .build t parts => match T.tys t, evParts tm parts.toList with
    | some ti, some ps => if buildable T ti then (fillA (placeOf T ti) ti.zero ps).map .agg else none
    | _, _ => none
  | .nilCheck x => match evO tm x with
    | some (.ptr i o) => some (.ptr i o)
    | some (.gptr i o) => some (.gptr i o)
    | some (.func f a c) => some (.func f a c)
    | _ => none
  | .binOp op t x y _ => match evO tm x, evO tm y with
    | some a, some b => binAV T op t a b
    | _, _ => none
  | .unOp op _ x => match op, evO tm x with
    | .neg, some (.int k x) => some (.int k (X.mkNeg k x))
    | .not, some (.bool x) => some (.bool (X.mkNot x))
    | _, _ => none
  | .convert s d x => match T.tys s, T.tys d, evO tm x with
    | some _, some ti, some (.int _ x) => match ti.desc with
      | .int k => some (.int k (X.mkConv k x))
      | _ => none
    | _, _, _ => none
  | .makeInterface t x => match T.tys t, evO tm x with
    | some ti, some a => match ti.desc with
      | .interface _ => none
      | _ => some (.iface t a)
    | _, _ => none
  | .makeFunc fn first cap => match fn, evOs tm first.toList, evOs tm cap.toList with
    | .func f, some a, some c => some (.func f a c)
    | _, _, _ => none
  | .slice t x none none none => match T.tys t, evO tm x with
    | some ti, some (.ptr i o) => match ti.desc with
      | .array n e => match T.tys e with
        | some _ => some (.slice i o n n)
        | none => none
      | _ => none
    | _, _ => none
  | .fieldAddr s x f => match T.tys s, evO tm x with
    | some ti, some (.ptr i o) => match ti.desc with
      | .struct fields => match fields[f]? with
        | some fd => match T.tys fd.type with
          | some tf => if tf.size.beq 0 then none else some (.ptr i (o + fd.offset))
          | none => none
        | none => none
      | _ => none
    | some ti, some (.gptr i o) => match ti.desc with
      | .struct fields => match fields[f]? with
        | some fd => match T.tys fd.type with
          | some tf => if tf.size.beq 0 then none else some (.gptr i (o + fd.offset))
          | none => none
        | none => none
      | _ => none
    | _, _ => none
  | .field t x f => match T.tys t, evO tm x with
    | some ti, some (.agg cs) => match ti.desc with
      | .struct fields => match fields[f]? with
        | some fd => match T.tys fd.type with
          | some tf => loadFrom tf cs fd.offset
          | none => none
        | none => none
      | _ => none
    | _, _ => none
  | .indexAddr t x i => match T.tys t, evO tm x, evO tm i with
    | some ti, some (.ptr b o), some (.int _ (.ci n)) => match ti.desc with
      | .array len e => match T.tys e with
        | some te => if n < 0 then none else if n < len then some (.ptr b (o + n.toNat * te.size)) else none
        | none => none
      | _ => none
    | some ti, some (.gptr b o), some (.int _ (.ci n)) => match ti.desc with
      | .array len e => match T.tys e with
        | some te => if n < 0 then none else if n < len then some (.gptr b (o + n.toNat * te.size)) else none
        | none => none
      | _ => none
    | some ti, some (.slice b o len _), some (.int _ (.ci n)) => match ti.desc with
      | .slice e => match T.tys e with
        | some te => if n < 0 then none else if n < len then some (.ptr b (o + n.toNat * te.size)) else none
        | none => none
      | _ => none
    | _, _, _ => none
  | .index t x i => match T.tys t, evO tm x, evO tm i with
    | some ti, some (.agg cs), some (.int _ (.ci n)) => match ti.desc with
      | .array len e => match T.tys e with
        | some te => if n < 0 then none else if n < len then loadFrom te cs (n.toNat * te.size) else none
        | none => none
      | _ => none
    | _, _, _ => none
  | .extract x i => match evO tm x with
    | some (.tup l) => l[i]?
    | _ => none
  | .call c => match c.callee, evOs tm c.args.toList with
    | .builtin .len, some [.str x] => match c.argTypes.toList with
      | [t] => match T.tys t with
        | some ti => match ti.desc with
          | .string => some (.int .i64 (X.mkLen x))
          | _ => none
        | none => none
      | _ => none
    | .builtin .len, some [.slice _ _ n _] => match c.argTypes.toList with
      | [t] => match T.tys t with
        | some ti => match ti.desc with
          | .slice _ => some (.int .i64 (.ci n))
          | _ => none
        | none => none
      | _ => none
    | .builtin .len, some [.nilslice] => match c.argTypes.toList with
      | [t] => match T.tys t with
        | some ti => match ti.desc with
          | .slice _ => some (.int .i64 (.ci 0))
          | _ => none
        | none => none
      | _ => none
    | .builtin .min, some (a :: l) => match a with
      | .int k x => minL (.int k x) l
      | _ => none
    | .builtin .max, some (a :: l) => match a with
      | .int k x => maxL (.int k x) l
      | _ => none
    | _, _ => none
  | _ => none

theorem evOs_ok {env : Env} {tm : Tm} {a : Act} (ht : TRel env tm a.tmps) : ∀ {l : List Operand} {ps : List AV}, evOs tm l = some ps → AV.dens env ps = some (l.map a.eval)
  | [], ps, h => by cases h; rfl
  | x :: l, ps, h => by
    simp only [evOs] at h
    split at h
    · rename_i v r hv hr
      cases h
      simp only [List.map_cons, AV.dens, evO_ok ht hv, evOs_ok ht hr]
    · cases h

theorem addr_add (b o n : Nat) : (⟨b, o, none⟩ : Addr).add n = ⟨b, o + n, none⟩ := by unfold Addr.add; split <;> simp_all

end Go.Ex

namespace Go.Ex
open Go Go.RowKit

theorem minL_ok {env : Env} {P : Program} : ∀ {l : List AV} {a r : AV} {v : Value} {vs : List Value}, (∃ k x, a = .int k x) → a.den env = some v → AV.dens env l = some vs → minL a l = some r → ∀ w : World,
    ∃ u, r.den env = some u ∧ (vs.foldlM Builtin.min2 v : Sem Value).run P w = .ok u w
  | [], a, r, v, vs, _, ha, hl, h, w => by
    cases AV.dens_nil' hl
    obtain ⟨k, x, rfl⟩ := ‹∃ k x, a = .int k x›
    simp only [minL] at h; cases h
    exact ⟨v, ha, rfl⟩
  | b :: l, a, r, v, vs, hk, ha, hl, h, w => by
    obtain ⟨u, us, hu, hus, rfl⟩ := AV.dens_cons hl
    obtain ⟨k, x, rfl⟩ := hk
    cases b with
    | int k' y =>
      simp only [minL] at h
      obtain ⟨n, hn, rfl⟩ := AV.den_int ha
      obtain ⟨m, hm, rfl⟩ := AV.den_int hu
      have hmin : (AV.int k (X.mkMin x y)).den env = some (.int k (if m < n then m else n)) := by
        simp only [AV.den]
        rw [X.mkMin_den env x y (r := .i (if m < n then m else n)) (by simp only [X.den, hn, hm])]
      obtain ⟨q, hq, hr⟩ := minL_ok ⟨_, _, rfl⟩ hmin hus h w
      exact ⟨q, hq, by simp only [List.foldlM_cons, Builtin.min2, Sem.run_bind, Sem.run_pure, Result.andThen_ok]; exact hr⟩
    | _ => simp only [minL] at h; cases h

theorem maxL_ok {env : Env} {P : Program} : ∀ {l : List AV} {a r : AV} {v : Value} {vs : List Value}, (∃ k x, a = .int k x) → a.den env = some v → AV.dens env l = some vs → maxL a l = some r → ∀ w : World,
    ∃ u, r.den env = some u ∧ (vs.foldlM Builtin.max2 v : Sem Value).run P w = .ok u w
  | [], a, r, v, vs, _, ha, hl, h, w => by
    cases AV.dens_nil' hl
    obtain ⟨k, x, rfl⟩ := ‹∃ k x, a = .int k x›
    simp only [maxL] at h; cases h
    exact ⟨v, ha, rfl⟩
  | b :: l, a, r, v, vs, hk, ha, hl, h, w => by
    obtain ⟨u, us, hu, hus, rfl⟩ := AV.dens_cons hl
    obtain ⟨k, x, rfl⟩ := hk
    cases b with
    | int k' y =>
      simp only [maxL] at h
      obtain ⟨n, hn, rfl⟩ := AV.den_int ha
      obtain ⟨m, hm, rfl⟩ := AV.den_int hu
      have hmin : (AV.int k (X.mkMax x y)).den env = some (.int k (if m > n then m else n)) := by
        simp only [AV.den]
        rw [X.mkMax_den env x y (r := .i (if m > n then m else n)) (by simp only [X.den, hn, hm])]
      obtain ⟨q, hq, hr⟩ := maxL_ok ⟨_, _, rfl⟩ hmin hus h w
      exact ⟨q, hq, by simp only [List.foldlM_cons, Builtin.max2, Sem.run_bind, Sem.run_pure, Result.andThen_ok]; exact hr⟩
    | _ => simp only [maxL] at h; cases h

theorem fieldPlace_ok {P : Program} {tf : TI} {f : Field} (ht : TyOk P f.type tf) (hs : tf.size.beq 0 = false) (b o : Nat) (w : World) : (fieldPlace ⟨b, o, none⟩ f).run P w = .ok ⟨b, o + f.offset, none⟩ w := by
  unfold fieldPlace
  have : ¬ tf.size = 0 := fun e => by rw [e] at hs; cases hs
  simp only [Sem.run_bind, ht.run_size, Result.andThen_ok, if_neg this, Sem.run_pure, addr_add]

theorem mapM_places {P : Program} {C : Ctx} (hT : TabOk C) (hP : C.P = P) : ∀ (fields : List Field) (w : World), (∀ f ∈ fields, ∃ tf, C.T.tys f.type = some tf) →
    (fields.mapM (fun f => do pure (f.offset, ← sizeOf f.type)) : Sem (List (Nat × Nat))).run P w = .ok (fields.map fun f => (f.offset, P.cellsOf f.type)) w := by
  intro fields w h
  induction fields with
  | nil => rfl
  | cons f l ih =>
    obtain ⟨tf, htf⟩ := h f (List.mem_cons_self ..)
    have hty := hT.tys _ _ htf
    rw [hP] at hty
    obtain ⟨info, z, h1, h2, _⟩ := hty.info
    have hc : P.cellsOf f.type = tf.size := by simp [Program.cellsOf, h1, h2]
    simp only [List.mapM_cons, Sem.run_bind, hty.run_size, Result.andThen_ok, Sem.run_pure, ih (fun g hg => h g (List.mem_cons_of_mem _ hg)), List.map_cons, hc]

theorem fieldsIn_ok {T : Tab} : ∀ {l : List Field}, fieldsIn T l = true → ∀ f ∈ l, ∃ tf, T.tys f.type = some tf
  | [], _, f, hf => by cases hf
  | g :: l, h, f, hf => by
    simp only [fieldsIn, Bool.and_eq_true] at h
    rcases List.mem_cons.1 hf with rfl | hf
    · exact Option.isSome_iff_exists.1 h.1
    · exact fieldsIn_ok h.2 f hf

theorem build_ok {C : Ctx} (hT : TabOk C) {env : Env} {t : Nat} {ti : TI} (hti : C.T.tys t = some ti) {ps : List (Nat × AV)} {qs : List (Nat × Value)} {r : List AV} (hm : ps.map (·.1) = qs.map (·.1))
    (hd : ∀ (j : Nat) (p : Nat × AV) (q : Nat × Value), ps[j]? = some p → qs[j]? = some q → p.2.den env = some q.2) (hf : fillA (placeOf C.T ti) ti.zero ps = some r)
    (hin : buildable C.T ti = true) (w : World) :
    ∃ us, AV.dens env r = some us ∧ (Instr.build t qs.toArray).run C.P w = .ok (.agg us.toArray) w := by
  have hty := hT.tys _ _ hti
  obtain ⟨z, hz, hzd, hz1⟩ := hty.run_zero w
  obtain ⟨us, hus, hfill⟩ := fillA_ok hm hd (dens_nil hzd) hf
  refine ⟨us, hus, ?_⟩
  unfold Instr.build
  simp only [Sem.run_bind, hz, hty.run_und, Result.andThen_ok]
  cases hdesc : ti.desc with
  | struct fields =>
    simp only
    have hplaces := mapM_places (P := C.P) hT rfl fields.toList w (fieldsIn_ok (by simpa [buildable, hdesc] using hin))
    have harr : (fields.mapM (fun f => do pure (f.offset, ← sizeOf f.type)) : Sem (Array (Nat × Nat))).run C.P w = .ok ((fields.toList.map fun f => (f.offset, C.P.cellsOf f.type)).toArray) w := by
      rw [Array.mapM_eq_mapM_toList, Sem.run_map, hplaces]; rfl
    simp only [Sem.run_bind, harr, Result.andThen_ok]
    have hpl : Instr.fill (fun x => ((fields.toList.map fun f => (f.offset, C.P.cellsOf f.type)).toArray)[x]?) z.cells qs = some us.toArray := by
      have e : ∀ (p q : Nat → Option (Nat × Nat)) (cs : Array Value) (l : List (Nat × Value)) (u : Array Value), (∀ i v, p i = some v → q i = some v) → Instr.fill p cs l = some u → Instr.fill q cs l = some u := by
        intro p q cs l
        induction l generalizing cs with
        | nil => intro u _ h; exact h
        | cons x l ih =>
          intro u hpq h
          obtain ⟨i, v⟩ := x
          simp only [Instr.fill] at h ⊢
          cases hpi : p i with
          | none => simp [hpi] at h
          | some os =>
            obtain ⟨o, s⟩ := os
            rw [hpq i _ hpi]
            simp only [hpi] at h
            simp only
            split at h
            · cases h
            · rename_i hc; rw [if_neg hc]; exact ih _ u hpq h
      refine e _ _ _ _ _ ?_ (by simpa using hfill)
      intro i v hv
      simp only [placeOf, hdesc] at hv
      split at hv
      · rename_i f hfi
        split at hv
        · rename_i tf htf
          cases hv
          obtain ⟨info, z', h1, h2, _⟩ := (hT.tys _ _ htf).info
          have hc : C.P.cellsOf f.type = tf.size := by simp [Program.cellsOf, h1, h2]
          simp [hfi, hc]
        · cases hv
      · cases hv
    simp only [hpl, Sem.run_pure]
  | array n e =>
    simp only
    cases hte : C.T.tys e with
    | some te =>
      simp only [Sem.run_bind, (hT.tys _ _ hte).run_size, Result.andThen_ok]
      have : placeOf C.T ti = fun i => some (i * te.size, te.size) := by simp only [placeOf, hdesc, hte]
      rw [this] at hfill
      have hfill' : Instr.fill (fun i => some (i * te.size, te.size)) z.cells qs = some us.toArray := by simpa using hfill
      simp only [hfill', Sem.run_pure]
    | none => simp [buildable, hdesc, hte] at hin
  | _ => simp [buildable, hdesc] at hin


def PopOk (C : Ctx) (env : Env) (a : Act) (o : Oper) (v : AV) (w : World) : Prop := ∃ V, v.den env = some V ∧ (execOp a.eval o).run C.P w = .ok (.value V) w

theorem pop_ok {C : Ctx} (hT : TabOk C) {env : Env} {fs : Facts} (hf : FactsOk env fs) {tm : Tm} {a : Act} (ht : TRel env tm a.tmps) {o : Oper} {v : AV} (h : pop C.T fs tm o.op = some v) (w : World) : PopOk C env a o v w := by
  obtain ⟨dst, op, type, pos, after, guard⟩ := o
  unfold PopOk execOp
  cases op <;> simp only [pop] at h ⊢
  case move x => exact ⟨_, evO_ok ht h, rfl⟩
  case assign x => exact ⟨_, evO_ok ht h, rfl⟩
  case pick c x y =>
    unfold pickB at h
    split at h
    · rename_i z hz
      obtain ⟨b, hb, he⟩ := AV.den_bool (evO_ok ht hz)
      have hdec : ∀ {q : Bool}, decideX fs z = some q → b = q := fun {q} hq => by
        have := decideX_ok hf z hq
        rw [hb] at this; cases this; rfl
      split at h
      · rename_i hq
        refine ⟨_, evO_ok ht h, ?_⟩
        simp [he, asBool, hdec hq]
      · rename_i hq
        refine ⟨_, evO_ok ht h, ?_⟩
        simp [he, asBool, hdec hq]
      · cases h
    · cases h
  case build t parts =>
    split at h
    · rename_i ti ps hti hps
      split at h
      · rename_i hb
        simp only [Option.map_eq_some_iff] at h
        obtain ⟨r, hr, rfl⟩ := h
        obtain ⟨h1, h2⟩ := evParts_ok ht hps
        obtain ⟨us, hus, hrun⟩ := build_ok hT hti h1 h2 hr hb w
        refine ⟨.agg us.toArray, by simp only [AV.den, hus], ?_⟩
        have e : (parts.map fun (i, x) => (i, a.eval x)) = ((parts.toList.map fun (i, x) => (i, a.eval x))).toArray := by obtain ⟨l⟩ := parts; simp
        simp only [Sem.run_bind, e, hrun, Result.andThen_ok, Sem.run_pure]
      · cases h
    · cases h
  case nilCheck x =>
    split at h
    · rename_i i o hx
      cases h
      have := evO_ok ht hx
      obtain ⟨k, hk, he⟩ := AV.den_ptr this
      exact ⟨_, this, by simp [he]⟩
    · rename_i i o hx
      cases h
      have := evO_ok ht hx
      have he : a.eval x = .pointer (some ⟨i, o, none⟩) := by simp only [AV.den, Option.some.injEq] at this; exact this.symm
      exact ⟨_, this, by simp [he]⟩
    · rename_i f as cs hx
      cases h
      have := evO_ok ht hx
      obtain ⟨us, vs, _, _, he⟩ := AV.den_func this
      exact ⟨_, this, by simp [he]⟩
    · cases h
  case binOp op t x y yt =>
    split at h
    · rename_i u q hu hq
      obtain ⟨r, hr, hrun⟩ := binAV_ok hT (evO_ok ht hu) (evO_ok ht hq) (x := x) (y := y) h w
      refine ⟨r, hr, ?_⟩
      simp only [Sem.run_bind, Sem.run_pure] at hrun ⊢
      rw [hrun]; rfl
    · cases h
  case unOp op t x =>
    split at h
    · rename_i z hz
      cases h
      obtain ⟨n, hn, he⟩ := AV.den_int (evO_ok ht hz)
      rename_i k
      refine ⟨.int k (k.wrap (0 - n)), ?_, by simp [he, Op.unary, Op.intArith]⟩
      simp only [AV.den]
      rw [X.mkNeg_den env k z (r := .i (k.wrap (0 - n))) (by simp only [X.den, hn])]
    · rename_i z hz
      cases h
      obtain ⟨n, hn, he⟩ := AV.den_bool (evO_ok ht hz)
      refine ⟨.bool (!n), ?_, by simp [he, Op.unary]⟩
      simp only [AV.den]
      rw [X.mkNot_den env z (r := .b (!n)) (by simp only [X.den, hn])]
    · cases h
  case convert s d x =>
    split at h
    · rename_i tis ti k z htis hti hz
      split at h
      · rename_i k' hd
        cases h
        obtain ⟨n, hn, he⟩ := AV.den_int (evO_ok ht hz)
        have h1 := (hT.tys _ _ htis).run_und w
        have h2 := (hT.tys _ _ hti).run_und w
        rw [hd] at h2
        refine ⟨.int k' (k'.wrap n), ?_, ?_⟩
        · simp only [AV.den]
          rw [X.mkConv_den env k' z (r := .i (k'.wrap n)) (by simp only [X.den, hn])]
        · simp only [Sem.run_bind, convert, h1, h2, he, Result.andThen_ok, Conv.intToInt, Sem.run_pure]
      · cases h
    · cases h
  case makeInterface t x =>
    split at h
    · rename_i ti u hti hu
      have h1 := (hT.tys _ _ hti).run_und w
      have h2 := evO_ok ht hu
      split at h
      · cases h
      · rename_i hni
        cases h
        refine ⟨.iface t (a.eval x), by simp only [AV.den, h2], ?_⟩
        simp only [Sem.run_bind, Instr.makeInterface, h1, Result.andThen_ok]
        cases hd : ti.desc <;> first
          | (exact (hni _ hd).elim)
          | simp
    · cases h
  case makeFunc fn first cap =>
    split at h
    · rename_i f u c hu hc
      cases h
      have h1 := evOs_ok ht hu
      have h2 := evOs_ok ht hc
      refine ⟨_, by simp only [AV.den, h1, h2]; rfl, ?_⟩
      obtain ⟨first⟩ := first; obtain ⟨cap⟩ := cap
      simp [Instr.makeFunc]
    · cases h
  case slice t x lo hi mx =>
    cases lo <;> cases hi <;> cases mx <;> simp only at h <;> first | (cases h; done) | skip
    split at h
    · rename_i ti i o hti hx
      split at h
      · rename_i n e hd
        split at h
        · rename_i te hte
          cases h
          have h1 := (hT.tys _ _ hti).run_und w
          rw [hd] at h1
          have h2 := (hT.tys _ _ hte).run_size w
          obtain ⟨k, hk, he⟩ := AV.den_ptr (evO_ok ht hx)
          refine ⟨.slice (some ⟨k, o, none⟩) n n, by simp only [AV.den, hk], ?_⟩
          simp only [Sem.run_bind, Instr.sliceAt, h1, he, Result.andThen_ok, Instr.sureAddr, Instr.sliceBounds, Option.map_none, Sem.run_pure, h2, Nat.zero_mul, addr_add]
          simp
        · cases h
      · cases h
    · cases h
  case fieldAddr s x f =>
    split at h
    · rename_i ti i o hti hx
      split at h
      · rename_i fields hd
        split at h
        · rename_i fd hfd
          split at h
          · rename_i tf htf
            split at h
            · cases h
            · rename_i hz
              cases h
              have h1 := (hT.tys _ _ hti).run_und w
              rw [hd] at h1
              obtain ⟨k, hk, he⟩ := AV.den_ptr (evO_ok ht hx)
              have h3 := fieldPlace_ok (hT.tys _ _ htf) (Bool.eq_false_iff.2 hz) k o w
              refine ⟨.pointer (some ⟨k, o + fd.offset, none⟩), by simp only [AV.den, hk], ?_⟩
              simp only [Sem.run_bind, Instr.fieldAt, h1, Result.andThen_ok, hfd, he, Instr.sureAddr, Sem.run_pure, h3]
          · cases h
        · cases h
      · cases h
    · rename_i ti i o hti hx
      split at h
      · rename_i fields hd
        split at h
        · rename_i fd hfd
          split at h
          · rename_i tf htf
            split at h
            · cases h
            · rename_i hz
              cases h
              have h1 := (hT.tys _ _ hti).run_und w
              rw [hd] at h1
              have he : a.eval x = .pointer (some ⟨i, o, none⟩) := by have := evO_ok ht hx; simp only [AV.den, Option.some.injEq] at this; exact this.symm
              have h3 := fieldPlace_ok (hT.tys _ _ htf) (Bool.eq_false_iff.2 hz) i o w
              refine ⟨.pointer (some ⟨i, o + fd.offset, none⟩), by simp only [AV.den], ?_⟩
              simp only [Sem.run_bind, Instr.fieldAt, h1, Result.andThen_ok, hfd, he, Instr.sureAddr, Sem.run_pure, h3]
          · cases h
        · cases h
      · cases h
    · cases h
  case field t x f =>
    split at h
    · rename_i ti cs hti hx
      split at h
      · rename_i fields hd
        split at h
        · rename_i fd hfd
          split at h
          · rename_i tf htf
            have h1 := (hT.tys _ _ hti).run_und w
            rw [hd] at h1
            obtain ⟨vs, hvs, he⟩ := AV.den_agg (evO_ok ht hx)
            obtain ⟨u, hu, hrun⟩ := loadFrom_part (hT.tys _ _ htf) hvs h w
            refine ⟨u, hu, ?_⟩
            simp only [Sem.run_bind, Instr.field, h1, Result.andThen_ok, hfd, he, asAgg, Sem.run_pure, hrun]
          · cases h
        · cases h
      · cases h
    · cases h
  case indexAddr t x i =>
    split at h
    · rename_i ti b o k n hti hx hi
      split at h
      · rename_i len e hd
        split at h
        · rename_i te hte
          split at h
          · cases h
          · rename_i h0
            split at h
            · rename_i hlt
              cases h
              have h1 := (hT.tys _ _ hti).run_und w
              rw [hd] at h1
              have h2 := (hT.tys _ _ hte).run_size w
              obtain ⟨kb, hk, he⟩ := AV.den_ptr (evO_ok ht hx)
              obtain ⟨m, hm, hi'⟩ := AV.den_int (evO_ok ht hi)
              have := den_lit hm; subst this
              refine ⟨.pointer (some ⟨kb, o + m.toNat * te.size, none⟩), by simp only [AV.den, hk], ?_⟩
              simp only [Sem.run_bind, Instr.indexAt, h1, he, hi', asIntOf, Result.andThen_ok, Instr.sureAddr, Sem.run_pure, if_pos (show 0 ≤ m ∧ m < ↑len from ⟨by omega, hlt⟩), h2, addr_add]
            · cases h
        · cases h
      · cases h
    · rename_i ti b o k n hti hx hi
      split at h
      · rename_i len e hd
        split at h
        · rename_i te hte
          split at h
          · cases h
          · rename_i h0
            split at h
            · rename_i hlt
              cases h
              have h1 := (hT.tys _ _ hti).run_und w
              rw [hd] at h1
              have h2 := (hT.tys _ _ hte).run_size w
              have he : a.eval x = .pointer (some ⟨b, o, none⟩) := by have := evO_ok ht hx; simp only [AV.den, Option.some.injEq] at this; exact this.symm
              obtain ⟨m, hm, hi'⟩ := AV.den_int (evO_ok ht hi)
              have := den_lit hm; subst this
              refine ⟨.pointer (some ⟨b, o + m.toNat * te.size, none⟩), by simp only [AV.den], ?_⟩
              simp only [Sem.run_bind, Instr.indexAt, h1, he, hi', asIntOf, Result.andThen_ok, Instr.sureAddr, Sem.run_pure, if_pos (show 0 ≤ m ∧ m < ↑len from ⟨by omega, hlt⟩), h2, addr_add]
            · cases h
        · cases h
      · cases h
    · rename_i ti b o len cap k n hti hx hi
      split at h
      · rename_i e hd
        split at h
        · rename_i te hte
          split at h
          · cases h
          · rename_i h0
            split at h
            · rename_i hlt
              cases h
              have h1 := (hT.tys _ _ hti).run_und w
              rw [hd] at h1
              have h2 := (hT.tys _ _ hte).run_size w
              obtain ⟨kb, hk, he⟩ := AV.den_slice (evO_ok ht hx)
              obtain ⟨m, hm, hi'⟩ := AV.den_int (evO_ok ht hi)
              have := den_lit hm; subst this
              refine ⟨.pointer (some ⟨kb, o + m.toNat * te.size, none⟩), by simp only [AV.den, hk], ?_⟩
              simp only [Sem.run_bind, Instr.indexAt, h1, he, hi', asIntOf, Result.andThen_ok, Sem.run_pure, if_pos (show 0 ≤ m ∧ m < ↑len from ⟨by omega, hlt⟩), h2, addr_add]
            · cases h
        · cases h
      · cases h
    · cases h
  case index t x i =>
    split at h
    · rename_i ti cs k n hti hx hi
      split at h
      · rename_i len e hd
        split at h
        · rename_i te hte
          split at h
          · cases h
          · rename_i h0
            split at h
            · rename_i hlt
              have h1 := (hT.tys _ _ hti).run_und w
              rw [hd] at h1
              have h2 := (hT.tys _ _ hte).run_size w
              obtain ⟨vs, hvs, he⟩ := AV.den_agg (evO_ok ht hx)
              obtain ⟨m, hm, hi'⟩ := AV.den_int (evO_ok ht hi)
              have := den_lit hm; subst this
              obtain ⟨u, hu, hrun⟩ := loadFrom_part (hT.tys _ _ hte) hvs h w
              refine ⟨u, hu, ?_⟩
              simp only [Sem.run_bind, Instr.index, h1, he, hi', asIntOf, Result.andThen_ok, Sem.run_pure, if_pos (show 0 ≤ m ∧ m < ↑len from ⟨by omega, hlt⟩), h2, hrun]
            · cases h
        · cases h
      · cases h
    · cases h
  case extract x i =>
    split at h
    · rename_i l hl
      obtain ⟨vs, hvs, he⟩ := AV.den_tup (evO_ok ht hl)
      obtain ⟨u, hu, hd⟩ := AV.dens_get hvs h
      refine ⟨u, hd, ?_⟩
      simp [Instr.extract, he, hu]
    · cases h
  case call c =>
    obtain ⟨callee, args, argTypes⟩ := c
    simp only at h
    split at h
    · rename_i z hargs
      have h1 := evOs_ok ht hargs
      obtain ⟨u, us, hu, hus, e⟩ := AV.dens_cons h1
      cases AV.dens_nil' hus
      obtain ⟨n, hn, rfl⟩ := AV.den_str hu
      have eargs : args.map a.eval = #[.string n] := by obtain ⟨args⟩ := args; simpa using e
      split at h
      · rename_i t hts
        have ets : argTypes = #[t] := by obtain ⟨l⟩ := argTypes; simp at hts ⊢; exact hts
        subst ets
        split at h
        · rename_i ti hti
          have h2 := (hT.tys _ _ hti).run_und w
          split at h
          · rename_i hd
            cases h
            rw [hd] at h2
            refine ⟨.int .i64 n.size, ?_, ?_⟩
            · simp only [AV.den]
              rw [X.mkLen_den env z (r := .i n.size) (by simp only [X.den, hn])]
            · simp [resolve, eargs, invoke, builtin, Builtin.len_, h2, goInt]
          · cases h
        · cases h
      · cases h
    · rename_i b0 o0 n cap hargs
      have h1 := evOs_ok ht hargs
      obtain ⟨u, us, hu, hus, e⟩ := AV.dens_cons h1
      cases AV.dens_nil' hus
      obtain ⟨kk, hk, rfl⟩ := AV.den_slice hu
      have eargs : args.map a.eval = #[.slice (some ⟨kk, o0, none⟩) n cap] := by obtain ⟨args⟩ := args; simpa using e
      split at h
      · rename_i t hts
        have ets : argTypes = #[t] := by obtain ⟨l⟩ := argTypes; simp at hts ⊢; exact hts
        subst ets
        split at h
        · rename_i ti hti
          have h2 := (hT.tys _ _ hti).run_und w
          split at h
          · rename_i hd
            cases h
            rw [hd] at h2
            refine ⟨.int .i64 n, by simp only [AV.den, X.den], ?_⟩
            simp [resolve, eargs, invoke, builtin, Builtin.len_, h2, goInt]
          · cases h
        · cases h
      · cases h
    · rename_i hargs
      have h1 := evOs_ok ht hargs
      obtain ⟨u, us, hu, hus, e⟩ := AV.dens_cons h1
      cases AV.dens_nil' hus
      have hu' : u = .slice none 0 0 := by simp only [AV.den, Option.some.injEq] at hu; exact hu.symm
      subst hu'
      have eargs : args.map a.eval = #[.slice none 0 0] := by obtain ⟨args⟩ := args; simpa using e
      split at h
      · rename_i t hts
        have ets : argTypes = #[t] := by obtain ⟨l⟩ := argTypes; simp at hts ⊢; exact hts
        subst ets
        split at h
        · rename_i ti hti
          have h2 := (hT.tys _ _ hti).run_und w
          split at h
          · rename_i hd
            cases h
            rw [hd] at h2
            refine ⟨.int .i64 0, by simp only [AV.den, X.den], ?_⟩
            simp [resolve, eargs, invoke, builtin, Builtin.len_, h2, goInt]
          · cases h
        · cases h
      · cases h
    · rename_i u l hargs
      have h1 := evOs_ok ht hargs
      obtain ⟨q, qs, hq, hqs, e⟩ := AV.dens_cons h1
      split at h
      · obtain ⟨r, hr, hrun⟩ := minL_ok (P := C.P) ⟨_, _, rfl⟩ hq hqs h w
        refine ⟨r, hr, ?_⟩
        have eargs : (args.map a.eval).toList = q :: qs := by obtain ⟨args⟩ := args; simpa using e
        simp only [Sem.run_bind, resolve, Result.andThen_ok, Sem.run_pure, invoke, builtin, Builtin.min_, eargs, hrun]
      · cases h
    · rename_i u l hargs
      have h1 := evOs_ok ht hargs
      obtain ⟨q, qs, hq, hqs, e⟩ := AV.dens_cons h1
      split at h
      · obtain ⟨r, hr, hrun⟩ := maxL_ok (P := C.P) ⟨_, _, rfl⟩ hq hqs h w
        refine ⟨r, hr, ?_⟩
        have eargs : (args.map a.eval).toList = q :: qs := by obtain ⟨args⟩ := args; simpa using e
        simp only [Sem.run_bind, resolve, Result.andThen_ok, Sem.run_pure, invoke, builtin, Builtin.max_, eargs, hrun]
      · cases h
    · cases h
  all_goals (cases h)

end Go.Ex

namespace Go.Ex
open Go Go.RowKit

/-! ### Loads -/
def lopAt (T : Tab) (heap : List (Nat × AO)) (t : Nat) (x : AV) : Option AV :=
  match T.tys t, x with
  | some ti, .ptr id off => match lookB heap id with
    | some (.cells cs _) => loadFrom ti cs off
    | some (.pref cs _ _ _) => loadFrom ti cs off
    | none => match T.ro id with
      | some (.cells cs _) => loadFrom ti cs off
      | _ => none
    | _ => none
  | some ti, .gptr b off => match T.gtab b with
    | some cs => loadFrom ti cs off
    | none => none
  | some ti, .rptr id off => match T.rs id with
    | some cs => loadFrom ti cs off
    | none => none
  | _, _ => none

def lop (T : Tab) (heap : List (Nat × AO)) (tm : Tm) (o : Op) : Option AV :=
  match o with
  | .load t x => match evO tm x with
    | some a => lopAt T heap t a
    | none => none
  | _ => none

/-- A load, out of what the address stands for. -/
theorem lopAt_ok {C : Ctx} (hT : TabOk C) {env : Env} {st : St} {w : World} (hw : WRel C env st w) {t : Nat} {x v : AV} {p : Value} (hp : x.den env = some p) (h : lopAt C.T st.heap t x = some v) :
    ∃ V, v.den env = some V ∧ (Instr.loadAt t p).run C.P w = .ok V w := by
  unfold lopAt at h
  split at h
  · rename_i ti id off hti
    split at h
    · rename_i cs e hl
      obtain ⟨k, o, h1, h2, h3, h4, h5⟩ := hw.look hl
      obtain ⟨vs, hvs, _, rfl⟩ := h5
      obtain ⟨k', hk', he⟩ := AV.den_ptr hp
      rw [h1] at hk'; cases hk'
      obtain ⟨u, hu, hrun⟩ := loadFrom_load (hT.tys _ _ hti) hvs h h4
      exact ⟨u, hu, by simp only [Instr.loadAt, he, Instr.sureAddr, Sem.run_bind, Sem.run_pure, Result.andThen_ok, hrun]⟩
    · rename_i cs e sz id' hl
      obtain ⟨k, o, h1, h2, h3, h4, h5⟩ := hw.look hl
      obtain ⟨vs, cur, kc, hvs, _, _, rfl, htake, _⟩ := h5
      obtain ⟨k', hk', he⟩ := AV.den_ptr hp
      rw [h1] at hk'; cases hk'
      obtain ⟨u, hu, hrun⟩ := loadFrom_loadC (hT.tys _ _ hti) hvs h fun j v hj => by
        rw [cell_of_row w k j cur e (0, 0) h4]
        rw [← htake, List.getElem?_take] at hj
        split at hj
        · simpa using hj
        · cases hj
      exact ⟨u, hu, by simp only [Instr.loadAt, he, Instr.sureAddr, Sem.run_bind, Sem.run_pure, Result.andThen_ok, hrun]⟩
    · split at h
      · rename_i cs e hr
        obtain ⟨k, o, h1, h3, h5⟩ := hT.ro _ _ hr
        obtain ⟨vs, hvs, _, rfl⟩ := h5
        obtain ⟨k', hk', he⟩ := AV.den_ptr hp
        rw [addr_mono hw.pre h1] at hk'; cases hk'
        have hlt := (Array.getElem?_eq_some_iff.1 h3).1
        have h4 : w.heap[k]? = some (.cells vs.toArray e (0, 0)) := (hw.below.block k hlt).trans h3
        obtain ⟨u, hu, hrun⟩ := loadFrom_load (hT.tys _ _ hti) (AV.dens_mono hw.pre _ hvs) h h4
        exact ⟨u, hu, by simp only [Instr.loadAt, he, Instr.sureAddr, Sem.run_bind, Sem.run_pure, Result.andThen_ok, hrun]⟩
      · cases h
    · cases h
  · rename_i ti b off hti
    split at h
    · rename_i cs hg
      obtain ⟨vs, e, fz, hb, hvs⟩ := hT.gtab _ _ hg
      have hlt := (Array.getElem?_eq_some_iff.1 hb).1
      have hb' : w.heap[b]? = some (.cells vs.toArray e fz) := (hw.below.block b hlt).trans hb
      have he : p = .pointer (some ⟨b, off, none⟩) := by simp only [AV.den, Option.some.injEq] at hp; exact hp.symm
      obtain ⟨u, hu, hrun⟩ := loadFrom_load (hT.tys _ _ hti) (AV.dens_mono hw.pre _ hvs) h hb'
      exact ⟨u, hu, by simp only [Instr.loadAt, he, Instr.sureAddr, Sem.run_bind, Sem.run_pure, Result.andThen_ok, hrun]⟩
    · cases h
  · rename_i ti id off hti
    split at h
    · rename_i cs hg
      obtain ⟨k, o, c, vs, hr, hlt, hvs, hcell⟩ := hT.rs _ _ hg
      obtain ⟨k', o', c', hr', he⟩ := AV.den_rptr hp
      rw [rowAt_mono hw.pre hr] at hr'
      cases hr'
      obtain ⟨u, hu, hrun⟩ := loadFrom_loadAt (hT.tys _ _ hti) (AV.dens_mono hw.pre _ hvs) h (w := w) (b := k) (o := o) (fun j v hj => by
        rw [← hcell j v hj]
        exact World.cell?_of_block (w := C.w0) (hw.below.block k hlt))
      exact ⟨u, hu, by simp only [Instr.loadAt, he, Instr.sureAddr, Sem.run_bind, Sem.run_pure, Result.andThen_ok, hrun]⟩
    · cases h
  · cases h

theorem lop_ok {C : Ctx} (hT : TabOk C) {env : Env} {st : St} {w : World} (hw : WRel C env st w) {tm : Tm} {a : Act} (ht : TRel env tm a.tmps) {o : Oper} {v : AV} (h : lop C.T st.heap tm o.op = some v) : PopOk C env a o v w := by
  obtain ⟨dst, op, type, pos, after, guard⟩ := o
  unfold PopOk execOp
  cases op <;> simp only [lop] at h ⊢
  case load t x =>
    split at h
    · rename_i u hu
      obtain ⟨V, hV, hrun⟩ := lopAt_ok hT hw (evO_ok ht hu) h
      exact ⟨V, hV, by simp only [Sem.run_bind, hrun, Result.andThen_ok, Sem.run_pure]⟩
    · cases h
  all_goals (cases h)

/-! ### New blocks -/
inductive NewV where
  | ptr | slice (len : Nat) | map

def NewV.av (id : Nat) : NewV → AV
  | .ptr => .ptr id 0
  | .slice n => .slice id 0 n n
  | .map => .map id

def zerosL (ti : TI) (n : Nat) : List AV := (List.range n).map fun i => ti.zero.getD (i % ti.zero.length) .nilptr

def aop (T : Tab) (tm : Tm) (o : Op) : Option (AO × NewV) :=
  match o with
  | .alloc t => match T.tys t with
    | some ti => some (.cells ti.zero t, .ptr)
    | none => none
  | .box t x => match evO tm x with
    | some a => if a.flat then some (.cells a.cells t, .ptr) else none
    | none => none
  | .buildSlice t len parts => match T.tys t, evParts tm parts.toList with
    | some ti, some ps => match ti.desc with
      | .slice e => match T.tys e with
        | some te => if te.size.beq 0 || !(Nat.ble (len * te.size) 16777216) then none else
          match fillA (fun i => some (i * te.size, te.size)) (zerosL te (len * te.size)) ps with
          | some cs => if len.beq 0 then some (.cells [] e, .slice 0) else if cs.all AV.isCell then some (.cells cs e, .slice len) else none
          | none => none
        | none => none
      | _ => none
    | _, _ => none
  | .makeMap _ none => some (.map [], .map)
  | _ => none

theorem rangeMap {β : Type} (f : Nat → β) (n : Nat) : (Array.range n).map f = ((List.range n).map f).toArray := by
  apply Array.ext'
  simp

/-- What an operation that makes a block does. -/
def AopOk (C : Ctx) (env : Env) (a : Act) (o : Oper) (ao : AO) (nv : NewV) (w : World) : Prop :=
  ∃ ob V, (execOp a.eval o).run C.P w = .ok (.value V) (w.alloc ob) ∧ (∀ env', env <+: env' → ORel env' ao ob) ∧
    (V = match nv with | .ptr => .pointer (some ⟨w.heap.size, 0, none⟩) | .slice n => .slice (some ⟨w.heap.size, 0, none⟩) n n | .map => .map (some w.heap.size))

theorem zerosL_ok {P : Program} {t : Nat} {ti : TI} (h : TyOk P t ti) {env : Env} {z : Value} (hz : AV.dens [] ti.zero = some z.cells.toList) (n : Nat) (hs : ti.size ≠ 0) :
    AV.dens env (zerosL ti n) = some ((Array.range n).map fun i => z.cells[i % z.cells.size]!).toList := by
  have hl := AV.dens_length hz
  have hz' := dens_nil (env := env) hz
  have key : ∀ (l : List Nat), AV.dens env (l.map fun i => ti.zero.getD (i % ti.zero.length) .nilptr) = some (l.map fun i => z.cells[i % z.cells.size]!) := by
    intro l
    induction l with
    | nil => rfl
    | cons i l ih =>
      simp only [List.map_cons, AV.dens, ih]
      have hlt : i % ti.zero.length < ti.zero.length := Nat.mod_lt _ (by rw [h.len]; omega)
      obtain ⟨v, hv, hd⟩ := AV.dens_get hz' (List.getElem?_eq_getElem hlt)
      have e1 : ti.zero.getD (i % ti.zero.length) .nilptr = ti.zero[i % ti.zero.length] := by simp [hlt]
      rw [e1, hd]
      have e2 : z.cells.size = ti.zero.length := by simpa using hl
      have e3 : z.cells[i % z.cells.size]! = v := by
        rw [e2]
        have : z.cells[i % ti.zero.length]? = some v := by simpa using hv
        rw [getElem!_def, this]
      rw [e3]
  have := key (List.range n)
  simpa [zerosL, Array.toList_map, Array.toList_range] using this

theorem aop_ok {C : Ctx} (hT : TabOk C) {env : Env} {tm : Tm} {a : Act} (ht : TRel env tm a.tmps) {o : Oper} {ao : AO} {nv : NewV} (h : aop C.T tm o.op = some (ao, nv)) (w : World) : AopOk C env a o ao nv w := by
  obtain ⟨dst, op, type, pos, after, guard⟩ := o
  unfold AopOk execOp
  cases op <;> simp only [aop] at h ⊢
  case alloc t =>
    split at h
    · rename_i ti hti
      cases h
      obtain ⟨z, hz, hzd, hz1⟩ := (hT.tys _ _ hti).run_zero w
      refine ⟨.cells z.cells t, _, ?_, fun env' _ => ⟨z.cells.toList, dens_nil hzd, hz1, by simp⟩, rfl⟩
      simp only [Sem.run_bind, Instr.alloc, hz, Result.andThen_ok, newVar, newRow, run_newObj, Sem.run_pure]
      rfl
    · cases h
  case box t x =>
    split at h
    · rename_i v hv
      split at h
      · rename_i hfl
        cases h
        obtain ⟨h1, h2⟩ := AV.flat_ok hfl (evO_ok ht hv)
        refine ⟨.cells (a.eval x).cells t, _, ?_, fun env' hp => ⟨(a.eval x).cells.toList, AV.dens_mono hp _ h1, h2, by simp⟩, rfl⟩
        simp only [Sem.run_bind, Instr.box, newVar, newRow, run_newObj, Sem.run_pure, Result.andThen_ok]
        rfl
      · cases h
    · cases h
  case buildSlice t len parts =>
    split at h
    · rename_i ti ps hti hps
      split at h
      · rename_i e hd
        split at h
        · rename_i te hte
          split at h
          · cases h
          · rename_i hsz
            simp only [Bool.or_eq_true, not_or, Bool.not_eq_true, Bool.not_eq_false'] at hsz
            have hs0 : te.size ≠ 0 := fun e => by rw [e] at hsz; exact absurd hsz.1 (by decide)
            have hle : len * te.size ≤ 16777216 := Nat.le_of_ble_eq_true hsz.2
            split at h
            · rename_i cs hcs
              have h1 := (hT.tys _ _ hti).run_und w
              rw [hd] at h1
              have h2 := (hT.tys _ _ hte).run_size w
              obtain ⟨z, hz, hzd, hz1⟩ := (hT.tys _ _ hte).run_zero w
              obtain ⟨g1, g2⟩ := evParts_ok ht hps
              have epar : (parts.map fun (i, x) => (i, a.eval x)).toList = (parts.toList.map fun (i, x) => (i, a.eval x)) := by obtain ⟨l⟩ := parts; simp
              obtain ⟨us, hus, hfill⟩ := fillA_ok g1 g2 (zerosL_ok (env := env) (hT.tys _ _ hte) hzd (len * te.size) hs0) hcs
              split at h
              · rename_i hl0
                have hl0' := Nat.eq_of_beq_eq_true hl0
                subst hl0'
                cases h
                have hus0 : us = [] := by
                  have e1 := AV.dens_length hus
                  have : ∀ (ps : List (Nat × AV)) (cs r : List AV), fillA (fun i => some (i * te.size, te.size)) cs ps = some r → r.length = cs.length := by
                    intro ps
                    induction ps with
                    | nil => intro cs r h; cases h; rfl
                    | cons p ps ih =>
                      intro cs r h
                      obtain ⟨i, x⟩ := p
                      simp only [fillA] at h
                      split at h
                      · rw [ih _ _ h]
                        have : ∀ (l : List AV) (cs : List AV) (off : Nat), (putL cs off l).length = cs.length := by
                          intro l
                          induction l with
                          | nil => intro cs off; rfl
                          | cons x l ih => intro cs off; simp only [putL]; rw [ih]; simp
                        rw [this]
                      · cases h
                  have e2 := this _ _ _ hcs
                  simp [zerosL] at e2
                  rw [e2] at e1
                  simpa using e1
                subst hus0
                refine ⟨.cells #[] e, _, ?_, fun env' _ => ⟨[], rfl, by simp, rfl⟩, rfl⟩
                have hfill' : Instr.fill (fun i => some (i * te.size, te.size)) ((Array.range 0).map fun x => (#[] : Array Value)[x % (#[] : Array Value).size]!) ((parts.map fun (i, x) => (i, a.eval x)).toList) = some #[] := by
                  rw [epar, rangeMap]
                  simpa using hfill
                simp only [Sem.run_bind, Instr.buildSlice, h1, h2, Result.andThen_ok, Nat.zero_mul, if_neg (show ¬ (0 > 2 ^ 24) by omega), Sem.run_pure, if_true, hfill', newRow, run_newObj]
                rfl
              · rename_i hl0
                have hl0' : len ≠ 0 := fun e => hl0 (by rw [e]; rfl)
                split at h
                · rename_i hall
                  cases h
                  have hpos : ¬ len * te.size = 0 := fun e => by rcases Nat.mul_eq_zero.1 e with e | e <;> contradiction
                  refine ⟨.cells us.toArray e, _, ?_, fun env' hp => ⟨us, AV.dens_mono hp _ hus, fun u hu => ?_, rfl⟩, rfl⟩
                  · have hfill' : Instr.fill (fun i => some (i * te.size, te.size)) ((Array.range (len * te.size)).map fun x => z.cells[x % z.cells.size]!) ((parts.map fun (i, x) => (i, a.eval x)).toList) = some us.toArray := by
                      rw [epar, rangeMap]
                      simpa [rangeMap] using hfill
                    simp only [Sem.run_bind, Instr.buildSlice, h1, h2, Result.andThen_ok, if_neg (show ¬ (len * te.size > 2 ^ 24) by omega), if_neg hpos, hz, Sem.run_pure, hfill', newRow, run_newObj]
                    rfl
                  · obtain ⟨i, hi, hiu⟩ := List.getElem_of_mem hu
                    have hlen := AV.dens_length hus
                    have hil : i < cs.length := by omega
                    obtain ⟨v', hv', hd'⟩ := AV.dens_get hus (List.getElem?_eq_getElem hil)
                    have hcell := List.all_eq_true.1 hall _ (List.getElem_mem hil)
                    have := AV.one_of hcell hd'
                    rw [List.getElem?_eq_getElem hi] at hv'
                    rw [← hiu]; cases hv'; exact this
                · cases h
            · cases h
        · cases h
      · cases h
    · cases h
  case makeMap t reserve =>
    cases reserve with
    | none =>
      simp only [Option.some.injEq, Prod.mk.injEq] at h
      obtain ⟨rfl, rfl⟩ := h
      refine ⟨.map #[] 0, _, ?_, fun env' _ => ⟨[], #[], 0, rfl, rfl, List.Perm.nil⟩, rfl⟩
      simp only [Sem.run_bind, Instr.makeMap, run_newObj, Sem.run_pure, Result.andThen_ok, Option.map_none]
      rfl
    | some r => cases h
  all_goals (cases h)


/-! ### Stores -/
/-- Block b alone has changed. -/
structure Upd (b : Nat) (w w' : World) : Prop where
  os : w'.os = w.os
  tape : w'.tape = w.tape
  output : w'.output = w.output
  size : w'.heap.size = w.heap.size
  block : ∀ k, k ≠ b → w'.heap[k]? = w.heap[k]?

theorem Upd.refl (b : Nat) (w : World) : Upd b w w := ⟨rfl, rfl, rfl, rfl, fun _ _ => rfl⟩
theorem Upd.trans {b : Nat} {w w1 w2 : World} (h : Upd b w w1) (h' : Upd b w1 w2) : Upd b w w2 :=
  ⟨h'.os.trans h.os, h'.tape.trans h.tape, h'.output.trans h.output, h'.size.trans h.size, fun k hk => (h'.block k hk).trans (h.block k hk)⟩
theorem Upd.below {b B : Nat} {w0 w w' : World} (h : Upd b w w') (hB : B ≤ b) (hb : Below B w0 w) : Below B w0 w' :=
  ⟨h.os.trans hb.os, h.tape.trans hb.tape, h.output.trans hb.output, by rw [h.size]; exact hb.size, fun k hk => (h.block k (by omega)).trans (hb.block k hk)⟩

theorem isOne_eq (v : Value) : isOne v = v.oneCell' := by cases v <;> rfl

theorem run_storeCells_at {P : Program} {b : Nat} {e : TypeId} : ∀ (us : List Value) (off i : Nat) (cs : List Value) (w : World), w.heap[b]? = some (.cells cs.toArray e (0, 0)) → off + i + us.length ≤ cs.length → (∀ u ∈ us, isOne u = true) →
    ∃ w', (storeCells ⟨b, off, none⟩ us i).run P w = .ok () w' ∧ w'.heap[b]? = some (.cells (putV cs (off + i) us).toArray e (0, 0)) ∧ Upd b w w'
  | [], off, i, cs, w, hb, _, _ => ⟨w, rfl, hb, Upd.refl _ _⟩
  | u :: us, off, i, cs, w, hb, hle, h1 => by
    simp only [List.length_cons] at hle
    have hc : w.cell? ⟨b, off + i, none⟩ = some cs[off + i] := by
      rw [cell_of_row w b (off + i) cs.toArray e (0, 0) hb]; simp
    have hfz : w.frozen? ⟨b, off + i, none⟩ = false := by simp [World.frozen?, hb]
    have hst := run_store P w ⟨b, off + i, none⟩ u .plain (by rw [← isOne_eq]; exact h1 u (List.mem_cons_self ..))
    simp only [hc, hfz, Bool.false_eq_true, if_false] at hst
    have hu1 : Upd b w (w.setCell ⟨b, off + i, none⟩ u) := ⟨rfl, rfl, rfl, by simp [World.setCell], fun k hk => Below.heap_setCell w ⟨b, off + i, none⟩ u k hk⟩
    have hlt : b < w.heap.size := (Array.getElem?_eq_some_iff.1 hb).1
    have hset : (w.setCell ⟨b, off + i, none⟩ u).heap[b]? = some (.cells (cs.set (off + i) u).toArray e (0, 0)) := by
      simp only [World.setCell, Array.getElem?_modify, if_true, hb, Option.map_some]
      simp
    obtain ⟨w', hrun, hb', hupd⟩ := run_storeCells_at us off (i + 1) (cs.set (off + i) u) (w.setCell ⟨b, off + i, none⟩ u) hset (by simp; omega) (fun v hv => h1 v (List.mem_cons_of_mem _ hv))
    refine ⟨w', ?_, ?_, ?_⟩
    · simp only [storeCells, Sem.run_bind, addr_add, hst, Result.andThen_ok]
      exact hrun
    · rw [hb']; rfl
    · exact hu1.trans hupd

def sop (T : Tab) (heap : List (Nat × AO)) (tm : Tm) (o : Op) : Option (Nat × AO) :=
  match o with
  | .store t x y => match T.tys t, evO tm x, evO tm y with
    | some ti, some (.ptr id off), some v => match lookB heap id with
      | some (.cells cs e) => if v.flat && (v.cells.length.beq ti.size && Nat.ble (off + ti.size) cs.length) then some (id, .cells (putL cs off v.cells) e) else none
      | some (.pref cs e sz id') => if v.flat && (v.cells.length.beq ti.size && Nat.ble (off + ti.size) cs.length) then some (id, .pref (putL cs off v.cells) e sz id') else none
      | _ => none
    | _, _, _ => none
  | _ => none

theorem putV_one : ∀ (us cs : List Value) (off : Nat), (∀ u ∈ us, isOne u = true) → (∀ u ∈ cs, isOne u = true) → ∀ u ∈ putV cs off us, isOne u = true
  | [], cs, off, _, h => h
  | a :: us, cs, off, h, h' => by
    simp only [putV]
    refine putV_one us _ _ (fun u hu => h u (List.mem_cons_of_mem _ hu)) (fun u hu => ?_)
    rcases List.mem_or_eq_of_mem_set hu with hu | rfl
    · exact h' u hu
    · exact h _ (List.mem_cons_self ..)

theorem putV_take : ∀ (us cs : List Value) (off n : Nat), off + us.length ≤ n → (putV cs off us).take n = putV (cs.take n) off us
  | [], cs, off, n, _ => rfl
  | a :: us, cs, off, n, h => by
    simp only [List.length_cons] at h
    simp only [putV]
    rw [putV_take us _ _ n (by omega)]
    congr 1
    apply List.ext_getElem?
    intro j
    simp only [List.getElem?_take, List.getElem?_set, List.length_take]
    by_cases hj : j < n
    · by_cases ho : off = j
      · subst ho; simp [hj]; by_cases hl : off < cs.length <;> simp [hl] <;> omega
      · simp [hj, ho]
    · simp [hj]; omega

theorem sop_ok {C : Ctx} (hT : TabOk C) {env : Env} {st : St} {w : World} (hw : WRel C env st w) {tm : Tm} {a : Act} (ht : TRel env tm a.tmps) {o : Oper} {id : Nat} {ao : AO} (h : sop C.T st.heap tm o.op = some (id, ao)) :
    ∃ w', (execOp a.eval o).run C.P w = .ok .skip w' ∧ WRel C env { st with heap := setB st.heap id ao } w' ∧ Keep env st w env { st with heap := setB st.heap id ao } w' := by
  obtain ⟨dst, op, type, pos, after, guard⟩ := o
  unfold execOp
  cases op <;> simp only [sop] at h ⊢
  case store t x y =>
    split at h
    · rename_i ti id' off v hti hx hv
      split at h
      · rename_i cs e hl
        split at h
        · rename_i hc
          cases h
          simp only [Bool.and_eq_true] at hc
          obtain ⟨hfl, hsz, hle⟩ := hc
          have hsz := Nat.eq_of_beq_eq_true hsz
          have hle := Nat.le_of_ble_eq_true hle
          obtain ⟨k, o, h1, h2, h3, h4, h5⟩ := hw.look hl
          obtain ⟨vs, hvs, hone, rfl⟩ := h5
          obtain ⟨k', hk', he⟩ := AV.den_ptr (evO_ok ht hx)
          rw [h1] at hk'; cases hk'
          obtain ⟨g1, g2⟩ := AV.flat_ok hfl (evO_ok ht hv)
          have hlen := AV.dens_length hvs
          have hlen2 := AV.dens_length g1
          obtain ⟨w', hrun, hb', hupd⟩ := run_storeCells_at (P := C.P) (b := k) (e := e) (a.eval y).cells.toList off 0 vs w h4 (by simp only [Nat.add_zero]; omega) g2
          refine ⟨w', ?_, ?_, ?_⟩
          · have hs := (hT.tys _ _ hti).run_size w
            have hcs : (a.eval y).cells.size = ti.size := by simp at hlen2; omega
            simp only [Sem.run_bind, Instr.storeAt, he, Instr.sureAddr, Sem.run_pure, Result.andThen_ok, storeVar, hs, hcs, ne_eq, not_true_eq_false, if_false, hrun]
          · refine hw.set hl h1 h2 (hupd.below h2 hw.below) hb' (fun j hj => hupd.block j hj) ⟨_, ?_, ?_, rfl⟩
            · simp only [Nat.add_zero]; exact putL_dens off g1 hvs
            · simp only [Nat.add_zero]; exact putV_one _ _ _ g2 hone
          · refine ⟨List.prefix_refl _, by rw [hupd.size]; exact Nat.le_refl _, fun j hj hn => hupd.block j (fun e => ?_), fun q hq => ?_⟩
            · subst e; exact hn _ (lookB_mem hl) h1
            · have : q.1 ∈ (setB st.heap id (.cells (putL cs off v.cells) e)).map (·.1) := List.mem_map_of_mem hq
              rw [keys_setB] at this
              obtain ⟨p, hp, e⟩ := List.mem_map.1 this
              exact fun k hk => .inl ⟨p, hp, by rw [e]; exact hk⟩
        · cases h
      · rename_i cs e sz id' hl
        split at h
        · rename_i hc
          cases h
          simp only [Bool.and_eq_true] at hc
          obtain ⟨hfl, hsz, hle⟩ := hc
          have hsz := Nat.eq_of_beq_eq_true hsz
          have hle := Nat.le_of_ble_eq_true hle
          obtain ⟨k, o, h1, h2, h3, h4, h5⟩ := hw.look hl
          obtain ⟨vs, cur, kc, hvs, hone, hcap, rfl, htake, hn, hcs', hmax⟩ := h5
          obtain ⟨k', hk', he⟩ := AV.den_ptr (evO_ok ht hx)
          rw [h1] at hk'; cases hk'
          obtain ⟨g1, g2⟩ := AV.flat_ok hfl (evO_ok ht hv)
          have hlen := AV.dens_length hvs
          have hlen2 := AV.dens_length g1
          have hus : (a.eval y).cells.toList.length = ti.size := by omega
          obtain ⟨w', hrun, hb', hupd⟩ := run_storeCells_at (P := C.P) (b := k) (e := e) (a.eval y).cells.toList off 0 cur.toList w (by simpa using h4) (by rw [hus, Array.length_toList]; omega) g2
          refine ⟨w', ?_, ?_, ?_⟩
          · have hs := (hT.tys _ _ hti).run_size w
            have hcs : (a.eval y).cells.size = ti.size := by simp at hlen2; omega
            simp only [Sem.run_bind, Instr.storeAt, he, Instr.sureAddr, Sem.run_pure, Result.andThen_ok, storeVar, hs, hcs, ne_eq, not_true_eq_false, if_false, hrun]
          · refine hw.set hl h1 h2 (hupd.below h2 hw.below) hb' (fun j hj => hupd.block j hj) ⟨_, _, kc, putL_dens off g1 hvs, putV_one _ _ _ g2 hone, hcap, rfl, ?_, ?_, ?_, hmax⟩
            · simp only [Nat.add_zero, putV_length]
              rw [putV_take _ _ _ _ (by rw [hus]; omega), htake]
            · simp only [Nat.add_zero, putV_length, List.size_toArray, Array.length_toList]; exact hn
            · simp only [Nat.add_zero, putV_length, List.size_toArray, Array.length_toList]; exact hcs'
          · refine ⟨List.prefix_refl _, by rw [hupd.size]; exact Nat.le_refl _, fun j hj hn => hupd.block j (fun e => ?_), fun q hq => ?_⟩
            · subst e; exact hn _ (lookB_mem hl) h1
            · have : q.1 ∈ (setB st.heap id (.pref (putL cs off v.cells) e sz id')).map (·.1) := List.mem_map_of_mem hq
              rw [keys_setB] at this
              obtain ⟨p, hp, e⟩ := List.mem_map.1 this
              exact fun k hk => .inl ⟨p, hp, by rw [e]; exact hk⟩
        · cases h
      · cases h
    · cases h
  all_goals (cases h)

/-- A new block, related. -/
theorem WRel.newBlock {C : Ctx} {env : Env} {st : St} {w : World} (hw : WRel C env st w) {ao : AO} {ob : Obj} (hr : ∀ env', env <+: env' → ORel env' ao ob) :
    WRel C (env ++ [[.a w.heap.size]]) { st with nb := st.nb + 1, heap := (st.nb, ao) :: st.heap } (w.alloc ob) ∧
    Keep env st w (env ++ [[.a w.heap.size]]) { st with nb := st.nb + 1, heap := (st.nb, ao) :: st.heap } (w.alloc ob) ∧ addr (env ++ [[.a w.heap.size]]) st.nb = some w.heap.size := by
  have hak : addr (env ++ [[.a w.heap.size]]) st.nb = some w.heap.size := by unfold addr; rw [← hw.len]; simp
  refine ⟨?_, ?_, hak⟩
  · refine (hw.ext [.a w.heap.size]).alloc hw.len (fun p hp => ?_) hw.below.size (hw.below.alloc hw.below.size ob) ?_ (fun j hj hjp => ?_) (hr _ (List.prefix_append _ _))
    · intro e
      obtain ⟨k, o, h1, h2, h3, h4⟩ := hw.heap p hp
      have := addr_mono (List.prefix_append env [[.a w.heap.size]]) h1
      rw [e] at this; cases this
      have := (Array.getElem?_eq_some_iff.1 h3).1
      omega
    · show (w.heap.push ob)[w.heap.size]? = some ob
      simp
    · obtain ⟨p, hp, hpj⟩ := hjp
      obtain ⟨k, o, h1, h2, h3, h4⟩ := hw.heap p hp
      have := addr_mono (List.prefix_append env [[.a w.heap.size]]) h1
      rw [hpj] at this; cases this
      exact Below.heap_alloc _ _ _ (Array.getElem?_eq_some_iff.1 h3).1
  · refine ⟨List.prefix_append _ _, by simp, fun k hk _ => Below.heap_alloc _ _ _ hk, fun q hq => ?_⟩
    rcases List.mem_cons.1 hq with rfl | hq
    · exact fun k hk => .inr (by rw [hak] at hk; cases hk; exact Nat.le_refl _)
    · refine fun k hk => .inl ⟨q, hq, ?_⟩
      obtain ⟨k', hk'⟩ := hw.addr_some hq
      have := addr_mono (List.prefix_append env [[.a w.heap.size]]) hk'
      rw [this] at hk; cases hk; exact hk'

end Go.Ex
