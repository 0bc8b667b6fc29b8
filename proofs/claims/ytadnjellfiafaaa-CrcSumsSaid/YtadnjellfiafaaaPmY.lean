/- The abstract machine, twenty-fourth part: walks whose continuation is data. No law of Go's is stated here. -/
import Derived.Test.YtadnjellfiafaaaPmX
set_option linter.all false
namespace Go.Proofs.Ytadnjellfiafaaa.Pm
open Go Go.RowKit

inductive Kont where
  | base
  | seq (b : C) (k : Kont)
  | block (id : Nat) (k : Kont)

def runK (x : Cx) (f : Ex → S → Prop) : Kont → Ex → S → Prop
  | .base => f
  | .seq b k => fun e s' => match e with
    | .n => W x b (runK x f k) s'
    | e => runK x f k e s'
  | .block id k => fun e s' => match e with
    | .x j => if j = id then runK x f k .n s' else runK x f k (.x j) s'
    | e => runK x f k e s'

section
variable (x : Cx) (f : Ex → S → Prop) (lf : Lock f)
def Rk (k : Kont) (e : Ex) (s : S) (_ : Lock f) : Prop := runK x f k e s
def Wk (k : Kont) (c : C) (s : S) (_ : Lock f) : Prop := W x c (runK x f k) s
def Ok (k : Kont) (r : List I) (s : S) (_ : Lock f) : Prop := wops x r s (runK x f k .n)
theorem Wk_of (c : C) (s : S) : W x c f s = Wk x f .base c s .mk := rfl
theorem Rk_base (e : Ex) (s : S) : Rk x f .base e s lf = f e s := rfl
theorem Rk_seq_n (b : C) (k : Kont) (s : S) : Rk x f (.seq b k) .n s lf = Wk x f k b s lf := rfl
theorem Rk_seq_x (b : C) (k : Kont) (i : Nat) (s : S) : Rk x f (.seq b k) (.x i) s lf = Rk x f k (.x i) s lf := rfl
theorem Rk_seq_r (b : C) (k : Kont) (s : S) : Rk x f (.seq b k) .r s lf = Rk x f k .r s lf := rfl
theorem Rk_seq_g (b : C) (k : Kont) (i : Nat) (s : S) : Rk x f (.seq b k) (.g i) s lf = Rk x f k (.g i) s lf := rfl
theorem Rk_block_n (id : Nat) (k : Kont) (s : S) : Rk x f (.block id k) .n s lf = Rk x f k .n s lf := rfl
theorem Rk_block_r (id : Nat) (k : Kont) (s : S) : Rk x f (.block id k) .r s lf = Rk x f k .r s lf := rfl
theorem Rk_block_g (id : Nat) (k : Kont) (i : Nat) (s : S) : Rk x f (.block id k) (.g i) s lf = Rk x f k (.g i) s lf := rfl
theorem Rk_block_x (id : Nat) (k : Kont) (i : Nat) (s : S) : Rk x f (.block id k) (.x i) s lf = if i = id then Rk x f k .n s lf else Rk x f k (.x i) s lf := rfl
theorem Wk_skip (k : Kont) (s : S) : Wk x f k .skip s lf = Rk x f k .n s lf := by unfold Wk; rw [W_skip]; rfl
theorem Wk_label (k : Kont) (s : S) : Wk x f k .label s lf = Rk x f k .n s lf := by unfold Wk; rw [W_label]; rfl
theorem Wk_ret (k : Kont) (s : S) : Wk x f k .ret s lf = Rk x f k .r s lf := by unfold Wk; rw [W_ret]; rfl
theorem Wk_exit (k : Kont) (i : Nat) (s : S) : Wk x f k (.exit i) s lf = Rk x f k (.x i) s lf := by unfold Wk; rw [W_exit]; rfl
theorem Wk_goto (k : Kont) (i : Nat) (s : S) : Wk x f k (.goto i) s lf = Rk x f k (.g i) s lf := by unfold Wk; rw [W_goto]; rfl
theorem Wk_seq (k : Kont) (a b : C) (s : S) : Wk x f k (.seq a b) s lf = Wk x f (.seq b k) a s lf := by unfold Wk; rw [W_seq]; rfl
theorem Wk_block (k : Kont) (id : Nat) (c : C) (s : S) : Wk x f k (.block id c) s lf = Wk x f (.block id k) c s lf := by unfold Wk; rw [W_block]; rfl
theorem Wk_reg (k : Kont) (r : List I) (s : S) : Wk x f k (.reg r) s lf = Ok x f k r s lf := by unfold Wk; rw [W_reg]; rfl
theorem Wk_loop (k : Kont) (ad : List (Nat × Nat)) (mk : List Bool) (c : C) (s : S) : Wk x f k (.loop ad mk c) s lf = wloop (cut mk (adopt ad s).hp.length) (W x c) (runK x f k) (adopt ad s) .mk .mk := by unfold Wk; rw [W_loop]
theorem Wk_cond (k : Kont) (o : Operand) (a b : C) (tm : Tm) (hp : List Blk) : Wk x f k (.cond o a b) ⟨tm, hp⟩ lf = wguard1 (ev tm o) (Wk x f k a ⟨tm, hp⟩ lf) (Wk x f k b ⟨tm, hp⟩ lf) .mk .mk := by unfold Wk; rw [W_cond']
def wupk (us : List (Nat × Blk)) (k : Kont) (tm : Tm) (hp : List Blk) (r : List I) (_ : Lock f) (_ : Lock tm) : Prop := Ok x f k r ⟨tm, upds hp us⟩ .mk
theorem wupk_nil (k : Kont) (tm : Tm) (hp : List Blk) (r : List I) (l : Lock tm) : wupk x f [] k tm hp r lf l = Ok x f k r ⟨tm, hp⟩ lf := rfl
theorem wupk_cons (u : Nat × Blk) (us : List (Nat × Blk)) (k : Kont) (tm : Tm) (hp : List Blk) (r : List I) (l : Lock tm) : wupk x f (u :: us) k tm hp r lf l = wupk x f us k tm (upd1 hp u) r lf l := rfl
def wqvk (q : Res) (k : Kont) (d : Option Nat) (tm : Tm) (hp : List Blk) (r : List I) (_ : Lock f) (_ : Lock tm) : Prop :=
  match q with
  | some (p, v, us) => p ∧ wupk x f us k (pt tm d (some v)) hp r .mk .mk
  | none => False
theorem wqvk_some (p : Prop) (v : AV) (us : List (Nat × Blk)) (k : Kont) (d : Option Nat) (tm : Tm) (hp : List Blk) (r : List I) (l : Lock tm) : wqvk x f (some (p, v, us)) k d tm hp r lf l = (p ∧ wupk x f us k (pt tm d (some v)) hp r lf .mk) := rfl
def wcallk (k : Kont) (d : Option Nat) (tm : Tm) (hp : List Blk) (r : List I) (g : Nat) (as : List AV) (_ : Lock f) (_ : Lock tm) : Prop :=
  wcall x (lk hp) hp.length g as (fun v us => wupk x f us k (pt tm d (some v)) hp r .mk .mk) .mk
def wqck (fo : Option AV) (as : Option (List AV)) (k : Kont) (d : Option Nat) (tm : Tm) (hp : List Blk) (r : List I) (_ : Lock f) (_ : Lock tm) : Prop :=
  match fo, as with
  | some (.fn g cap), some vs => wcallk x f k d tm hp r g (vs ++ cap) .mk .mk
  | _, _ => False
theorem wqck_fn (g : Nat) (cap vs : List AV) (k : Kont) (d : Option Nat) (tm : Tm) (hp : List Blk) (r : List I) (l : Lock tm) : wqck x f (some (.fn g cap)) (some vs) k d tm hp r lf l = wcallk x f k d tm hp r g (vs ++ cap) lf l := rfl
def wstk (q : Option (Prop × S)) (k : Kont) (r : List I) (_ : Lock f) : Prop :=
  match q with
  | some (p, s') => p ∧ Ok x f k r s' .mk
  | none => False
theorem wstk_some (p : Prop) (s' : S) (k : Kont) (r : List I) : wstk x f (some (p, s')) k r lf = (p ∧ Ok x f k r s' lf) := rfl
def wqsk (co : Option (Operand × List Operand)) (k : Kont) (d : Option Nat) (op : Op) (tm : Tm) (hp : List Blk) (r : List I) (_ : Lock f) (_ : Lock tm) (_ : Lock op) : Prop :=
  match co with
  | some (fo, as) => wqck x f (ev tm fo) (evs tm as) k d tm hp r .mk .mk
  | none => wqvk x f (q x.ti tm (lk hp) hp.length op) k d tm hp r .mk .mk
theorem wqsk_some (fo : Operand) (as : List Operand) (k : Kont) (d : Option Nat) (op : Op) (tm : Tm) (hp : List Blk) (r : List I) (l : Lock tm) (j : Lock op) : wqsk x f (some (fo, as)) k d op tm hp r lf l j = wqck x f (ev tm fo) (evs tm as) k d tm hp r lf l := rfl
theorem wqsk_none (k : Kont) (d : Option Nat) (op : Op) (tm : Tm) (hp : List Blk) (r : List I) (l : Lock tm) (j : Lock op) : wqsk x f none k d op tm hp r lf l j = wqvk x f (q x.ti tm (lk hp) hp.length op) k d tm hp r lf l := rfl
def Sk (b : Bool) (k : Kont) (d : Option Nat) (op : Op) (tm : Tm) (hp : List Blk) (r : List I) (_ : Lock f) (_ : Lock tm) (_ : Lock op) : Prop :=
  match b with
  | true => wstk x f (qst x ⟨tm, hp⟩ d op) k r .mk
  | false => wqsk x f (callOf op) k d op tm hp r .mk .mk .mk
theorem Sk_true (k : Kont) (d : Option Nat) (op : Op) (tm : Tm) (hp : List Blk) (r : List I) (l : Lock tm) (j : Lock op) : Sk x f true k d op tm hp r lf l j = wstk x f (qst x ⟨tm, hp⟩ d op) k r lf := rfl
theorem Sk_false (k : Kont) (d : Option Nat) (op : Op) (tm : Tm) (hp : List Blk) (r : List I) (l : Lock tm) (j : Lock op) : Sk x f false k d op tm hp r lf l j = wqsk x f (callOf op) k d op tm hp r lf l j := rfl
theorem Sk_of (k : Kont) (d : Option Nat) (op : Op) (tm : Tm) (hp : List Blk) (r : List I) : wstep (isSt op) x d op tm hp (fun s' => wops x r s' (runK x f k .n)) .mk .mk .mk = Sk x f (isSt op) k d op tm hp r .mk .mk .mk := by
  unfold wstep Sk
  cases isSt op
  · simp only [wqs, wqsk]
    cases callOf op with
    | none => rfl
    | some p => rfl
  · rfl
theorem Ok_plain (k : Kont) (d : Option Nat) (op : Op) (r : List I) (tm : Tm) (hp : List Blk) : Ok x f k (⟨d, op, none⟩ :: r) ⟨tm, hp⟩ lf = Sk x f (isSt op) k d op tm hp r lf .mk .mk := by
  unfold Ok
  rw [wops_plain', Sk_of]
theorem Ok_guard (k : Kont) (d : Option Nat) (op : Op) (t : Nat) (want : Bool) (r : List I) (tm : Tm) (hp : List Blk) : Ok x f k (⟨d, op, some (t, want)⟩ :: r) ⟨tm, hp⟩ lf =
    wguard (gt tm t) want (Sk x f (isSt op) k d op tm hp r lf .mk .mk) (Ok x f k r ⟨pt tm d none, hp⟩ lf) .mk .mk := by
  unfold Ok
  rw [wops_guard2, Sk_of]
theorem Ok_nil (k : Kont) (s : S) : Ok x f k [] s lf = Rk x f k .n s lf := rfl
end
/-- A loop, by a measure. -/
theorem loop_k {x : Cx} {f : Ex → S → Prop} {k : Kont} {hd : S → S} {c : C} {α : Type} (F : α → S) (μ : α → Nat) (G : α → Prop)
    (step : ∀ a, G a → ∀ R : S → Prop, (∀ a' s, hd s = F a' → G a' → μ a' < μ a → R s) → Wk x (fun e s' => match e with | .n => R s' | e => Rk x f k e s' .mk) .base c (F a) .mk) {a : α} {s : S} {lb : Lock (W x c)} {lK : Lock (runK x f k)} (hs : hd s = F a) (ha : G a) :
    wloop hd (W x c) (runK x f k) s lb lK := loop_ind F μ G step hs ha
theorem wcallk_mk {x : Cx} {f : Ex → S → Prop} {lf : Lock f} {k : Kont} {d : Option Nat} {tm : Tm} {ltm : Lock tm} {hp : List Blk} {r : List I} {g : Nat} {as : List AV} (ts : List T) (bs : List Blk) (v : AV) (hs : x.spec g ts bs v) (ha : argsOK (lk hp) as ts)
    (hl : as.any AV.loose = true → v.fresh = true ∧ bs.all Blk.fresh = true) (hk : wupk x f (number hp.length bs) k (pt tm d (some (v.sh hp.length))) hp r .mk .mk) : wcallk x f k d tm hp r g as lf ltm :=
  wcall_mk ts bs v hs ha hl hk
end Go.Proofs.Ytadnjellfiafaaa.Pm
