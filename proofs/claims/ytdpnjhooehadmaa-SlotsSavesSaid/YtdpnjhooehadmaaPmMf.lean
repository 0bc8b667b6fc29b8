/- Texts of this proof in one file: PmFi, PmFj, PmFk, PmFl, PmFm, PmFqd. No law of Go's is stated here. -/
import Derived.Test.YtdpnjhooehadmaaPmMe
/-! PmFi -/
set_option linter.all false
namespace Go.Proofs.Ytdpnjhooehadmaa.Pm
open Go Go.RowKit

/-- What a scan keeps to. -/
structure ScanOK (bs : List (BitVec 8)) (m : List Rec) : Prop where
  bytes : ∃ q, bs = catR m ++ q
  ok : ∀ r ∈ m, r.ok = true
  row : ∀ k (h : k + 1 < m.length), m[k + 1].num = m[k].num + 1
end Go.Proofs.Ytdpnjhooehadmaa.Pm

/-! PmFj -/
set_option linter.all false
set_option maxRecDepth 100000
namespace Go.Proofs.Ytdpnjhooehadmaa.Pm
open Go Go.RowKit

def gotoF (x : Cx) (f : Ex → S → Prop) (k : Kont) (J : Nat → Nat → S → Prop) (e : Ex) (s : S) : Prop := match e with
  | .g l => ∃ n, J l n s
  | e => runK x f k e s
def gotoN (x : Cx) (f : Ex → S → Prop) (k : Kont) (J : Nat → Nat → S → Prop) (n : Nat) (e : Ex) (s : S) : Prop := match e with
  | .g l => ∃ n', n' < n ∧ J l n' s
  | e => runK x f k e s
section
variable (x : Cx) (f : Ex → S → Prop) (k : Kont) (J : Nat → Nat → S → Prop) (n : Nat) (s : S)
theorem gotoF_g (l : Nat) : gotoF x f k J (.g l) s = ∃ n, J l n s := rfl
theorem gotoF_r : gotoF x f k J .r s = Rk x f k .r s .mk := rfl
theorem gotoF_n : gotoF x f k J .n s = Rk x f k .n s .mk := rfl
theorem gotoN_g (l : Nat) : gotoN x f k J n (.g l) s = ∃ n', n' < n ∧ J l n' s := rfl
theorem gotoN_r : gotoN x f k J n .r s = Rk x f k .r s .mk := rfl
theorem gotoN_n : gotoN x f k J n .n s = Rk x f k .n s .mk := rfl
end
attribute [go_sem ↓] gotoF_g gotoF_r gotoF_n gotoN_g gotoN_r gotoN_n
end Go.Proofs.Ytdpnjhooehadmaa.Pm

/-! PmFk -/
set_option linter.all false
set_option maxRecDepth 100000
namespace Go.Proofs.Ytdpnjhooehadmaa.Pm
open Go Go.RowKit

end Go.Proofs.Ytdpnjhooehadmaa.Pm

/-! PmFl -/
set_option linter.all false
set_option maxRecDepth 100000
namespace Go.Proofs.Ytdpnjhooehadmaa.Pm
open Go Go.RowKit

end Go.Proofs.Ytdpnjhooehadmaa.Pm

/-! PmFm -/
set_option linter.all false
set_option maxRecDepth 100000
namespace Go.Proofs.Ytdpnjhooehadmaa.Pm
open Go Go.RowKit

/-- Records that are valid, with numbers one behind the other. -/
def follows : List Rec → Bool
  | [] => true
  | [r] => r.ok
  | r :: s :: l => r.ok && (decide (s.num = r.num + 1) && follows (s :: l))
end Go.Proofs.Ytdpnjhooehadmaa.Pm

/-! PmFqd -/
set_option linter.all false
namespace Go.Proofs.Ytdpnjhooehadmaa.Pm
open Go Go.RowKit

end Go.Proofs.Ytdpnjhooehadmaa.Pm
