-- written by lawS.py, a program of ours: what is known of the arguments, and the one plain statement
import Derived.Test.YtmkmooifgcdocaaFAllx14
namespace Go.Proofs.Ytmkmooifgcdocaa.binsCodes
open Go.RowKit Go.Proofs.Ytmkmooifgcdocaa.FAll Go.Proofs.YtmkmooifgcdocaaW.PrintWords Go.Proofs.YtmkmooifgcdocaaW.PrintLast Go.Proofs.YtmkmooifgcdocaaW.PrintMore
def ok26 (xs : List Nat) : Prop := xs.length * 8 ≤ 140737488351232 ∧ ∀ x ∈ xs, x < 2 ^ 64
def ok22 (xs : List (List Nat)) : Prop := xs.length * 24 ≤ 140737488351232 ∧ ∀ x ∈ xs, ok26 x
def ok47 (xs : List Int) : Prop := xs.length * 8 ≤ 140737488351232 ∧ ∀ x ∈ xs, (Lit.int .i64 x).wf = true
def ok23 (xs : List (List Int)) : Prop := xs.length * 24 ≤ 140737488351232 ∧ ∀ x ∈ xs, ok47 x
def ok25 (x : S25) : Prop := (ok22 x.f0) ∧ (ok23 x.f1)
def ok28 (x : S28) : Prop := ((Lit.int .i64 x.f0).wf = true) ∧ ((Lit.int .i64 x.f1).wf = true) ∧ (True)
def Pure : Prop := ∀ (x0 : S25) (x1 : List Nat) (x2 : Int) (x3 : S28), ok25 x0 → ok26 x1 → (Lit.int .i64 x2).wf = true → ok28 x3 → ∃ k, thicketlaw20_BinsCodes.f k x0.f0 x0.f1 x1 x2 x3.f0 x3.f1 x3.f2 = some true
end Go.Proofs.Ytmkmooifgcdocaa.binsCodes
