/- Pg -/
import Derived.Test.YtjoechkdmdinoaaGreatDoorMCy
set_option linter.unusedVariables false
set_option linter.unusedSimpArgs false
namespace Go.Proofs.YtjoechkdmdinoaaGreatDoor
open Go.RowKit
theorem leN_leL : ∀ (k : Nat) (n : Nat),n < 256 ^ k → leN (leL n k) = n:=by
 intro k
 induction k with
 | zero=>intro n h;simp at h;subst h;rfl
 | succ k ih=>
  intro n h
  rw [leL,leN]
  have e1 : ((n : Int) % 256).toNat = n % 256:=by omega
  have e2 : (n : Int) / 256 = ((n / 256 : Nat) : Int):=by omega
  rw [e1,e2,ih (n / 256) (by rw [Nat.pow_succ] at h;omega),UInt8.toNat_ofNat']
  omega
theorem leL_len (n : Int) : ∀ k,(leL n k).length = k:=by
 intro k
 induction k generalizing n with
 | zero=>rfl
 | succ k ih=>rw [leL,List.length_cons,ih]
section
variable (crc : List UInt8 → Nat)
def smallR (x : RS) (k : Nat) : RS × Nat:=((takeR x k).1,leN (bl (takeR x k).2))
theorem Rest.small {x : RS} {n k : Nat} {q : List UInt8} (hn : n < 256 ^ k) (h : Rest x (leL n k ++ q)) : Rest (adv x k) q ∧ smallR x k = (adv x k,n):=by
 have h1:=h.step
 rw [leL_len] at h1
 refine ⟨h1.1,?_⟩
 unfold smallR
 rw [h1.2]
 show (adv x k,leN (leL n k)) = _
 rw [leN_leL k n hn]
end
end Go.Proofs.YtjoechkdmdinoaaGreatDoor
