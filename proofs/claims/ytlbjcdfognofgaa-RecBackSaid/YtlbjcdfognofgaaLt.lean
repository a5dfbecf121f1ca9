/- Plain lemmas, no program in sight: a text, a list as bytes; what was laid is read as it was, what is read is laid as it was. -/
import Derived.Test.YtlbjcdfognofgaaRd
namespace Go.Proofs.Ytlbjcdfognofgaa.Be
open Go.RowKit Go.Proofs.YtlbjcdfognofgaaW.PrintWords Go.Proofs.YtlbjcdfognofgaaW.PrintLast Go.Proofs.YtlbjcdfognofgaaW.PrintMore

/-- Two bytes of a number. -/
def lt2 (n : Int) : List Int := [n / 256 % 256, n % 256]

def ltText (s : ByteArray) : ByteArray × Int := if (s.size : Int) > 4096 then (⟨#[]⟩, 4) else (strOfNums (lt2 s.size) ++ s, 0)

/-- Numbers as bytes, one behind the other. -/
def lay8 : List Int → List Int
  | [] => []
  | n :: l => be8 (n + 9223372036854775808) ++ lay8 l

theorem lay8_append : ∀ (a b : List Int), lay8 (a ++ b) = lay8 a ++ lay8 b
  | [], _ => rfl
  | n :: a, b => by simp only [List.cons_append, lay8, lay8_append a b, List.append_assoc]

theorem lay8_one (n : Int) : lay8 [n] = be8 (n + 9223372036854775808) := by simp [lay8]

theorem lay8_length : ∀ (a : List Int), (lay8 a).length = 8 * a.length
  | [] => rfl
  | n :: a => by simp only [lay8, List.length_append, lay8_length a, List.length_cons, be8_length]; omega

theorem lay8_range : ∀ (a : List Int), ∀ x ∈ lay8 a, 0 ≤ x ∧ x ≤ 255
  | [], x, h => by simp [lay8] at h
  | n :: a, x, h => by
    simp only [lay8, List.mem_append] at h
    rcases h with h | h
    · exact be8_range _ x h
    · exact lay8_range a x h

theorem lt2_range (n : Int) : ∀ x ∈ lt2 n, 0 ≤ x ∧ x ≤ 255 := by
  intro x hx
  simp only [lt2, List.mem_cons, List.not_mem_nil, or_false] at hx
  omega

def ltList (x : List Int) : ByteArray × Int := if (x.length : Int) > 512 then (⟨#[]⟩, 4) else (strOfNums (lt2 x.length ++ lay8 x), 0)

end Go.Proofs.Ytlbjcdfognofgaa.Be
