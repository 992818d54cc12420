import Derived.Test.YtildnaomamnkgaaGreatDoorGvKTails
set_option linter.unusedSimpArgs false
set_option linter.unusedVariables false
set_option maxRecDepth 100000
open Rx Go Gv Rd
namespace Gv.KTails2
theorem acQ : PF 100 := fun k h0 h1 h2 => seg_lt (tl := []) (es := []) [] aI QW (fun _ h => by cases h) (by kernel_rfl) (by kernel_rfl) (by kernel_rfl) 21 (q := (((k == 0) = true -> False) /\ ((k == 0) = false -> qt))) (by
 refine ⟨fun hc1 => ?_, fun hc1 => ?_⟩
 · simp only [beq_iff_eq, beq_eq_false_iff_ne, ne_eq, decide_eq_true_eq, decide_eq_false_iff_not, Int.not_le, Int.not_lt] at hc1
   omega
 · simp only [beq_iff_eq, beq_eq_false_iff_ne, ne_eq, decide_eq_true_eq, decide_eq_false_iff_not, Int.not_le, Int.not_lt] at hc1
   rfl
 ) (by kernel_rfl)
theorem aas : W_f 99 := fun _ => ⟨⟨by kernel_rfl, by kernel_rfl⟩, by kernel_rfl⟩
theorem F99 : PF 99 := PFs 99 aas acQ (by decide)
theorem ae1 : W_f 98 := fun _ => ⟨⟨by kernel_rfl, by kernel_rfl⟩, by kernel_rfl⟩
theorem F98 : PF 98 := PFs 98 ae1 F99 (by decide)
theorem ac0 : W_f 97 := fun _ => ⟨⟨by kernel_rfl, by kernel_rfl⟩, by kernel_rfl⟩
theorem F97 : PF 97 := PFs 97 ac0 F98 (by decide)
theorem adf : W_f 96 := fun _ => ⟨⟨by kernel_rfl, by kernel_rfl⟩, by kernel_rfl⟩
theorem F96 : PF 96 := PFs 96 adf F97 (by decide)
theorem ac1 : W_f 95 := fun _ => ⟨⟨by kernel_rfl, by kernel_rfl⟩, by kernel_rfl⟩
theorem F95 : PF 95 := PFs 95 ac1 F96 (by decide)
theorem adM : W_f 94 := fun _ => ⟨⟨by kernel_rfl, by kernel_rfl⟩, by kernel_rfl⟩
theorem F94 : PF 94 := PFs 94 adM F95 (by decide)
theorem abC : W_f 93 := fun _ => ⟨⟨by kernel_rfl, by kernel_rfl⟩, by kernel_rfl⟩
theorem F93 : PF 93 := PFs 93 abC F94 (by decide)
theorem ad2 : W_f 92 := fun _ => ⟨⟨by kernel_rfl, by kernel_rfl⟩, by kernel_rfl⟩
theorem F92 : PF 92 := PFs 92 ad2 F93 (by decide)
theorem abT : W_f 91 := fun _ => ⟨⟨by kernel_rfl, by kernel_rfl⟩, by kernel_rfl⟩
theorem F91 : PF 91 := PFs 91 abT F92 (by decide)
theorem aeu : W_f 90 := fun _ => ⟨⟨by kernel_rfl, by kernel_rfl⟩, by kernel_rfl⟩
theorem F90 : PF 90 := PFs 90 aeu F91 (by decide)
theorem acY : W_f 89 := fun _ => ⟨⟨by kernel_rfl, by kernel_rfl⟩, by kernel_rfl⟩
theorem F89 : PF 89 := PFs 89 acY F90 (by decide)
theorem ad1 : W_f 88 := fun _ => ⟨⟨by kernel_rfl, by kernel_rfl⟩, by kernel_rfl⟩
theorem F88 : PF 88 := PFs 88 ad1 F89 (by decide)
theorem ae9 : W_f 87 := fun _ => ⟨⟨by kernel_rfl, by kernel_rfl⟩, by kernel_rfl⟩
theorem F87 : PF 87 := PFs 87 ae9 F88 (by decide)
theorem aeE : W_f 86 := fun _ => ⟨⟨by kernel_rfl, by kernel_rfl⟩, by kernel_rfl⟩
theorem F86 : PF 86 := PFs 86 aeE F87 (by decide)
theorem acz : W_f 85 := fun _ => ⟨⟨by kernel_rfl, by kernel_rfl⟩, by kernel_rfl⟩
theorem F85 : PF 85 := PFs 85 acz F86 (by decide)
theorem aal : W_f 84 := fun _ => ⟨⟨by kernel_rfl, by kernel_rfl⟩, by kernel_rfl⟩
theorem F84 : PF 84 := PFs 84 aal F85 (by decide)
theorem aeV : W_f 83 := fun _ => ⟨⟨by kernel_rfl, by kernel_rfl⟩, by kernel_rfl⟩
theorem F83 : PF 83 := PFs 83 aeV F84 (by decide)
theorem afh : W_f 82 := fun _ => ⟨⟨by kernel_rfl, by kernel_rfl⟩, by kernel_rfl⟩
theorem F82 : PF 82 := PFs 82 afh F83 (by decide)
theorem abk : W_f 81 := fun _ => ⟨⟨by kernel_rfl, by kernel_rfl⟩, by kernel_rfl⟩
theorem F81 : PF 81 := PFs 81 abk F82 (by decide)
theorem ab8 : W_f 80 := fun _ => ⟨⟨by kernel_rfl, by kernel_rfl⟩, by kernel_rfl⟩
theorem F80 : PF 80 := PFs 80 ab8 F81 (by decide)
theorem aaH : W_f 79 := fun _ => ⟨⟨by kernel_rfl, by kernel_rfl⟩, by kernel_rfl⟩
theorem F79 : PF 79 := PFs 79 aaH F80 (by decide)
theorem aeQ : W_f 78 := fun _ => ⟨⟨by kernel_rfl, by kernel_rfl⟩, by kernel_rfl⟩
theorem F78 : PF 78 := PFs 78 aeQ F79 (by decide)
theorem acZ : W_f 77 := fun _ => ⟨⟨by kernel_rfl, by kernel_rfl⟩, by kernel_rfl⟩
theorem F77 : PF 77 := PFs 77 acZ F78 (by decide)
theorem aeS : W_f 76 := fun _ => ⟨⟨by kernel_rfl, by kernel_rfl⟩, by kernel_rfl⟩
theorem F76 : PF 76 := PFs 76 aeS F77 (by decide)
theorem afy : W_f 75 := fun _ => ⟨⟨by kernel_rfl, by kernel_rfl⟩, by kernel_rfl⟩
theorem F75 : PF 75 := PFs 75 afy F76 (by decide)
theorem aa4 : W_f 74 := fun _ => ⟨⟨by kernel_rfl, by kernel_rfl⟩, by kernel_rfl⟩
theorem F74 : PF 74 := PFs 74 aa4 F75 (by decide)
theorem aaR : W_f 73 := fun _ => ⟨⟨by kernel_rfl, by kernel_rfl⟩, by kernel_rfl⟩
theorem F73 : PF 73 := PFs 73 aaR F74 (by decide)
theorem abI : W_f 72 := fun _ => ⟨⟨by kernel_rfl, by kernel_rfl⟩, by kernel_rfl⟩
theorem F72 : PF 72 := PFs 72 abI F73 (by decide)
theorem aez : W_f 71 := fun _ => ⟨⟨by kernel_rfl, by kernel_rfl⟩, by kernel_rfl⟩
theorem F71 : PF 71 := PFs 71 aez F72 (by decide)
theorem adq : W_f 70 := fun _ => ⟨⟨by kernel_rfl, by kernel_rfl⟩, by kernel_rfl⟩
theorem F70 : PF 70 := PFs 70 adq F71 (by decide)
theorem aeU : W_f 69 := fun _ => ⟨⟨by kernel_rfl, by kernel_rfl⟩, by kernel_rfl⟩
theorem F69 : PF 69 := PFs 69 aeU F70 (by decide)
theorem afv : W_f 68 := fun _ => ⟨⟨by kernel_rfl, by kernel_rfl⟩, by kernel_rfl⟩
theorem F68 : PF 68 := PFs 68 afv F69 (by decide)
theorem ab4 : W_f 67 := fun _ => ⟨⟨by kernel_rfl, by kernel_rfl⟩, by kernel_rfl⟩
theorem F67 : PF 67 := PFs 67 ab4 F68 (by decide)
end Gv.KTails2
