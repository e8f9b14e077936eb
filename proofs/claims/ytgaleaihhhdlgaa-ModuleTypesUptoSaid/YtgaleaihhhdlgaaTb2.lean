/- The tables of the reading are the program's. -/
import Derived.Test.YtgaleaihhhdlgaaTb1
import Derived.Test.YtgaleaihhhdlgaaPm4

set_option linter.unusedVariables false
set_option linter.unusedSimpArgs false

namespace Go.Proofs.Ytgaleaihhhdlgaa.Pm
open Go.PM

theorem t155 : ∃ fn H, Go.Proofs.Try.prog.funcs[155]? = some fn ∧ (fn.name == "runtime.NumGoroutine") = false ∧ cFunc Go.Proofs.Try.prog H fn = some F155 := ⟨_, _, Go.Proofs.Try.func155, by kernel_rfl, c155⟩
theorem t205 : ∃ fn H, Go.Proofs.Try.prog.funcs[205]? = some fn ∧ (fn.name == "runtime.NumGoroutine") = false ∧ cFunc Go.Proofs.Try.prog H fn = some F205 := ⟨_, _, Go.Proofs.Try.func205, by kernel_rfl, c205⟩
theorem t156 : ∃ fn H, Go.Proofs.Try.prog.funcs[156]? = some fn ∧ (fn.name == "runtime.NumGoroutine") = false ∧ cFunc Go.Proofs.Try.prog H fn = some F156 := ⟨_, _, Go.Proofs.Try.func156, by kernel_rfl, c156⟩
theorem t206 : ∃ fn H, Go.Proofs.Try.prog.funcs[206]? = some fn ∧ (fn.name == "runtime.NumGoroutine") = false ∧ cFunc Go.Proofs.Try.prog H fn = some F206 := ⟨_, _, Go.Proofs.Try.func206, by kernel_rfl, c206⟩
theorem t157 : ∃ fn H, Go.Proofs.Try.prog.funcs[157]? = some fn ∧ (fn.name == "runtime.NumGoroutine") = false ∧ cFunc Go.Proofs.Try.prog H fn = some F157 := ⟨_, _, Go.Proofs.Try.func157, by kernel_rfl, c157⟩
theorem t102 : ∃ fn H, Go.Proofs.Try.prog.funcs[102]? = some fn ∧ (fn.name == "runtime.NumGoroutine") = false ∧ cFunc Go.Proofs.Try.prog H fn = some F102 := ⟨_, _, Go.Proofs.Try.func102, by kernel_rfl, c102⟩
theorem t69 : ∃ fn H, Go.Proofs.Try.prog.funcs[69]? = some fn ∧ (fn.name == "runtime.NumGoroutine") = false ∧ cFunc Go.Proofs.Try.prog H fn = some F69 := ⟨_, _, Go.Proofs.Try.func69, by kernel_rfl, c69⟩
theorem t130 : ∃ fn H, Go.Proofs.Try.prog.funcs[130]? = some fn ∧ (fn.name == "runtime.NumGoroutine") = false ∧ cFunc Go.Proofs.Try.prog H fn = some F130 := ⟨_, _, Go.Proofs.Try.func130, by kernel_rfl, c130⟩
theorem t207 : ∃ fn H, Go.Proofs.Try.prog.funcs[207]? = some fn ∧ (fn.name == "runtime.NumGoroutine") = false ∧ cFunc Go.Proofs.Try.prog H fn = some F207 := ⟨_, _, Go.Proofs.Try.func207, by kernel_rfl, c207⟩
theorem t230 : ∃ fn H, Go.Proofs.Try.prog.funcs[230]? = some fn ∧ (fn.name == "runtime.NumGoroutine") = false ∧ cFunc Go.Proofs.Try.prog H fn = some F230 := ⟨_, _, Go.Proofs.Try.func230, by kernel_rfl, c230⟩
theorem t208 : ∃ fn H, Go.Proofs.Try.prog.funcs[208]? = some fn ∧ (fn.name == "runtime.NumGoroutine") = false ∧ cFunc Go.Proofs.Try.prog H fn = some F208 := ⟨_, _, Go.Proofs.Try.func208, by kernel_rfl, c208⟩
theorem t209 : ∃ fn H, Go.Proofs.Try.prog.funcs[209]? = some fn ∧ (fn.name == "runtime.NumGoroutine") = false ∧ cFunc Go.Proofs.Try.prog H fn = some F209 := ⟨_, _, Go.Proofs.Try.func209, by kernel_rfl, c209⟩
theorem t158 : ∃ fn H, Go.Proofs.Try.prog.funcs[158]? = some fn ∧ (fn.name == "runtime.NumGoroutine") = false ∧ cFunc Go.Proofs.Try.prog H fn = some F158 := ⟨_, _, Go.Proofs.Try.func158, by kernel_rfl, c158⟩
theorem t159 : ∃ fn H, Go.Proofs.Try.prog.funcs[159]? = some fn ∧ (fn.name == "runtime.NumGoroutine") = false ∧ cFunc Go.Proofs.Try.prog H fn = some F159 := ⟨_, _, Go.Proofs.Try.func159, by kernel_rfl, c159⟩
theorem t112 : ∃ fn H, Go.Proofs.Try.prog.funcs[112]? = some fn ∧ (fn.name == "runtime.NumGoroutine") = false ∧ cFunc Go.Proofs.Try.prog H fn = some F112 := ⟨_, _, Go.Proofs.Try.func112, by kernel_rfl, c112⟩
theorem t54 : ∃ fn H, Go.Proofs.Try.prog.funcs[54]? = some fn ∧ (fn.name == "runtime.NumGoroutine") = false ∧ cFunc Go.Proofs.Try.prog H fn = some F54 := ⟨_, _, Go.Proofs.Try.func54, by kernel_rfl, c54⟩
theorem t160 : ∃ fn H, Go.Proofs.Try.prog.funcs[160]? = some fn ∧ (fn.name == "runtime.NumGoroutine") = false ∧ cFunc Go.Proofs.Try.prog H fn = some F160 := ⟨_, _, Go.Proofs.Try.func160, by kernel_rfl, c160⟩
theorem t161 : ∃ fn H, Go.Proofs.Try.prog.funcs[161]? = some fn ∧ (fn.name == "runtime.NumGoroutine") = false ∧ cFunc Go.Proofs.Try.prog H fn = some F161 := ⟨_, _, Go.Proofs.Try.func161, by kernel_rfl, c161⟩
theorem t103 : ∃ fn H, Go.Proofs.Try.prog.funcs[103]? = some fn ∧ (fn.name == "runtime.NumGoroutine") = false ∧ cFunc Go.Proofs.Try.prog H fn = some F103 := ⟨_, _, Go.Proofs.Try.func103, by kernel_rfl, c103⟩
theorem t104 : ∃ fn H, Go.Proofs.Try.prog.funcs[104]? = some fn ∧ (fn.name == "runtime.NumGoroutine") = false ∧ cFunc Go.Proofs.Try.prog H fn = some F104 := ⟨_, _, Go.Proofs.Try.func104, by kernel_rfl, c104⟩
theorem t46 : ∃ fn H, Go.Proofs.Try.prog.funcs[46]? = some fn ∧ (fn.name == "runtime.NumGoroutine") = false ∧ cFunc Go.Proofs.Try.prog H fn = some F46 := ⟨_, _, Go.Proofs.Try.func46, by kernel_rfl, c46⟩
theorem t58 : ∃ fn H, Go.Proofs.Try.prog.funcs[58]? = some fn ∧ (fn.name == "runtime.NumGoroutine") = false ∧ cFunc Go.Proofs.Try.prog H fn = some F58 := ⟨_, _, Go.Proofs.Try.func58, by kernel_rfl, c58⟩
theorem t74 : ∃ fn H, Go.Proofs.Try.prog.funcs[74]? = some fn ∧ (fn.name == "runtime.NumGoroutine") = false ∧ cFunc Go.Proofs.Try.prog H fn = some F74 := ⟨_, _, Go.Proofs.Try.func74, by kernel_rfl, c74⟩
theorem t76 : ∃ fn H, Go.Proofs.Try.prog.funcs[76]? = some fn ∧ (fn.name == "runtime.NumGoroutine") = false ∧ cFunc Go.Proofs.Try.prog H fn = some F76 := ⟨_, _, Go.Proofs.Try.func76, by kernel_rfl, c76⟩
theorem t137 : ∃ fn H, Go.Proofs.Try.prog.funcs[137]? = some fn ∧ (fn.name == "runtime.NumGoroutine") = false ∧ cFunc Go.Proofs.Try.prog H fn = some F137 := ⟨_, _, Go.Proofs.Try.func137, by kernel_rfl, c137⟩
theorem t75 : ∃ fn H, Go.Proofs.Try.prog.funcs[75]? = some fn ∧ (fn.name == "runtime.NumGoroutine") = false ∧ cFunc Go.Proofs.Try.prog H fn = some F75 := ⟨_, _, Go.Proofs.Try.func75, by kernel_rfl, c75⟩
theorem t138 : ∃ fn H, Go.Proofs.Try.prog.funcs[138]? = some fn ∧ (fn.name == "runtime.NumGoroutine") = false ∧ cFunc Go.Proofs.Try.prog H fn = some F138 := ⟨_, _, Go.Proofs.Try.func138, by kernel_rfl, c138⟩
theorem t57 : ∃ fn H, Go.Proofs.Try.prog.funcs[57]? = some fn ∧ (fn.name == "runtime.NumGoroutine") = false ∧ cFunc Go.Proofs.Try.prog H fn = some F57 := ⟨_, _, Go.Proofs.Try.func57, by kernel_rfl, c57⟩
theorem t116 : ∃ fn H, Go.Proofs.Try.prog.funcs[116]? = some fn ∧ (fn.name == "runtime.NumGoroutine") = false ∧ cFunc Go.Proofs.Try.prog H fn = some F116 := ⟨_, _, Go.Proofs.Try.func116, by kernel_rfl, c116⟩
theorem t173 : ∃ fn H, Go.Proofs.Try.prog.funcs[173]? = some fn ∧ (fn.name == "runtime.NumGoroutine") = false ∧ cFunc Go.Proofs.Try.prog H fn = some F173 := ⟨_, _, Go.Proofs.Try.func173, by kernel_rfl, c173⟩
theorem t115 : ∃ fn H, Go.Proofs.Try.prog.funcs[115]? = some fn ∧ (fn.name == "runtime.NumGoroutine") = false ∧ cFunc Go.Proofs.Try.prog H fn = some F115 := ⟨_, _, Go.Proofs.Try.func115, by kernel_rfl, c115⟩
theorem t139 : ∃ fn H, Go.Proofs.Try.prog.funcs[139]? = some fn ∧ (fn.name == "runtime.NumGoroutine") = false ∧ cFunc Go.Proofs.Try.prog H fn = some F139 := ⟨_, _, Go.Proofs.Try.func139, by kernel_rfl, c139⟩
theorem t77 : ∃ fn H, Go.Proofs.Try.prog.funcs[77]? = some fn ∧ (fn.name == "runtime.NumGoroutine") = false ∧ cFunc Go.Proofs.Try.prog H fn = some F77 := ⟨_, _, Go.Proofs.Try.func77, by kernel_rfl, c77⟩
theorem t162 : ∃ fn H, Go.Proofs.Try.prog.funcs[162]? = some fn ∧ (fn.name == "runtime.NumGoroutine") = false ∧ cFunc Go.Proofs.Try.prog H fn = some F162 := ⟨_, _, Go.Proofs.Try.func162, by kernel_rfl, c162⟩
theorem t106 : ∃ fn H, Go.Proofs.Try.prog.funcs[106]? = some fn ∧ (fn.name == "runtime.NumGoroutine") = false ∧ cFunc Go.Proofs.Try.prog H fn = some F106 := ⟨_, _, Go.Proofs.Try.func106, by kernel_rfl, c106⟩
theorem t163 : ∃ fn H, Go.Proofs.Try.prog.funcs[163]? = some fn ∧ (fn.name == "runtime.NumGoroutine") = false ∧ cFunc Go.Proofs.Try.prog H fn = some F163 := ⟨_, _, Go.Proofs.Try.func163, by kernel_rfl, c163⟩
theorem t164 : ∃ fn H, Go.Proofs.Try.prog.funcs[164]? = some fn ∧ (fn.name == "runtime.NumGoroutine") = false ∧ cFunc Go.Proofs.Try.prog H fn = some F164 := ⟨_, _, Go.Proofs.Try.func164, by kernel_rfl, c164⟩
theorem t210 : ∃ fn H, Go.Proofs.Try.prog.funcs[210]? = some fn ∧ (fn.name == "runtime.NumGoroutine") = false ∧ cFunc Go.Proofs.Try.prog H fn = some F210 := ⟨_, _, Go.Proofs.Try.func210, by kernel_rfl, c210⟩
theorem t165 : ∃ fn H, Go.Proofs.Try.prog.funcs[165]? = some fn ∧ (fn.name == "runtime.NumGoroutine") = false ∧ cFunc Go.Proofs.Try.prog H fn = some F165 := ⟨_, _, Go.Proofs.Try.func165, by kernel_rfl, c165⟩
theorem t166 : ∃ fn H, Go.Proofs.Try.prog.funcs[166]? = some fn ∧ (fn.name == "runtime.NumGoroutine") = false ∧ cFunc Go.Proofs.Try.prog H fn = some F166 := ⟨_, _, Go.Proofs.Try.func166, by kernel_rfl, c166⟩
theorem t168 : ∃ fn H, Go.Proofs.Try.prog.funcs[168]? = some fn ∧ (fn.name == "runtime.NumGoroutine") = false ∧ cFunc Go.Proofs.Try.prog H fn = some F168 := ⟨_, _, Go.Proofs.Try.func168, by kernel_rfl, c168⟩
theorem t211 : ∃ fn H, Go.Proofs.Try.prog.funcs[211]? = some fn ∧ (fn.name == "runtime.NumGoroutine") = false ∧ cFunc Go.Proofs.Try.prog H fn = some F211 := ⟨_, _, Go.Proofs.Try.func211, by kernel_rfl, c211⟩
theorem t167 : ∃ fn H, Go.Proofs.Try.prog.funcs[167]? = some fn ∧ (fn.name == "runtime.NumGoroutine") = false ∧ cFunc Go.Proofs.Try.prog H fn = some F167 := ⟨_, _, Go.Proofs.Try.func167, by kernel_rfl, c167⟩
theorem t113 : ∃ fn H, Go.Proofs.Try.prog.funcs[113]? = some fn ∧ (fn.name == "runtime.NumGoroutine") = false ∧ cFunc Go.Proofs.Try.prog H fn = some F113 := ⟨_, _, Go.Proofs.Try.func113, by kernel_rfl, c113⟩
theorem t223 : ∃ fn H, Go.Proofs.Try.prog.funcs[223]? = some fn ∧ (fn.name == "runtime.NumGoroutine") = false ∧ cFunc Go.Proofs.Try.prog H fn = some F223 := ⟨_, _, Go.Proofs.Try.func223, by kernel_rfl, c223⟩
theorem t235 : ∃ fn H, Go.Proofs.Try.prog.funcs[235]? = some fn ∧ (fn.name == "runtime.NumGoroutine") = false ∧ cFunc Go.Proofs.Try.prog H fn = some F235 := ⟨_, _, Go.Proofs.Try.func235, by kernel_rfl, c235⟩
theorem t236 : ∃ fn H, Go.Proofs.Try.prog.funcs[236]? = some fn ∧ (fn.name == "runtime.NumGoroutine") = false ∧ cFunc Go.Proofs.Try.prog H fn = some F236 := ⟨_, _, Go.Proofs.Try.func236, by kernel_rfl, c236⟩
theorem t231 : ∃ fn H, Go.Proofs.Try.prog.funcs[231]? = some fn ∧ (fn.name == "runtime.NumGoroutine") = false ∧ cFunc Go.Proofs.Try.prog H fn = some F231 := ⟨_, _, Go.Proofs.Try.func231, by kernel_rfl, c231⟩
theorem t212 : ∃ fn H, Go.Proofs.Try.prog.funcs[212]? = some fn ∧ (fn.name == "runtime.NumGoroutine") = false ∧ cFunc Go.Proofs.Try.prog H fn = some F212 := ⟨_, _, Go.Proofs.Try.func212, by kernel_rfl, c212⟩
theorem t169 : ∃ fn H, Go.Proofs.Try.prog.funcs[169]? = some fn ∧ (fn.name == "runtime.NumGoroutine") = false ∧ cFunc Go.Proofs.Try.prog H fn = some F169 := ⟨_, _, Go.Proofs.Try.func169, by kernel_rfl, c169⟩
theorem t108 : ∃ fn H, Go.Proofs.Try.prog.funcs[108]? = some fn ∧ (fn.name == "runtime.NumGoroutine") = false ∧ cFunc Go.Proofs.Try.prog H fn = some F108 := ⟨_, _, Go.Proofs.Try.func108, by kernel_rfl, c108⟩
theorem t107 : ∃ fn H, Go.Proofs.Try.prog.funcs[107]? = some fn ∧ (fn.name == "runtime.NumGoroutine") = false ∧ cFunc Go.Proofs.Try.prog H fn = some F107 := ⟨_, _, Go.Proofs.Try.func107, by kernel_rfl, c107⟩
theorem t49 : ∃ fn H, Go.Proofs.Try.prog.funcs[49]? = some fn ∧ (fn.name == "runtime.NumGoroutine") = false ∧ cFunc Go.Proofs.Try.prog H fn = some F49 := ⟨_, _, Go.Proofs.Try.func49, by kernel_rfl, c49⟩
theorem t140 : ∃ fn H, Go.Proofs.Try.prog.funcs[140]? = some fn ∧ (fn.name == "runtime.NumGoroutine") = false ∧ cFunc Go.Proofs.Try.prog H fn = some F140 := ⟨_, _, Go.Proofs.Try.func140, by kernel_rfl, c140⟩
theorem t194 : ∃ fn H, Go.Proofs.Try.prog.funcs[194]? = some fn ∧ (fn.name == "runtime.NumGoroutine") = false ∧ cFunc Go.Proofs.Try.prog H fn = some F194 := ⟨_, _, Go.Proofs.Try.func194, by kernel_rfl, c194⟩
theorem t193 : ∃ fn H, Go.Proofs.Try.prog.funcs[193]? = some fn ∧ (fn.name == "runtime.NumGoroutine") = false ∧ cFunc Go.Proofs.Try.prog H fn = some F193 := ⟨_, _, Go.Proofs.Try.func193, by kernel_rfl, c193⟩
theorem t141 : ∃ fn H, Go.Proofs.Try.prog.funcs[141]? = some fn ∧ (fn.name == "runtime.NumGoroutine") = false ∧ cFunc Go.Proofs.Try.prog H fn = some F141 := ⟨_, _, Go.Proofs.Try.func141, by kernel_rfl, c141⟩
theorem t78 : ∃ fn H, Go.Proofs.Try.prog.funcs[78]? = some fn ∧ (fn.name == "runtime.NumGoroutine") = false ∧ cFunc Go.Proofs.Try.prog H fn = some F78 := ⟨_, _, Go.Proofs.Try.func78, by kernel_rfl, c78⟩
theorem t25 : ∃ fn H, Go.Proofs.Try.prog.funcs[25]? = some fn ∧ (fn.name == "runtime.NumGoroutine") = false ∧ cFunc Go.Proofs.Try.prog H fn = some F25 := ⟨_, _, Go.Proofs.Try.func25, by kernel_rfl, c25⟩
theorem t27 : ∃ fn H, Go.Proofs.Try.prog.funcs[27]? = some fn ∧ (fn.name == "runtime.NumGoroutine") = false ∧ cFunc Go.Proofs.Try.prog H fn = some F27 := ⟨_, _, Go.Proofs.Try.func27, by kernel_rfl, c27⟩
theorem t14 : ∃ fn H, Go.Proofs.Try.prog.funcs[14]? = some fn ∧ (fn.name == "runtime.NumGoroutine") = false ∧ cFunc Go.Proofs.Try.prog H fn = some F14 := ⟨_, _, Go.Proofs.Try.func14, by kernel_rfl, c14⟩
theorem t15 : ∃ fn H, Go.Proofs.Try.prog.funcs[15]? = some fn ∧ (fn.name == "runtime.NumGoroutine") = false ∧ cFunc Go.Proofs.Try.prog H fn = some F15 := ⟨_, _, Go.Proofs.Try.func15, by kernel_rfl, c15⟩
theorem t16 : ∃ fn H, Go.Proofs.Try.prog.funcs[16]? = some fn ∧ (fn.name == "runtime.NumGoroutine") = false ∧ cFunc Go.Proofs.Try.prog H fn = some F16 := ⟨_, _, Go.Proofs.Try.func16, by kernel_rfl, c16⟩
theorem t63 : ∃ fn H, Go.Proofs.Try.prog.funcs[63]? = some fn ∧ (fn.name == "runtime.NumGoroutine") = false ∧ cFunc Go.Proofs.Try.prog H fn = some F63 := ⟨_, _, Go.Proofs.Try.func63, by kernel_rfl, c63⟩
theorem t65 : ∃ fn H, Go.Proofs.Try.prog.funcs[65]? = some fn ∧ (fn.name == "runtime.NumGoroutine") = false ∧ cFunc Go.Proofs.Try.prog H fn = some F65 := ⟨_, _, Go.Proofs.Try.func65, by kernel_rfl, c65⟩
theorem t87 : ∃ fn H, Go.Proofs.Try.prog.funcs[87]? = some fn ∧ (fn.name == "runtime.NumGoroutine") = false ∧ cFunc Go.Proofs.Try.prog H fn = some F87 := ⟨_, _, Go.Proofs.Try.func87, by kernel_rfl, c87⟩
theorem t64 : ∃ fn H, Go.Proofs.Try.prog.funcs[64]? = some fn ∧ (fn.name == "runtime.NumGoroutine") = false ∧ cFunc Go.Proofs.Try.prog H fn = some F64 := ⟨_, _, Go.Proofs.Try.func64, by kernel_rfl, c64⟩
theorem t117 : ∃ fn H, Go.Proofs.Try.prog.funcs[117]? = some fn ∧ (fn.name == "runtime.NumGoroutine") = false ∧ cFunc Go.Proofs.Try.prog H fn = some F117 := ⟨_, _, Go.Proofs.Try.func117, by kernel_rfl, c117⟩
theorem t118 : ∃ fn H, Go.Proofs.Try.prog.funcs[118]? = some fn ∧ (fn.name == "runtime.NumGoroutine") = false ∧ cFunc Go.Proofs.Try.prog H fn = some F118 := ⟨_, _, Go.Proofs.Try.func118, by kernel_rfl, c118⟩
theorem t59 : ∃ fn H, Go.Proofs.Try.prog.funcs[59]? = some fn ∧ (fn.name == "runtime.NumGoroutine") = false ∧ cFunc Go.Proofs.Try.prog H fn = some F59 := ⟨_, _, Go.Proofs.Try.func59, by kernel_rfl, c59⟩
theorem t17 : ∃ fn H, Go.Proofs.Try.prog.funcs[17]? = some fn ∧ (fn.name == "runtime.NumGoroutine") = false ∧ cFunc Go.Proofs.Try.prog H fn = some F17 := ⟨_, _, Go.Proofs.Try.func17, by kernel_rfl, c17⟩
theorem t60 : ∃ fn H, Go.Proofs.Try.prog.funcs[60]? = some fn ∧ (fn.name == "runtime.NumGoroutine") = false ∧ cFunc Go.Proofs.Try.prog H fn = some F60 := ⟨_, _, Go.Proofs.Try.func60, by kernel_rfl, c60⟩
theorem t18 : ∃ fn H, Go.Proofs.Try.prog.funcs[18]? = some fn ∧ (fn.name == "runtime.NumGoroutine") = false ∧ cFunc Go.Proofs.Try.prog H fn = some F18 := ⟨_, _, Go.Proofs.Try.func18, by kernel_rfl, c18⟩
theorem t19 : ∃ fn H, Go.Proofs.Try.prog.funcs[19]? = some fn ∧ (fn.name == "runtime.NumGoroutine") = false ∧ cFunc Go.Proofs.Try.prog H fn = some F19 := ⟨_, _, Go.Proofs.Try.func19, by kernel_rfl, c19⟩
theorem t4 : ∃ fn H, Go.Proofs.Try.prog.funcs[4]? = some fn ∧ (fn.name == "runtime.NumGoroutine") = false ∧ cFunc Go.Proofs.Try.prog H fn = some F4 := ⟨_, _, Go.Proofs.Try.func4, by kernel_rfl, c4⟩
theorem tab_ok : Tab Go.Proofs.Try.prog tab := by
  intro f F h
  unfold tab at h
  split at h
  · cases h; exact t155
  · cases h; exact t205
  · cases h; exact t156
  · cases h; exact t206
  · cases h; exact t157
  · cases h; exact t102
  · cases h; exact t69
  · cases h; exact t130
  · cases h; exact t207
  · cases h; exact t230
  · cases h; exact t208
  · cases h; exact t209
  · cases h; exact t158
  · cases h; exact t159
  · cases h; exact t112
  · cases h; exact t54
  · cases h; exact t160
  · cases h; exact t161
  · cases h; exact t103
  · cases h; exact t104
  · cases h; exact t46
  · cases h; exact t58
  · cases h; exact t74
  · cases h; exact t76
  · cases h; exact t137
  · cases h; exact t75
  · cases h; exact t138
  · cases h; exact t57
  · cases h; exact t116
  · cases h; exact t173
  · cases h; exact t115
  · cases h; exact t139
  · cases h; exact t77
  · cases h; exact t162
  · cases h; exact t106
  · cases h; exact t163
  · cases h; exact t164
  · cases h; exact t210
  · cases h; exact t165
  · cases h; exact t166
  · cases h; exact t168
  · cases h; exact t211
  · cases h; exact t167
  · cases h; exact t113
  · cases h; exact t223
  · cases h; exact t235
  · cases h; exact t236
  · cases h; exact t231
  · cases h; exact t212
  · cases h; exact t169
  · cases h; exact t108
  · cases h; exact t107
  · cases h; exact t49
  · cases h; exact t140
  · cases h; exact t194
  · cases h; exact t193
  · cases h; exact t141
  · cases h; exact t78
  · cases h; exact t25
  · cases h; exact t27
  · cases h; exact t14
  · cases h; exact t15
  · cases h; exact t16
  · cases h; exact t63
  · cases h; exact t65
  · cases h; exact t87
  · cases h; exact t64
  · cases h; exact t117
  · cases h; exact t118
  · cases h; exact t59
  · cases h; exact t17
  · cases h; exact t60
  · cases h; exact t18
  · cases h; exact t19
  · cases h; exact t4
  · cases h

end Go.Proofs.Ytgaleaihhhdlgaa.Pm
