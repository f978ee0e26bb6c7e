/- Joined by a program (wip/shake.py): the declarations that 'YtlkheeegkifblaaDoorCardFnDoWhere' reaches. -/
import Derived.Test.YtlkheeegkifblaaDoorZFa2
set_option linter.unusedVariables false
set_option linter.unusedSimpArgs false
set_option linter.unusedSectionVars false

