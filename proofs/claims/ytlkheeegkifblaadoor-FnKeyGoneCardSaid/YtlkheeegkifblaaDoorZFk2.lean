/- Joined by a program (wip/shake.py): the declarations that 'YtlkheeegkifblaaDoorCardFnKeyGone' reaches. -/
import Derived.Test.YtlkheeegkifblaaDoorZFk1
set_option linter.unusedVariables false
set_option linter.unusedSimpArgs false
set_option linter.unusedSectionVars false

