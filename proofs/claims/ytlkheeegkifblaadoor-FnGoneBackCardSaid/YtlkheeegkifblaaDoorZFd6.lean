/- Joined by a program (wip/shake.py): the declarations that 'YtlkheeegkifblaaDoorCardFnGoneBack' reaches. -/
import Derived.Test.YtlkheeegkifblaaDoorZFd5
set_option linter.unusedVariables false
set_option linter.unusedSimpArgs false
set_option linter.unusedSectionVars false

