/- Joined by a program (wip/shake.py): the declarations that 'YtdpklbomhdpimaaDoorCardFnLogTree' reaches. -/
import Derived.Test.YtdpklbomhdpimaaDoorZLa0
set_option linter.unusedVariables false
set_option linter.unusedSimpArgs false
set_option linter.unusedSectionVars false

