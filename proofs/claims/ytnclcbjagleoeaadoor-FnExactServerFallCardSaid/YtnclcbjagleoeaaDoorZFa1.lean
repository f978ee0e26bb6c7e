/- Joined by a program (wip/shake.py): the declarations that 'YtnclcbjagleoeaaDoorCardFnExactServerFall' reaches. -/
import Derived.Test.YtnclcbjagleoeaaDoorZFa0
