/- Joined by a program (wip/shake.py): the declarations that 'YtnclcbjagleoeaaDoorCardFnExactServerSync' reaches. -/
import Derived.Test.YtnclcbjagleoeaaDoorZSy0
