/- Joined by a program (wip/shake.py): the declarations that 'YtnclcbjagleoeaaDoorCardFnServerSync' reaches. -/
import Derived.Test.YtnclcbjagleoeaaDoorZQ21

