/- Joined by a program (wip/shake.py): the declarations that 'YtnclcbjagleoeaaDoorCardFnSyncNews' reaches. -/
import Derived.Test.YtnclcbjagleoeaaDoorZQ41

